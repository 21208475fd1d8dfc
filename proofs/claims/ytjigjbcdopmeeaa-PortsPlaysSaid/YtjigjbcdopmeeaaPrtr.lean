/- The document's ports: Transfer. -/
import Derived.Test.YtjigjbcdopmeeaaPrrecv
namespace Go.Proofs.Ytjigjbcdopmeeaa.Po
open Go Go.Sl Go.RowKit Go.Proofs Go.Proofs.Ytjigjbcdopmeeaa.T
set_option linter.unusedVariables false
set_option linter.unusedSimpArgs false
set_option maxRecDepth 100000
/-- How two ends stand within Transfer. -/
structure Rw (ac : AC) (y z : End) (pl : List Msg) : Prop where
  sl : y.bs.length ≤ 8
  rl : z.bs.length ≤ 8
  sm : ∀ m ∈ y.bs, m.length ≤ 64
  rm : ∀ m ∈ z.bs, m.length ≤ 64
  mem : ∀ m, m ∈ y.ms ∨ m ∈ z.ms → m ∈ pl
  le : y.bs.length ≤ ac.s.length
theorem bs_len (y : End) : y.bs.length = y.ms.length := by simp [End.bs]
section
variable (W0 : World) (Fr : List HProp)
set_option maxHeartbeats 4000000 in
theorem rtransfer_spec {r : Nat} {acs : List AC} (hsm : ∀ a ∈ acs, a.kind ≠ 2 → a.s.length ≤ 1) : Ctr Try.prog W0 39 [.pointer (some ⟨r, 0, none⟩)] (Rp r acs :: Fr) (fun _ : Option Addr × Nat => True) (fun q => .slice q.1 (wentI acs acs.length).length q.2) (fun q => oins q.1 q.2 (wentI acs acs.length) :: Rp r (acs.map AC.tr) :: Fr) := by
  refine Ctr.pure (ψ := acs.length ≤ 1000) (fun w hw => by obtain ⟨_, _, x, hx, _⟩ := Sat.ext Ext.here hw; exact hx.len) fun hal => ?_
  refine Ctr.of_body Try.func39 rfl Try.ntmps39 rfl ?_
  refine CG.seq ?_
  refine CG.region ?_
  refine OG.yield (Yield.assign rfl) rfl ?_
  refine OG.nil ?_
  refine QG.then ?_
  refine CG.seq ?_
  refine CG.region ?_
  refine OG.yield (Yield.assign rfl) rfl ?_
  refine OG.nil ?_
  refine QG.then ?_
  refine CG.seq ?_
  refine CG.seq ?_
  refine CG.region ?_
  refine OG.yield (Yield.assign rfl) rfl ?_
  refine OG.nil ?_
  refine QG.then ?_
  refine CG.block ?_
  refine CG.loop (fun s : Nat × Option Addr × Nat => s.1 ≤ acs.length) (fun s => [(0, .pointer (some ⟨r, 0, none⟩)), (3, .slice s.2.1 (wentI acs s.1).length s.2.2), (4, .int .i64 s.1)]) (fun s => oins s.2.1 s.2.2 (wentI acs s.1) :: Rp r ((acs.take s.1).map AC.tr ++ acs.drop s.1) :: Fr) (fun s => acs.length - s.1) (0, none, 0) (Nat.zero_le _) (by repeat (first | exact Env.sub_nil _ | refine Env.sub_cons rfl ?_)) (by simp only [List.take_zero, List.map_nil, List.nil_append, List.drop_zero]; exact osl_nil (E := 3) (sz := 1)) ?_
  rintro ⟨i, a3, c3⟩ (hi : i ≤ acs.length)
  have hwl := wentI_len acs i
  have hlA : ((acs.take i).map AC.tr ++ acs.drop i).length = acs.length := by simp; omega
  have hstep : ∀ ac, acs[i]? = some ac → ((acs.take i).map AC.tr ++ acs.drop i)[i]? = some ac ∧ (acs.take (i + 1)).map AC.tr ++ acs.drop (i + 1) = ((acs.take i).map AC.tr ++ acs.drop i).set i ac.tr := fun ac h => ⟨step_get h, step_map h⟩
  have hfin : i = acs.length → (acs.take i).map AC.tr ++ acs.drop i = acs.map AC.tr := fun h => by subst h; rw [List.take_length, List.drop_length, List.append_nil]
  dsimp only
  generalize (acs.take i).map AC.tr ++ acs.drop i = A at hlA hstep hfin ⊢
  refine CG.ex (A := Rp r A) (by repeat (first | exact Ext.here | apply Ext.there)) rp_open0 ?_
  intro x hx
  refine CG.imp star_open ?_
  have hlen : (A.map AC.cf).length = acs.length := by rw [List.length_map, hlA]
  have hback0 := rp_close0 (r := r) (G := oins a3 c3 (wentI acs i) :: Fr) x hx
  have hopn : ∀ {y z : End}, x.xs[i]? = some y → x.ys[i]? = some z → Imp (RO r (A.map AC.cf) x ++ (oins a3 c3 (wentI acs i) :: Fr)) (RP r (A.map AC.cf) x i y z ++ (pool x.pl :: oins a3 c3 (wentI acs i) :: Fr)) := fun hy hz => rp_open hy hz
  have hcl := @rp_close r i A x
  have hgl : ∀ ac, A[i]? = some ac → (A.map AC.cf)[i]? = some ac.cf := fun ac h => by rw [List.getElem?_map, h]; rfl
  generalize A.map AC.cf = l at hlen hback0 hopn hcl hgl ⊢
  dsimp only [RO, RH, RL, List.cons_append, List.nil_append] at hback0 ⊢
  refine CG.seq ?_
  refine CG.seq ?_
  refine CG.region ?_
  refine OG.yield (Yield.move rfl) rfl ?_
  refine OG.yield (Yield.move rfl) rfl ?_
  refine OG.yield (Yield.nilCheck rfl) rfl ?_
  refine OG.yield (Yield.fieldAddr fa94_0 rfl) rfl ?_
  refine OG.yield (Yield.load (v := .slice x.ca l.length x.cc) ti48 rfl (Cel.of_blk (b := r) (by repeat (first | exact Ext.here | apply Ext.there)) rfl)) rfl ?_
  refine OG.yield (Yield.len_slice (a := x.ca) (m := l.length) (c := x.cc) Try.underlying48 rfl rfl) rfl ?_
  refine OG.yield (Yield.lss rfl rfl) rfl ?_
  refine OG.nil ?_
  refine QG.then ?_
  refine CG.cond rfl (fun hc => ?_) (fun hc => ?_)
  · try replace hc := of_decide_eq_true hc
    have hi' : i < acs.length := by omega
    have hget0 : acs[i]? = some acs[i] := by simp [hi']
    generalize acs[i] = ac at hget0
    obtain ⟨hga, hst⟩ := hstep ac hget0
    have hwi := wentI_succ hget0
    have hsa1 := hsm ac (List.mem_of_getElem? hget0)
    obtain ⟨y0, z0, hy, hz, hyb, hzb⟩ := hx.gx hga
    have hget := hgl ac hga
    have hok := hx.ok _ (List.mem_of_getElem? hga)
    have hlx := hx.lx
    have hly := hx.ly
    have hmy := hx.mem y0 (.inl (List.mem_of_getElem? hy))
    have hmz := hx.mem z0 (.inr (List.mem_of_getElem? hz))
    have hcl2 := @hcl y0 z0
    clear hcl hstep hgl
    refine CG.imp (hopn hy hz) ?_
    clear hopn hback0 hfin
    refine CG.pure (fun w hw => shape_rl (n := i) (x := x) (l := l) (by omega) (Ext.there Ext.here) w hw) ?_
    rintro ⟨b0, o0, hca⟩
    refine CG.pure (fun w hw => shape_os (xs := x.xs.set i y0) (by rw [List.length_set]; omega) (Ext.there (Ext.there Ext.here)) w hw) ?_
    rintro ⟨b1, o1, hsa⟩
    refine CG.pure (fun w hw => shape_os (xs := x.ys.set i z0) (by rw [List.length_set]; omega) (Ext.there (Ext.there (Ext.there Ext.here))) w hw) ?_
    rintro ⟨b2, o2, hra⟩
    have hrw0 : Rw ac y0 z0 x.pl := ⟨by rw [hyb]; exact hok.s, by rw [hzb]; exact hok.r, by rw [hyb]; exact hok.sl, by rw [hzb]; exact hok.rl, fun m hm => by rcases hm with hm | hm; exact hmy m hm; exact hmz m hm, by rw [hyb]; exact Nat.le_refl _⟩
    have hys0 : (x.xs.set i y0)[i]? = some y0 := by rw [set_self hy]; exact hy
    dsimp only [RP, RH, RL, List.cons_append, List.nil_append] at hcl2 ⊢
    rw [hca, hsa, hra] at hcl2 ⊢
    have hlxi : i < x.xs.length := by omega
    have hlyi : i < x.ys.length := by omega
    have gS : ∀ (y : End), (x.xs.set i y)[i]? = some y := fun y => by simp [hlxi]
    have gR : ∀ (z : End), (x.ys.set i z)[i]? = some z := fun z => by simp [hlyi]
    refine CG.skip ?_
    refine QG.then ?_
    refine CG.seq ?_
    refine CG.block ?_
    refine CG.seq ?_
    refine CG.region ?_
    refine OG.yield (Yield.assign rfl) rfl ?_
    refine OG.nil ?_
    refine QG.then ?_
    refine CG.cut (fun s : End × End => Rw ac s.1 s.2 x.pl ∧ carry ac.kind (dep ac.kind ac.depth) s.1.bs s.2.bs = ac.q ∧ (ac.kind ≠ 2 → s.1.bs = [])) (fun s => [(0, .pointer (some ⟨r, 0, none⟩)), (3, .slice a3 (wentI acs i).length c3), (4, .int .i64 i), (5, .int .i64 ((ac.s.length - s.1.bs.length : Nat) : Int))]) (fun s => blk r [.slice (some ⟨b0, o0, none⟩) l.length x.cc, .slice (some ⟨b1, o1, none⟩) x.xs.length x.sc, .slice (some ⟨b2, o2, none⟩) x.ys.length x.rc] 94 :: osl 47 5 (some ⟨b0, o0, none⟩) x.cc l.length ((l.map Cf.cells).flatten) :: osl 65 1 (some ⟨b1, o1, none⟩) x.sc x.xs.length ((x.xs.set i s.1).map End.cell) :: osl 65 1 (some ⟨b2, o2, none⟩) x.rc x.ys.length ((x.ys.set i s.2).map End.cell) :: oend s.1 :: oend s.2 :: Star ((x.xs.map oend).eraseIdx i) :: Star ((x.ys.map oend).eraseIdx i) :: pool x.pl :: oins a3 c3 (wentI acs i) :: Fr) ?_ ?_
    · skip
      refine CG.seq ?_
      rcases (show ac.kind = 2 ∨ (ac.kind ≠ 2 ∧ y0.ms.length = 0) ∨ (ac.kind ≠ 2 ∧ 0 < y0.ms.length) by omega) with hk | hk | hk
      · skip
        refine CG.region ?_
        refine OG.yield (Yield.move rfl) rfl ?_
        refine OG.yield (Yield.nilCheck rfl) rfl ?_
        refine OG.yield (Yield.fieldAddr fa94_0 rfl) rfl ?_
        refine OG.yield (Yield.load ti48 rfl (by first | exact Cel.of_blk (by repeat (first | exact Ext.here | apply Ext.there)) rfl | exact (hrow (by repeat (first | exact Ext.here | apply Ext.there))) _ _ rfl)) rfl ?_
        refine OG.yield (Yield.move rfl) rfl ?_
        refine OG.yield (Yield.index_slice Try.underlying48 ti47 rfl rfl (by omega) (by omega)) rfl ?_
        refine OG.yield (Yield.fieldAddr fa47_0 rfl) rfl ?_
        refine OG.yield (Yield.load (v := .int .i64 ac.kind) ti3 rfl (((SlR.of_osl (E := 47) (a := some ⟨b0, o0, none⟩) (by repeat (first | exact Ext.here | apply Ext.there))).elem Cf.len hget) 0 _ rfl)) rfl ?_
        refine OG.yield (Yield.as (Yield.neq rfl rfl) (bF (not_not_intro hk))) rfl ?_
        refine OG.yield (Yield.move rfl) rfl ?_
        refine OG.guard_no rfl rfl rfl rfl rfl (by decide) (by decide) ?_
        refine OG.guard_no rfl rfl rfl rfl rfl (by decide) (by decide) ?_
        refine OG.guard_no rfl rfl rfl rfl rfl (by decide) (by decide) ?_
        refine OG.guard_no rfl rfl rfl rfl rfl (by decide) (by decide) ?_
        refine OG.guard_no rfl rfl rfl rfl rfl (by decide) (by decide) ?_
        refine OG.guard_no rfl rfl rfl rfl rfl (by decide) (by decide) ?_
        refine OG.guard_no rfl rfl rfl rfl rfl (by decide) (by decide) ?_
        refine OG.guard_no rfl rfl rfl rfl rfl (by decide) (by decide) ?_
        refine OG.guard_no rfl rfl rfl rfl rfl (by decide) (by decide) ?_
        refine OG.yield (by first | exact Yield.pick_t rfl rfl | exact Yield.pick_f rfl rfl | exact Yield.pick rfl (fun _ => rfl) (fun _ => rfl)) rfl ?_
        refine OG.nil ?_
        refine QG.then ?_
        refine CG.cond_f rfl ?_
        refine CG.skip ?_
        exact QG.mid (y0, z0) ⟨hrw0, by unfold AC.q; rw [hyb, hzb], fun h => absurd hk h⟩ (by dsimp only; rw [hyb, Nat.sub_self]; exact (by repeat (first | exact Env.sub_nil _ | refine Env.sub_cons rfl ?_))) (by repeat (first | exact Imp.refl _ | exact Imp.none _ | apply Imp.pull (by repeat (first | exact Ext.here | apply Ext.there)) | apply Imp.trans Imp.drop))
      · skip
        refine CG.region ?_
        refine OG.yield (Yield.move rfl) rfl ?_
        refine OG.yield (Yield.nilCheck rfl) rfl ?_
        refine OG.yield (Yield.fieldAddr fa94_0 rfl) rfl ?_
        refine OG.yield (Yield.load ti48 rfl (by first | exact Cel.of_blk (by repeat (first | exact Ext.here | apply Ext.there)) rfl | exact (hrow (by repeat (first | exact Ext.here | apply Ext.there))) _ _ rfl)) rfl ?_
        refine OG.yield (Yield.move rfl) rfl ?_
        refine OG.yield (Yield.index_slice Try.underlying48 ti47 rfl rfl (by omega) (by omega)) rfl ?_
        refine OG.yield (Yield.fieldAddr fa47_0 rfl) rfl ?_
        refine OG.yield (Yield.load (v := .int .i64 ac.kind) ti3 rfl (((SlR.of_osl (E := 47) (a := some ⟨b0, o0, none⟩) (by repeat (first | exact Ext.here | apply Ext.there))).elem Cf.len hget) 0 _ rfl)) rfl ?_
        refine OG.yield (Yield.as (Yield.neq rfl rfl) (bT hk.1)) rfl ?_
        refine OG.yield (Yield.move rfl) rfl ?_
        refine OG.guard_yes rfl rfl rfl (by decide) ?_
        refine OG.yield (Yield.move rfl) rfl ?_
        refine OG.guard_yes rfl rfl rfl (by decide) ?_
        refine OG.yield (Yield.nilCheck rfl) rfl ?_
        refine OG.guard_yes rfl rfl rfl (by decide) ?_
        refine OG.yield (Yield.fieldAddr fa94_1 rfl) rfl ?_
        refine OG.guard_yes rfl rfl rfl (by decide) ?_
        refine OG.yield (Yield.load (v := .slice (some ⟨b1, o1, none⟩) x.xs.length x.sc) ti69 rfl (Cel.of_blk (b := r) (by repeat (first | exact Ext.here | apply Ext.there)) rfl)) rfl ?_
        refine OG.guard_yes rfl rfl rfl (by decide) ?_
        refine OG.yield (Yield.move rfl) rfl ?_
        refine OG.guard_yes rfl rfl rfl (by decide) ?_
        refine OG.yield (Yield.index_slice (b := b1) (o := o1) (m := x.xs.length) (c := x.sc) Try.underlying69 ti65 rfl rfl (by omega) (by omega)) rfl ?_
        refine OG.guard_yes rfl rfl rfl (by decide) ?_
        refine OG.yield (Yield.load (v := y0.cell) ti65 rfl (by rw [show o1 + (i : Int).toNat * 1 = o1 + i by omega]; exact SlR.cel (SlR.of_osl (E := 65) (a := some ⟨b1, o1, none⟩) (by repeat (first | exact Ext.here | apply Ext.there))) (by rw [List.getElem?_map, hys0]; rfl))) rfl ?_
        refine OG.guard_yes rfl rfl rfl (by decide) ?_
        refine OG.yield (Yield.len_slice (a := y0.a) (m := y0.ms.length) (c := y0.c) Try.underlying65 rfl rfl) rfl ?_
        refine OG.guard_yes rfl rfl rfl (by decide) ?_
        refine OG.yield (by first | exact Yield.as (Yield.gtr rfl rfl) (bT (by omega)) | exact Yield.as (Yield.gtr rfl rfl) (bF (by omega)) | exact Yield.gtr rfl rfl) rfl ?_
        refine OG.yield (by first | exact Yield.pick_t rfl rfl | exact Yield.pick_f rfl rfl | exact Yield.pick rfl (fun _ => rfl) (fun _ => rfl)) rfl ?_
        refine OG.nil ?_
        refine QG.then ?_
        refine CG.cond_f rfl ?_
        refine CG.skip ?_
        exact QG.mid (y0, z0) ⟨hrw0, by unfold AC.q; rw [hyb, hzb], fun _ => List.length_eq_zero_iff.1 (by rw [bs_len]; exact hk.2)⟩ (by dsimp only; rw [hyb, Nat.sub_self]; exact (by repeat (first | exact Env.sub_nil _ | refine Env.sub_cons rfl ?_))) (by repeat (first | exact Imp.refl _ | exact Imp.none _ | apply Imp.pull (by repeat (first | exact Ext.here | apply Ext.there)) | apply Imp.trans Imp.drop))
      · skip
        refine CG.region ?_
        refine OG.yield (Yield.move rfl) rfl ?_
        refine OG.yield (Yield.nilCheck rfl) rfl ?_
        refine OG.yield (Yield.fieldAddr fa94_0 rfl) rfl ?_
        refine OG.yield (Yield.load ti48 rfl (by first | exact Cel.of_blk (by repeat (first | exact Ext.here | apply Ext.there)) rfl | exact (hrow (by repeat (first | exact Ext.here | apply Ext.there))) _ _ rfl)) rfl ?_
        refine OG.yield (Yield.move rfl) rfl ?_
        refine OG.yield (Yield.index_slice Try.underlying48 ti47 rfl rfl (by omega) (by omega)) rfl ?_
        refine OG.yield (Yield.fieldAddr fa47_0 rfl) rfl ?_
        refine OG.yield (Yield.load (v := .int .i64 ac.kind) ti3 rfl (((SlR.of_osl (E := 47) (a := some ⟨b0, o0, none⟩) (by repeat (first | exact Ext.here | apply Ext.there))).elem Cf.len hget) 0 _ rfl)) rfl ?_
        refine OG.yield (Yield.as (Yield.neq rfl rfl) (bT hk.1)) rfl ?_
        refine OG.yield (Yield.move rfl) rfl ?_
        refine OG.guard_yes rfl rfl rfl (by decide) ?_
        refine OG.yield (Yield.move rfl) rfl ?_
        refine OG.guard_yes rfl rfl rfl (by decide) ?_
        refine OG.yield (Yield.nilCheck rfl) rfl ?_
        refine OG.guard_yes rfl rfl rfl (by decide) ?_
        refine OG.yield (Yield.fieldAddr fa94_1 rfl) rfl ?_
        refine OG.guard_yes rfl rfl rfl (by decide) ?_
        refine OG.yield (Yield.load (v := .slice (some ⟨b1, o1, none⟩) x.xs.length x.sc) ti69 rfl (Cel.of_blk (b := r) (by repeat (first | exact Ext.here | apply Ext.there)) rfl)) rfl ?_
        refine OG.guard_yes rfl rfl rfl (by decide) ?_
        refine OG.yield (Yield.move rfl) rfl ?_
        refine OG.guard_yes rfl rfl rfl (by decide) ?_
        refine OG.yield (Yield.index_slice (b := b1) (o := o1) (m := x.xs.length) (c := x.sc) Try.underlying69 ti65 rfl rfl (by omega) (by omega)) rfl ?_
        refine OG.guard_yes rfl rfl rfl (by decide) ?_
        refine OG.yield (Yield.load (v := y0.cell) ti65 rfl (by rw [show o1 + (i : Int).toNat * 1 = o1 + i by omega]; exact SlR.cel (SlR.of_osl (E := 65) (a := some ⟨b1, o1, none⟩) (by repeat (first | exact Ext.here | apply Ext.there))) (by rw [List.getElem?_map, hys0]; rfl))) rfl ?_
        refine OG.guard_yes rfl rfl rfl (by decide) ?_
        refine OG.yield (Yield.len_slice (a := y0.a) (m := y0.ms.length) (c := y0.c) Try.underlying65 rfl rfl) rfl ?_
        refine OG.guard_yes rfl rfl rfl (by decide) ?_
        refine OG.yield (by first | exact Yield.as (Yield.gtr rfl rfl) (bT (by omega)) | exact Yield.as (Yield.gtr rfl rfl) (bF (by omega)) | exact Yield.gtr rfl rfl) rfl ?_
        refine OG.yield (by first | exact Yield.pick_t rfl rfl | exact Yield.pick_f rfl rfl | exact Yield.pick rfl (fun _ => rfl) (fun _ => rfl)) rfl ?_
        refine OG.nil ?_
        refine QG.then ?_
        refine CG.cond_t rfl ?_
        refine CG.seq ?_
        refine CG.draw (.look 0 1 (.look 1 1 (.look 2 1 (.look 3 1 (.look 4 1 (.look 5 1 (.look 6 1 (.look 7 1 (.look 8 1 (.look 9 1 (.look 10 1 (.look 11 1 (.look 12 1 (.eff1 13 false (.done))))))))))))))) [13] [] ([]) ([]) mixed (by kernel_rfl) (Imp.none _) (Imp.none _) ?_
        refine DG.look rfl rfl (Yield.move rfl) rfl ?_
        refine DG.look rfl rfl (Yield.nilCheck rfl) rfl ?_
        refine DG.look rfl rfl (Yield.fieldAddr fa94_2 rfl) rfl ?_
        refine DG.look rfl rfl (Yield.load (v := .slice (some ⟨b2, o2, none⟩) x.ys.length x.rc) ti69 rfl (Cel.of_blk (b := r) (by repeat (first | exact Ext.here | apply Ext.there)) rfl)) rfl ?_
        refine DG.look rfl rfl (Yield.move rfl) rfl ?_
        refine DG.look rfl rfl (Yield.move rfl) rfl ?_
        refine DG.look rfl rfl (Yield.nilCheck rfl) rfl ?_
        refine DG.look rfl rfl (Yield.fieldAddr fa94_1 rfl) rfl ?_
        refine DG.look rfl rfl (Yield.load (v := .slice (some ⟨b1, o1, none⟩) x.xs.length x.sc) ti69 rfl (Cel.of_blk (b := r) (by repeat (first | exact Ext.here | apply Ext.there)) rfl)) rfl ?_
        refine DG.look rfl rfl (Yield.move rfl) rfl ?_
        refine DG.look rfl rfl (Yield.index_slice (b := b1) (o := o1) (m := x.xs.length) (c := x.sc) Try.underlying69 ti65 rfl rfl (by omega) (by omega)) rfl ?_
        refine DG.look rfl rfl (Yield.load (v := y0.cell) ti65 rfl (by rw [show o1 + (i : Int).toNat * 1 = o1 + i by omega]; exact SlR.cel (SlR.of_osl (E := 65) (a := some ⟨b1, o1, none⟩) (by repeat (first | exact Ext.here | apply Ext.there))) (by rw [List.getElem?_map, hys0]; rfl))) rfl ?_
        refine DG.look rfl rfl (Yield.index_slice (b := b2) (o := o2) (m := x.ys.length) (c := x.rc) Try.underlying69 ti65 rfl rfl (by omega) (by omega)) rfl ?_
        refine DG.eff1 ?_
        refine Chg.eff rfl rfl (Eff.storeElem (i := i) ti65 (by rw [show o2 + (i : Int).toNat * 1 = o2 + i by omega]; rfl) rfl (by repeat (first | exact Foc.here | apply Foc.there)) rfl (by omega)) rfl (fun _ => (by repeat (first | exact Imp.refl _ | exact Imp.none _ | apply Imp.pull (by repeat (first | exact Ext.here | apply Ext.there)) | apply Imp.trans Imp.drop))) (fun _ => Imp.refl _) (fun _ => (by repeat (first | exact Imp.refl _ | exact Imp.none _ | apply Imp.pull (by repeat (first | exact Ext.here | apply Ext.there)) | apply Imp.trans Imp.drop))) ?_
        rintro ⟨⟩ -
        rw [← List.map_set (f := End.cell), List.set_set]
        refine DG.done ?_
        refine QG.then ?_
        refine CG.seq ?_
        refine CG.region ?_
        refine OG.yield (Yield.move rfl) rfl ?_
        refine OG.yield (Yield.nilCheck rfl) rfl ?_
        refine OG.yield (Yield.fieldAddr fa94_1 rfl) rfl ?_
        refine OG.yield (Yield.load (v := .slice (some ⟨b1, o1, none⟩) x.xs.length x.sc) ti69 rfl (Cel.of_blk (b := r) (by repeat (first | exact Ext.here | apply Ext.there)) rfl)) rfl ?_
        refine OG.yield (Yield.move rfl) rfl ?_
        refine OG.yield (Yield.index_slice (b := b1) (o := o1) (m := x.xs.length) (c := x.sc) Try.underlying69 ti65 rfl rfl (by omega) (by omega)) rfl ?_
        refine OG.eff (Eff.storeElem (i := i) ti65 (by rw [show o1 + (i : Int).toNat * 1 = o1 + i by omega]; rfl) rfl (by repeat (first | exact Foc.here | apply Foc.there)) rfl (by omega)) rfl ?_
        rintro ⟨⟩ -
        rw [show Value.slice none 0 0 = nilE.cell from rfl, ← List.map_set (f := End.cell), List.set_set]
        refine OG.nil ?_
        refine QG.then ?_
        refine CG.region ?_
        refine OG.yield (Yield.assign rfl) rfl ?_
        refine OG.nil ?_
        have hs1 := hsa1 hk.1
        have hyl := hrw0.le
        have hbl := bs_len y0
        have hl0 : ac.s.length = y0.bs.length := by rw [hyb]
        obtain ⟨m0, hm0⟩ : ∃ m0, ac.s = [m0] := by
          cases h : ac.s with
          | nil => rw [h] at hl0; simp only [List.length_nil] at hl0; omega
          | cons m0 t => cases t with
            | nil => exact ⟨m0, rfl⟩
            | cons _ _ => rw [h] at hs1; simp at hs1
        refine QG.mid (nilE, y0) ⟨⟨Nat.zero_le _, hrw0.sl, fun m hm => absurd hm (by simp [nilE, End.bs]), hrw0.sm, fun m hm => by rcases hm with hm | hm; exact absurd hm (by simp [nilE]); exact hrw0.mem m (.inl hm), Nat.zero_le _⟩, ?_, fun _ => rfl⟩ ?_ ?_
        · unfold AC.q; dsimp only; rw [hyb, hm0, show nilE.bs = [] from rfl, carry, carry, if_pos hk.1, carry]
        · dsimp only; rw [hm0, show nilE.bs = [] from rfl]; exact (by repeat (first | exact Env.sub_nil _ | refine Env.sub_cons rfl ?_))
        · exact Imp.trans oend_nil (by repeat (first | exact Imp.refl _ | exact Imp.none _ | apply Imp.pull (by repeat (first | exact Ext.here | apply Ext.there)) | apply Imp.trans Imp.drop))
    rintro ⟨y1, z1⟩ ⟨hrw1, hq1, hk1⟩
    dsimp only at hrw1 hq1 hk1 ⊢
    clear hrw0 hys0
    refine CG.cut (fun s : End × End => Rw ac s.1 s.2 x.pl ∧ (s.1.bs, s.2.bs) = ac.q) (fun s => [(0, .pointer (some ⟨r, 0, none⟩)), (3, .slice a3 (wentI acs i).length c3), (4, .int .i64 i), (5, .int .i64 ((ac.s.length - s.1.bs.length : Nat) : Int))]) (fun s => blk r [.slice (some ⟨b0, o0, none⟩) l.length x.cc, .slice (some ⟨b1, o1, none⟩) x.xs.length x.sc, .slice (some ⟨b2, o2, none⟩) x.ys.length x.rc] 94 :: osl 47 5 (some ⟨b0, o0, none⟩) x.cc l.length ((l.map Cf.cells).flatten) :: osl 65 1 (some ⟨b1, o1, none⟩) x.sc x.xs.length ((x.xs.set i s.1).map End.cell) :: osl 65 1 (some ⟨b2, o2, none⟩) x.rc x.ys.length ((x.ys.set i s.2).map End.cell) :: oend s.1 :: oend s.2 :: Star ((x.xs.map oend).eraseIdx i) :: Star ((x.ys.map oend).eraseIdx i) :: pool x.pl :: oins a3 c3 (wentI acs i) :: Fr) ?_ ?_
    · skip
      refine CG.block ?_
      refine CG.loop (fun s : End × End => Rw ac s.1 s.2 x.pl ∧ carry ac.kind (dep ac.kind ac.depth) s.1.bs s.2.bs = ac.q ∧ (ac.kind ≠ 2 → s.1.bs = [])) (fun s => [(0, .pointer (some ⟨r, 0, none⟩)), (3, .slice a3 (wentI acs i).length c3), (4, .int .i64 i), (5, .int .i64 ((ac.s.length - s.1.bs.length : Nat) : Int))]) (fun s => blk r [.slice (some ⟨b0, o0, none⟩) l.length x.cc, .slice (some ⟨b1, o1, none⟩) x.xs.length x.sc, .slice (some ⟨b2, o2, none⟩) x.ys.length x.rc] 94 :: osl 47 5 (some ⟨b0, o0, none⟩) x.cc l.length ((l.map Cf.cells).flatten) :: osl 65 1 (some ⟨b1, o1, none⟩) x.sc x.xs.length ((x.xs.set i s.1).map End.cell) :: osl 65 1 (some ⟨b2, o2, none⟩) x.rc x.ys.length ((x.ys.set i s.2).map End.cell) :: oend s.1 :: oend s.2 :: Star ((x.xs.map oend).eraseIdx i) :: Star ((x.ys.map oend).eraseIdx i) :: pool x.pl :: oins a3 c3 (wentI acs i) :: Fr) (fun s => s.1.ms.length) (y1, z1) ⟨hrw1, hq1, hk1⟩ (by repeat (first | exact Env.sub_nil _ | refine Env.sub_cons rfl ?_)) (by repeat (first | exact Imp.refl _ | exact Imp.none _ | apply Imp.pull (by repeat (first | exact Ext.here | apply Ext.there)) | apply Imp.trans Imp.drop)) ?_
      rintro ⟨y, z⟩ ⟨hrw, hq, hk⟩
      dsimp only at hrw hq hk ⊢
      clear hrw1 hq1 hk1
      have hbl := bs_len y
      have hbz := bs_len z
      have hr8 := hrw.rl
      have hs8 := hrw.sl
      refine CG.seq ?_
      refine CG.seq ?_
      rcases (show y.ms.length = 0 ∨ (0 < y.ms.length ∧ dep ac.kind ac.depth ≤ (z.ms.length : Int)) ∨ (0 < y.ms.length ∧ (z.ms.length : Int) < dep ac.kind ac.depth) by omega) with hh | hh | hh
      · skip
        refine CG.draw (.look 0 1 (.look 1 1 (.look 2 1 (.look 3 1 (.look 4 1 (.look 5 1 (.look 6 1 (.look 7 1 (.look 8 1 (.look 9 1 (.look 10 0 (.look 11 0 (.look 12 0 (.look 13 0 (.look 14 0 (.look 15 0 (.look 16 0 (.look 17 0 (.look 18 1 (.look 19 1 (.eff1 20 false (.look 21 1 (.look 22 1 (.done)))))))))))))))))))))))) [20] [] ([blk r [.slice (some ⟨b0, o0, none⟩) l.length x.cc, .slice (some ⟨b1, o1, none⟩) x.xs.length x.sc, .slice (some ⟨b2, o2, none⟩) x.ys.length x.rc] 94, osl 65 1 (some ⟨b1, o1, none⟩) x.sc x.xs.length ((x.xs.set i y).map End.cell), osl 65 1 (some ⟨b2, o2, none⟩) x.rc x.ys.length ((x.ys.set i z).map End.cell)]) ([]) mixed (by kernel_rfl) ((by repeat (first | exact Imp.refl _ | exact Imp.none _ | apply Imp.pull (by repeat (first | exact Ext.here | apply Ext.there)) | apply Imp.trans Imp.drop))) (Imp.none _) ?_
        refine DG.look rfl rfl (Yield.move rfl) rfl ?_
        refine DG.look rfl rfl (Yield.nilCheck rfl) rfl ?_
        refine DG.look rfl rfl (Yield.fieldAddr fa94_1 rfl) rfl ?_
        refine DG.look rfl rfl (Yield.load (v := .slice (some ⟨b1, o1, none⟩) x.xs.length x.sc) ti69 rfl (Cel.of_blk (b := r) (by repeat (first | exact Ext.here | apply Ext.there)) rfl)) rfl ?_
        refine DG.look rfl rfl (Yield.move rfl) rfl ?_
        refine DG.look rfl rfl (Yield.index_slice (b := b1) (o := o1) (m := x.xs.length) (c := x.sc) Try.underlying69 ti65 rfl rfl (by omega) (by omega)) rfl ?_
        refine DG.look rfl rfl (Yield.load (v := y.cell) ti65 rfl (by rw [show o1 + (i : Int).toNat * 1 = o1 + i by omega]; exact SlR.cel (SlR.of_osl (E := 65) (a := some ⟨b1, o1, none⟩) (by repeat (first | exact Ext.here | apply Ext.there))) (by rw [List.getElem?_map, gS]; rfl))) rfl ?_
        refine DG.look rfl rfl (Yield.len_slice (a := y.a) (m := y.ms.length) (c := y.c) Try.underlying65 rfl rfl) rfl ?_
        refine DG.look rfl rfl (by first | exact Yield.as (Yield.gtr rfl rfl) (bT (by omega)) | exact Yield.as (Yield.gtr rfl rfl) (bF (by omega)) | exact Yield.gtr rfl rfl) rfl ?_
        refine DG.look rfl rfl (Yield.move rfl) rfl ?_
        refine DG.pass rfl rfl rfl ?_
        refine DG.pass rfl rfl rfl ?_
        refine DG.pass rfl rfl rfl ?_
        refine DG.pass rfl rfl rfl ?_
        refine DG.pass rfl rfl rfl ?_
        refine DG.pass rfl rfl rfl ?_
        refine DG.pass rfl rfl rfl ?_
        refine DG.pass rfl rfl rfl ?_
        refine DG.pass rfl rfl rfl ?_
        refine DG.pass rfl rfl rfl ?_
        refine DG.eff1 ?_
        refine Chg.pass rfl rfl rfl ?_ (by repeat (first | exact Imp.refl _ | exact Imp.none _ | apply Imp.pull (by repeat (first | exact Ext.here | apply Ext.there)) | apply Imp.trans Imp.drop)) (by repeat (first | exact Imp.refl _ | exact Imp.none _ | apply Imp.pull (by repeat (first | exact Ext.here | apply Ext.there)) | apply Imp.trans Imp.drop))
        refine DG.pass rfl rfl rfl ?_
        refine DG.look rfl rfl (by first | exact Yield.pick_t rfl rfl | exact Yield.pick_f rfl rfl | exact Yield.pick rfl (fun _ => rfl) (fun _ => rfl)) rfl ?_
        refine DG.done ?_
        refine QG.then ?_
        refine CG.cond_f rfl ?_
        refine CG.exit ?_
        refine QG.pass_exit ?_
        refine QG.pass_exit ?_
        refine QG.block_exit ?_
        have hy0 : y.bs = [] := List.length_eq_zero_iff.1 (by omega)
        exact QG.mid (y, z) ⟨hrw, by rw [← hq, hy0]; rfl⟩ (by repeat (first | exact Env.sub_nil _ | refine Env.sub_cons rfl ?_)) (by repeat (first | exact Imp.refl _ | exact Imp.none _ | apply Imp.pull (by repeat (first | exact Ext.here | apply Ext.there)) | apply Imp.trans Imp.drop))
      · skip
        have hk2 : ac.kind = 2 := by
          rcases (show ac.kind = 2 ∨ ac.kind ≠ 2 by omega) with h | h
          · exact h
          · have := congrArg List.length (hk h); simp only [List.length_nil] at this; omega
        refine CG.draw (.look 0 1 (.look 1 1 (.look 2 1 (.look 3 1 (.look 4 1 (.look 5 1 (.look 6 1 (.look 7 1 (.look 8 1 (.look 9 1 (.look 10 0 (.look 11 0 (.look 12 0 (.look 13 0 (.look 14 0 (.look 15 0 (.look 16 0 (.look 17 0 (.look 18 1 (.look 19 1 (.eff1 20 false (.look 21 1 (.look 22 1 (.done)))))))))))))))))))))))) [20] [] ([blk r [.slice (some ⟨b0, o0, none⟩) l.length x.cc, .slice (some ⟨b1, o1, none⟩) x.xs.length x.sc, .slice (some ⟨b2, o2, none⟩) x.ys.length x.rc] 94, osl 65 1 (some ⟨b1, o1, none⟩) x.sc x.xs.length ((x.xs.set i y).map End.cell), osl 65 1 (some ⟨b2, o2, none⟩) x.rc x.ys.length ((x.ys.set i z).map End.cell)]) ([]) mixed (by kernel_rfl) ((by repeat (first | exact Imp.refl _ | exact Imp.none _ | apply Imp.pull (by repeat (first | exact Ext.here | apply Ext.there)) | apply Imp.trans Imp.drop))) (Imp.none _) ?_
        refine DG.look rfl rfl (Yield.move rfl) rfl ?_
        refine DG.look rfl rfl (Yield.nilCheck rfl) rfl ?_
        refine DG.look rfl rfl (Yield.fieldAddr fa94_1 rfl) rfl ?_
        refine DG.look rfl rfl (Yield.load (v := .slice (some ⟨b1, o1, none⟩) x.xs.length x.sc) ti69 rfl (Cel.of_blk (b := r) (by repeat (first | exact Ext.here | apply Ext.there)) rfl)) rfl ?_
        refine DG.look rfl rfl (Yield.move rfl) rfl ?_
        refine DG.look rfl rfl (Yield.index_slice (b := b1) (o := o1) (m := x.xs.length) (c := x.sc) Try.underlying69 ti65 rfl rfl (by omega) (by omega)) rfl ?_
        refine DG.look rfl rfl (Yield.load (v := y.cell) ti65 rfl (by rw [show o1 + (i : Int).toNat * 1 = o1 + i by omega]; exact SlR.cel (SlR.of_osl (E := 65) (a := some ⟨b1, o1, none⟩) (by repeat (first | exact Ext.here | apply Ext.there))) (by rw [List.getElem?_map, gS]; rfl))) rfl ?_
        refine DG.look rfl rfl (Yield.len_slice (a := y.a) (m := y.ms.length) (c := y.c) Try.underlying65 rfl rfl) rfl ?_
        refine DG.look rfl rfl (by first | exact Yield.as (Yield.gtr rfl rfl) (bT (by omega)) | exact Yield.as (Yield.gtr rfl rfl) (bF (by omega)) | exact Yield.gtr rfl rfl) rfl ?_
        refine DG.look rfl rfl (Yield.move rfl) rfl ?_
        refine DG.look rfl rfl (Yield.move rfl) rfl ?_
        refine DG.look rfl rfl (Yield.nilCheck rfl) rfl ?_
        refine DG.look rfl rfl (Yield.fieldAddr fa94_2 rfl) rfl ?_
        refine DG.look rfl rfl (Yield.load (v := .slice (some ⟨b2, o2, none⟩) x.ys.length x.rc) ti69 rfl (Cel.of_blk (b := r) (by repeat (first | exact Ext.here | apply Ext.there)) rfl)) rfl ?_
        refine DG.look rfl rfl (Yield.move rfl) rfl ?_
        refine DG.look rfl rfl (Yield.index_slice (b := b2) (o := o2) (m := x.ys.length) (c := x.rc) Try.underlying69 ti65 rfl rfl (by omega) (by omega)) rfl ?_
        refine DG.look rfl rfl (Yield.load (v := z.cell) ti65 rfl (by rw [show o2 + (i : Int).toNat * 1 = o2 + i by omega]; exact SlR.cel (SlR.of_osl (E := 65) (a := some ⟨b2, o2, none⟩) (by repeat (first | exact Ext.here | apply Ext.there))) (by rw [List.getElem?_map, gR]; rfl))) rfl ?_
        refine DG.look rfl rfl (Yield.len_slice (a := z.a) (m := z.ms.length) (c := z.c) Try.underlying65 rfl rfl) rfl ?_
        refine DG.look rfl rfl (Yield.move rfl) rfl ?_
        refine DG.look rfl rfl (Yield.move rfl) rfl ?_
        refine DG.eff1 ?_
        refine Chg.callo rfl rfl call57 rfl (Imp.refl _) (rdepth_spec W0 _ (r := r) (n := i) (a := some ⟨b0, o0, none⟩) (c := x.cc) (l := l) (f := ac.cf) (by exact Cel.of_blk (b := r) (by repeat (first | exact Ext.here | apply Ext.there)) rfl) (by exact SlR.of_osl (E := 47) (by repeat (first | exact Ext.here | apply Ext.there))) hget) rfl (fun _ => (by repeat (first | exact Imp.refl _ | exact Imp.none _ | apply Imp.pull (by repeat (first | exact Ext.here | apply Ext.there)) | apply Imp.trans Imp.drop))) (fun _ => Imp.refl _) (fun _ => (by repeat (first | exact Imp.refl _ | exact Imp.none _ | apply Imp.pull (by repeat (first | exact Ext.here | apply Ext.there)) | apply Imp.trans Imp.drop))) ?_
        rintro ⟨⟩ -
        rw [show dep (Cf.Kind ac.cf) (Cf.Depth ac.cf) = dep ac.kind ac.depth from rfl]
        refine DG.look rfl rfl (by first | exact Yield.as (Yield.lss rfl rfl) (bT (by omega)) | exact Yield.as (Yield.lss rfl rfl) (bF (by omega)) | exact Yield.lss rfl rfl) rfl ?_
        refine DG.look rfl rfl (by first | exact Yield.pick_t rfl rfl | exact Yield.pick_f rfl rfl | exact Yield.pick rfl (fun _ => rfl) (fun _ => rfl)) rfl ?_
        refine DG.done ?_
        refine QG.then ?_
        refine CG.cond_f rfl ?_
        refine CG.exit ?_
        refine QG.pass_exit ?_
        refine QG.pass_exit ?_
        refine QG.block_exit ?_
        refine QG.mid (y, z) ⟨hrw, ?_⟩ (by repeat (first | exact Env.sub_nil _ | refine Env.sub_cons rfl ?_)) (by repeat (first | exact Imp.refl _ | exact Imp.none _ | apply Imp.pull (by repeat (first | exact Ext.here | apply Ext.there)) | apply Imp.trans Imp.drop))
        rw [← hq]
        cases hyb2 : y.bs with
        | nil => rfl
        | cons m t => rw [carry, if_neg (not_not_intro hk2), if_pos (by rw [hbz]; exact hh.2)]
      · skip
        have hk2 : ac.kind = 2 := by
          rcases (show ac.kind = 2 ∨ ac.kind ≠ 2 by omega) with h | h
          · exact h
          · have := congrArg List.length (hk h); simp only [List.length_nil] at this; omega
        have hd8 : dep ac.kind ac.depth ≤ 8 := by unfold dep; split <;> omega
        obtain ⟨m0, ms', hsm0⟩ : ∃ m0 ms', y.ms = m0 :: ms' := by
          cases h : y.ms with
          | nil => rw [h] at hh; simp at hh
          | cons a t => exact ⟨a, t, rfl⟩
        have hsb : y.bs = m0.b :: ms'.map Msg.b := by unfold End.bs; rw [hsm0]; rfl
        rw [hsb, carry, if_neg (not_not_intro hk2), if_neg (by rw [hbz]; omega)] at hq
        have hr1 : 1 ≤ y.ms.length := hh.1
        refine CG.pure (fun w hw => SlR.shape (SlR.of_osl (W0 := W0) (E := 49) (sz := 1) (a := y.a) (c := y.c) (m := y.ms.length) (xs := y.ms.map Msg.cell) (by repeat (first | exact Ext.here | apply Ext.there))) (by rw [hsm0]; simp) w hw) ?_
        rintro ⟨bz, oz, hza⟩
        refine CG.pure (fun w hw => osl_facts (W0 := W0) (E := 49) (sz := 1) (a := y.a) (c := y.c) (m := y.ms.length) (xs := y.ms.map Msg.cell) (by repeat (first | exact Ext.here | apply Ext.there)) w hw) ?_
        rintro ⟨-, hzc⟩
        refine CG.draw (.look 0 1 (.look 1 1 (.look 2 1 (.look 3 1 (.look 4 1 (.look 5 1 (.look 6 1 (.look 7 1 (.look 8 1 (.look 9 1 (.look 10 0 (.look 11 0 (.look 12 0 (.look 13 0 (.look 14 0 (.look 15 0 (.look 16 0 (.look 17 0 (.look 18 1 (.look 19 1 (.eff1 20 false (.look 21 1 (.look 22 1 (.done)))))))))))))))))))))))) [20] [] ([blk r [.slice (some ⟨b0, o0, none⟩) l.length x.cc, .slice (some ⟨b1, o1, none⟩) x.xs.length x.sc, .slice (some ⟨b2, o2, none⟩) x.ys.length x.rc] 94, osl 65 1 (some ⟨b1, o1, none⟩) x.sc x.xs.length ((x.xs.set i y).map End.cell), osl 65 1 (some ⟨b2, o2, none⟩) x.rc x.ys.length ((x.ys.set i z).map End.cell)]) ([]) mixed (by kernel_rfl) ((by repeat (first | exact Imp.refl _ | exact Imp.none _ | apply Imp.pull (by repeat (first | exact Ext.here | apply Ext.there)) | apply Imp.trans Imp.drop))) (Imp.none _) ?_
        refine DG.look rfl rfl (Yield.move rfl) rfl ?_
        refine DG.look rfl rfl (Yield.nilCheck rfl) rfl ?_
        refine DG.look rfl rfl (Yield.fieldAddr fa94_1 rfl) rfl ?_
        refine DG.look rfl rfl (Yield.load (v := .slice (some ⟨b1, o1, none⟩) x.xs.length x.sc) ti69 rfl (Cel.of_blk (b := r) (by repeat (first | exact Ext.here | apply Ext.there)) rfl)) rfl ?_
        refine DG.look rfl rfl (Yield.move rfl) rfl ?_
        refine DG.look rfl rfl (Yield.index_slice (b := b1) (o := o1) (m := x.xs.length) (c := x.sc) Try.underlying69 ti65 rfl rfl (by omega) (by omega)) rfl ?_
        refine DG.look rfl rfl (Yield.load (v := y.cell) ti65 rfl (by rw [show o1 + (i : Int).toNat * 1 = o1 + i by omega]; exact SlR.cel (SlR.of_osl (E := 65) (a := some ⟨b1, o1, none⟩) (by repeat (first | exact Ext.here | apply Ext.there))) (by rw [List.getElem?_map, gS]; rfl))) rfl ?_
        refine DG.look rfl rfl (Yield.len_slice (a := y.a) (m := y.ms.length) (c := y.c) Try.underlying65 rfl rfl) rfl ?_
        refine DG.look rfl rfl (by first | exact Yield.as (Yield.gtr rfl rfl) (bT (by omega)) | exact Yield.as (Yield.gtr rfl rfl) (bF (by omega)) | exact Yield.gtr rfl rfl) rfl ?_
        refine DG.look rfl rfl (Yield.move rfl) rfl ?_
        refine DG.look rfl rfl (Yield.move rfl) rfl ?_
        refine DG.look rfl rfl (Yield.nilCheck rfl) rfl ?_
        refine DG.look rfl rfl (Yield.fieldAddr fa94_2 rfl) rfl ?_
        refine DG.look rfl rfl (Yield.load (v := .slice (some ⟨b2, o2, none⟩) x.ys.length x.rc) ti69 rfl (Cel.of_blk (b := r) (by repeat (first | exact Ext.here | apply Ext.there)) rfl)) rfl ?_
        refine DG.look rfl rfl (Yield.move rfl) rfl ?_
        refine DG.look rfl rfl (Yield.index_slice (b := b2) (o := o2) (m := x.ys.length) (c := x.rc) Try.underlying69 ti65 rfl rfl (by omega) (by omega)) rfl ?_
        refine DG.look rfl rfl (Yield.load (v := z.cell) ti65 rfl (by rw [show o2 + (i : Int).toNat * 1 = o2 + i by omega]; exact SlR.cel (SlR.of_osl (E := 65) (a := some ⟨b2, o2, none⟩) (by repeat (first | exact Ext.here | apply Ext.there))) (by rw [List.getElem?_map, gR]; rfl))) rfl ?_
        refine DG.look rfl rfl (Yield.len_slice (a := z.a) (m := z.ms.length) (c := z.c) Try.underlying65 rfl rfl) rfl ?_
        refine DG.look rfl rfl (Yield.move rfl) rfl ?_
        refine DG.look rfl rfl (Yield.move rfl) rfl ?_
        refine DG.eff1 ?_
        refine Chg.callo rfl rfl call57 rfl (Imp.refl _) (rdepth_spec W0 _ (r := r) (n := i) (a := some ⟨b0, o0, none⟩) (c := x.cc) (l := l) (f := ac.cf) (by exact Cel.of_blk (b := r) (by repeat (first | exact Ext.here | apply Ext.there)) rfl) (by exact SlR.of_osl (E := 47) (by repeat (first | exact Ext.here | apply Ext.there))) hget) rfl (fun _ => (by repeat (first | exact Imp.refl _ | exact Imp.none _ | apply Imp.pull (by repeat (first | exact Ext.here | apply Ext.there)) | apply Imp.trans Imp.drop))) (fun _ => Imp.refl _) (fun _ => (by repeat (first | exact Imp.refl _ | exact Imp.none _ | apply Imp.pull (by repeat (first | exact Ext.here | apply Ext.there)) | apply Imp.trans Imp.drop))) ?_
        rintro ⟨⟩ -
        rw [show dep (Cf.Kind ac.cf) (Cf.Depth ac.cf) = dep ac.kind ac.depth from rfl]
        refine DG.look rfl rfl (by first | exact Yield.as (Yield.lss rfl rfl) (bT (by omega)) | exact Yield.as (Yield.lss rfl rfl) (bF (by omega)) | exact Yield.lss rfl rfl) rfl ?_
        refine DG.look rfl rfl (by first | exact Yield.pick_t rfl rfl | exact Yield.pick_f rfl rfl | exact Yield.pick rfl (fun _ => rfl) (fun _ => rfl)) rfl ?_
        refine DG.done ?_
        refine QG.then ?_
        refine CG.cond_t rfl ?_
        refine CG.skip ?_
        refine QG.then ?_
        refine CG.block ?_
        refine CG.seq ?_
        refine CG.draw (.look 0 0 (.look 1 0 (.look 2 0 (.look 3 0 (.look 4 0 (.look 5 0 (.look 6 0 (.look 7 0 (.look 8 0 (.look 9 0 (.look 10 0 (.look 11 2 (.look 12 1 (.look 13 1 (.look 14 1 (.look 15 1 (.look 16 1 (.look 17 1 (.look 18 1 (.look 19 1 (.look 20 1 (.eff1 21 false (.eff1 22 false (.look 23 1 (.eff1 24 true (.done)))))))))))))))))))))))))) [21, 22, 24] [11] ([blk r [.slice (some ⟨b0, o0, none⟩) l.length x.cc, .slice (some ⟨b1, o1, none⟩) x.xs.length x.sc, .slice (some ⟨b2, o2, none⟩) x.ys.length x.rc] 94]) ([osl 65 1 (some ⟨b2, o2, none⟩) x.rc x.ys.length ((x.ys.set i z).map End.cell)]) mixed (by kernel_rfl) ((by repeat (first | exact Imp.refl _ | exact Imp.none _ | apply Imp.pull (by repeat (first | exact Ext.here | apply Ext.there)) | apply Imp.trans Imp.drop))) ((by repeat (first | exact Imp.refl _ | exact Imp.none _ | apply Imp.pull (by repeat (first | exact Ext.here | apply Ext.there)) | apply Imp.trans Imp.drop))) ?_
        refine DG.look rfl rfl (Yield.move rfl) rfl ?_
        refine DG.look rfl rfl (Yield.nilCheck rfl) rfl ?_
        refine DG.look rfl rfl (Yield.fieldAddr fa94_2 rfl) rfl ?_
        refine DG.look rfl rfl (Yield.load (v := .slice (some ⟨b2, o2, none⟩) x.ys.length x.rc) ti69 rfl (Cel.of_blk (b := r) (by repeat (first | exact Ext.here | apply Ext.there)) rfl)) rfl ?_
        refine DG.look rfl rfl (Yield.move rfl) rfl ?_
        refine DG.look rfl rfl (Yield.move rfl) rfl ?_
        refine DG.look rfl rfl (Yield.nilCheck rfl) rfl ?_
        refine DG.look rfl rfl (Yield.fieldAddr fa94_2 rfl) rfl ?_
        refine DG.look rfl rfl (Yield.load (v := .slice (some ⟨b2, o2, none⟩) x.ys.length x.rc) ti69 rfl (Cel.of_blk (b := r) (by repeat (first | exact Ext.here | apply Ext.there)) rfl)) rfl ?_
        refine DG.look rfl rfl (Yield.move rfl) rfl ?_
        refine DG.look rfl rfl (Yield.index_slice (b := b2) (o := o2) (m := x.ys.length) (c := x.rc) Try.underlying69 ti65 rfl rfl (by omega) (by omega)) rfl ?_
        refine DG.look rfl rfl (Yield.load (v := z.cell) ti65 rfl (by rw [show o2 + (i : Int).toNat * 1 = o2 + i by omega]; exact SlR.cel (SlR.of_osl (E := 65) (a := some ⟨b2, o2, none⟩) (by repeat (first | exact Ext.here | apply Ext.there))) (by rw [List.getElem?_map, gR]; rfl))) rfl ?_
        refine DG.look rfl rfl (Yield.move rfl) rfl ?_
        refine DG.look rfl rfl (Yield.nilCheck rfl) rfl ?_
        refine DG.look rfl rfl (Yield.fieldAddr fa94_1 rfl) rfl ?_
        refine DG.look rfl rfl (Yield.load (v := .slice (some ⟨b1, o1, none⟩) x.xs.length x.sc) ti69 rfl (Cel.of_blk (b := r) (by repeat (first | exact Ext.here | apply Ext.there)) rfl)) rfl ?_
        refine DG.look rfl rfl (Yield.move rfl) rfl ?_
        refine DG.look rfl rfl (Yield.index_slice (b := b1) (o := o1) (m := x.xs.length) (c := x.sc) Try.underlying69 ti65 rfl rfl (by omega) (by omega)) rfl ?_
        refine DG.look rfl rfl (Yield.load (v := y.cell) ti65 rfl (by rw [show o1 + (i : Int).toNat * 1 = o1 + i by omega]; exact SlR.cel (SlR.of_osl (E := 65) (a := some ⟨b1, o1, none⟩) (by repeat (first | exact Ext.here | apply Ext.there))) (by rw [List.getElem?_map, gS]; rfl))) rfl ?_
        refine DG.look rfl rfl (Yield.index_slice (b := bz) (o := oz) (m := y.ms.length) (c := y.c) Try.underlying65 ti49 (by unfold End.cell; rw [← hza]; rfl) rfl (by omega) (by omega)) rfl ?_
        refine DG.look rfl rfl (Yield.load (v := m0.cell) ti49 rfl (by rw [show oz + (0 : Int).toNat * 1 = oz + 0 from rfl]; exact SlR.cel (by rw [← hza]; exact SlR.of_osl (E := 49) (a := y.a) (c := y.c) (m := y.ms.length) (xs := y.ms.map Msg.cell) (by repeat (first | exact Ext.here | apply Ext.there))) (by rw [hsm0]; rfl))) rfl ?_
        refine DG.eff1 ?_
        refine Chg.eff rfl rfl (Eff.lit1 Try.underlying65 ti49 rfl rfl rfl) rfl (fun _ => (by repeat (first | exact Imp.refl _ | exact Imp.none _ | apply Imp.pull (by repeat (first | exact Ext.here | apply Ext.there)) | apply Imp.trans Imp.drop))) (fun _ => Imp.refl _) (fun _ => (by repeat (first | exact Imp.refl _ | exact Imp.none _ | apply Imp.pull (by repeat (first | exact Ext.here | apply Ext.there)) | apply Imp.trans Imp.drop))) ?_
        rintro b98 -
        refine DG.eff1 ?_
        refine Chg.eff rfl rfl (Eff.append (a := z.a) (c := z.c) (m := z.ms.length) (xs := z.ms.map Msg.cell) (k := 1) (ys := [m0.cell]) rfl rfl rfl Try.underlying65 Try.underlying65 ti49 rfl (by decide) (by repeat (first | exact Foc.here | apply Foc.there)) (SlR.of_osl (a := some ⟨b98, 0, none⟩) (by repeat (first | exact Ext.here | apply Ext.there))) (by simp [one, Msg.cell]) (by omega)) rfl (fun _ => (by repeat (first | exact Imp.refl _ | exact Imp.none _ | apply Imp.pull (by repeat (first | exact Ext.here | apply Ext.there)) | apply Imp.trans Imp.drop))) (fun _ => Imp.refl _) (fun _ => (by repeat (first | exact Imp.refl _ | exact Imp.none _ | apply Imp.pull (by repeat (first | exact Ext.here | apply Ext.there)) | apply Imp.trans Imp.drop))) ?_
        rintro ⟨a99, c99⟩ -
        refine DG.look rfl rfl (Yield.index_slice (b := b2) (o := o2) (m := x.ys.length) (c := x.rc) Try.underlying69 ti65 rfl rfl (by omega) (by omega)) rfl ?_
        refine DG.eff1 ?_
        refine Chg.eff rfl rfl (Eff.storeElem (i := i) ti65 (by rw [show o2 + (i : Int).toNat * 1 = o2 + i by omega]; rfl) rfl (by repeat (first | exact Foc.here | apply Foc.there)) rfl (by omega)) rfl (fun _ => (by repeat (first | exact Imp.refl _ | exact Imp.none _ | apply Imp.pull (by repeat (first | exact Ext.here | apply Ext.there)) | apply Imp.trans Imp.drop))) (fun _ => Imp.refl _) (fun _ => (by repeat (first | exact Imp.refl _ | exact Imp.none _ | apply Imp.pull (by repeat (first | exact Ext.here | apply Ext.there)) | apply Imp.trans Imp.drop))) ?_
        rintro ⟨⟩ -
        rw [show Value.slice a99 (z.ms.length + 1) c99 = End.cell ⟨a99, c99, z.ms ++ [m0]⟩ by unfold End.cell; rw [List.length_append]; rfl, ← List.map_set (f := End.cell), List.set_set]
        refine DG.done ?_
        refine QG.then ?_
        refine CG.seq ?_
        refine CG.draw (.look 0 0 (.look 1 0 (.look 2 0 (.look 3 0 (.look 4 0 (.look 6 0 (.look 7 0 (.look 8 0 (.look 9 0 (.look 10 0 (.look 11 0 (.look 12 2 (.look 13 0 (.eff1 5 false (.eff1 14 false (.look 15 1 (.eff1 16 true (.done)))))))))))))))))) [5, 14, 16] [12] ([blk r [.slice (some ⟨b0, o0, none⟩) l.length x.cc, .slice (some ⟨b1, o1, none⟩) x.xs.length x.sc, .slice (some ⟨b2, o2, none⟩) x.ys.length x.rc] 94, oend y]) ([osl 65 1 (some ⟨b1, o1, none⟩) x.sc x.xs.length ((x.xs.set i y).map End.cell)]) mixed (by kernel_rfl) ((by repeat (first | exact Imp.refl _ | exact Imp.none _ | apply Imp.pull (by repeat (first | exact Ext.here | apply Ext.there)) | apply Imp.trans Imp.drop))) ((by repeat (first | exact Imp.refl _ | exact Imp.none _ | apply Imp.pull (by repeat (first | exact Ext.here | apply Ext.there)) | apply Imp.trans Imp.drop))) ?_
        refine DG.look rfl rfl (Yield.move rfl) rfl ?_
        refine DG.look rfl rfl (Yield.nilCheck rfl) rfl ?_
        refine DG.look rfl rfl (Yield.fieldAddr fa94_1 rfl) rfl ?_
        refine DG.look rfl rfl (Yield.load (v := .slice (some ⟨b1, o1, none⟩) x.xs.length x.sc) ti69 rfl (Cel.of_blk (b := r) (by repeat (first | exact Ext.here | apply Ext.there)) rfl)) rfl ?_
        refine DG.look rfl rfl (Yield.move rfl) rfl ?_
        refine DG.look rfl rfl (Yield.move rfl) rfl ?_
        refine DG.look rfl rfl (Yield.nilCheck rfl) rfl ?_
        refine DG.look rfl rfl (Yield.fieldAddr fa94_1 rfl) rfl ?_
        refine DG.look rfl rfl (Yield.load (v := .slice (some ⟨b1, o1, none⟩) x.xs.length x.sc) ti69 rfl (Cel.of_blk (b := r) (by repeat (first | exact Ext.here | apply Ext.there)) rfl)) rfl ?_
        refine DG.look rfl rfl (Yield.move rfl) rfl ?_
        refine DG.look rfl rfl (Yield.index_slice (b := b1) (o := o1) (m := x.xs.length) (c := x.sc) Try.underlying69 ti65 rfl rfl (by omega) (by omega)) rfl ?_
        refine DG.look rfl rfl (Yield.load (v := y.cell) ti65 rfl (by rw [show o1 + (i : Int).toNat * 1 = o1 + i by omega]; exact SlR.cel (SlR.of_osl (E := 65) (a := some ⟨b1, o1, none⟩) (by repeat (first | exact Ext.here | apply Ext.there))) (by rw [List.getElem?_map, gS]; rfl))) rfl ?_
        refine DG.look rfl rfl (Yield.tail (y := y) Try.underlying65 ti49 rfl (by omega) hzc) rfl ?_
        refine DG.eff1 ?_
        refine Chg.eff rfl rfl (Eff.lit0 Try.underlying65 ti49 rfl) rfl (fun _ => (by repeat (first | exact Imp.refl _ | exact Imp.none _ | apply Imp.pull (by repeat (first | exact Ext.here | apply Ext.there)) | apply Imp.trans Imp.drop))) (fun _ => Imp.refl _) (fun _ => (by repeat (first | exact Imp.refl _ | exact Imp.none _ | apply Imp.pull (by repeat (first | exact Ext.here | apply Ext.there)) | apply Imp.trans Imp.drop))) ?_
        rintro b106 -
        refine DG.eff1 ?_
        refine Chg.eff rfl rfl (Eff.append (a := some ⟨b106, 0, none⟩) (c := 0) (m := 0) (xs := []) (a2 := y.tail.a) (c2 := y.tail.c) (k := y.tail.ms.length) (ys := y.tail.ms.map Msg.cell) rfl rfl rfl Try.underlying65 Try.underlying65 ti49 rfl (by decide) (by repeat (first | exact Foc.here | apply Foc.there)) (SlR.tail W0 (y := y) hr1 (by repeat (first | exact Ext.here | apply Ext.there))) (cells_ones _) (by unfold End.tail; simp only [List.length_tail]; omega)) rfl (fun _ => (by repeat (first | exact Imp.refl _ | exact Imp.none _ | apply Imp.pull (by repeat (first | exact Ext.here | apply Ext.there)) | apply Imp.trans Imp.drop))) (fun _ => Imp.refl _) (fun _ => (by repeat (first | exact Imp.refl _ | exact Imp.none _ | apply Imp.pull (by repeat (first | exact Ext.here | apply Ext.there)) | apply Imp.trans Imp.drop))) ?_
        rintro ⟨a115, c115⟩ -
        refine DG.look rfl rfl (Yield.index_slice (b := b1) (o := o1) (m := x.xs.length) (c := x.sc) Try.underlying69 ti65 rfl rfl (by omega) (by omega)) rfl ?_
        refine DG.eff1 ?_
        refine Chg.eff rfl rfl (Eff.storeElem (i := i) ti65 (by rw [show o1 + (i : Int).toNat * 1 = o1 + i by omega]; rfl) rfl (by repeat (first | exact Foc.here | apply Foc.there)) rfl (by omega)) rfl (fun _ => (by repeat (first | exact Imp.refl _ | exact Imp.none _ | apply Imp.pull (by repeat (first | exact Ext.here | apply Ext.there)) | apply Imp.trans Imp.drop))) (fun _ => Imp.refl _) (fun _ => (by repeat (first | exact Imp.refl _ | exact Imp.none _ | apply Imp.pull (by repeat (first | exact Ext.here | apply Ext.there)) | apply Imp.trans Imp.drop))) ?_
        rintro ⟨⟩ -
        rw [show Value.slice a115 (0 + y.tail.ms.length) c115 = End.cell ⟨a115, c115, y.tail.ms⟩ by unfold End.cell; rw [Nat.zero_add], ← List.map_set (f := End.cell), List.set_set]
        refine DG.done ?_
        refine QG.then ?_
        refine CG.region ?_
        refine OG.yield (Yield.move rfl) rfl ?_
        refine OG.yield (Yield.add rfl rfl (w64 (by have := hrw.le; omega) (by have := hok.s; omega))) rfl ?_
        refine OG.yield (Yield.assign rfl) rfl ?_
        refine OG.nil ?_
        refine QG.block_normal ?_
        have hyt : Po.End.bs ⟨a115, c115, y.tail.ms⟩ = ms'.map Msg.b := by unfold End.bs End.tail; dsimp only; rw [hsm0]; rfl
        have hzt : Po.End.bs ⟨a99, c99, z.ms ++ [m0]⟩ = z.bs ++ [m0.b] := by unfold End.bs; rw [List.map_append]; rfl
        have hm64 : m0.b.length ≤ 64 := hrw.sm m0.b (by rw [hsb]; simp)
        have hle := hrw.le
        have hyl2 : (ms'.map Msg.b).length + 1 = y.bs.length := by rw [hsb]; simp
        refine QG.next (⟨a115, c115, y.tail.ms⟩, ⟨a99, c99, z.ms ++ [m0]⟩) ⟨⟨?_, ?_, ?_, ?_, ?_, ?_⟩, ?_, fun h => absurd hk2 h⟩ ?_ ?_ ?_
        · dsimp only; rw [hyt]; omega
        · dsimp only; rw [hzt, List.length_append, hbz]; simp only [List.length_cons, List.length_nil]; omega
        · dsimp only; rw [hyt]; exact fun m hm => hrw.sm m (by rw [hsb]; exact List.mem_cons_of_mem _ hm)
        · dsimp only; rw [hzt]; intro m hm; rcases List.mem_append.1 hm with hm | hm; exact hrw.rm m hm; simp only [List.mem_cons, List.not_mem_nil, or_false] at hm; subst hm; exact hm64
        · dsimp only; intro m hm
          rcases hm with hm | hm
          · exact hrw.mem m (.inl (List.mem_of_mem_tail hm))
          · rcases List.mem_append.1 hm with hm | hm
            · exact hrw.mem m (.inr hm)
            · simp only [List.mem_cons, List.not_mem_nil, or_false] at hm; subst hm; exact hrw.mem m (.inl (by rw [hsm0]; simp))
        · dsimp only; rw [hyt]; omega
        · dsimp only; rw [hyt, hzt]; exact hq
        · dsimp only; unfold End.tail; dsimp only; rw [List.length_tail]; omega
        · dsimp only; rw [hyt, show ac.s.length - (ms'.map Msg.b).length = (ac.s.length - y.bs.length) + 1 by omega]; exact (by repeat (first | exact Env.sub_nil _ | refine Env.sub_cons rfl ?_))
        · dsimp only
          rw [show oend ⟨a99, c99, z.ms ++ [m0]⟩ = osl 49 1 a99 c99 (z.ms.length + 1) (z.ms.map Msg.cell ++ [m0.cell]) from oend_snoc _ _ _ _]
          rw [show oend ⟨a115, c115, y.tail.ms⟩ = osl 49 1 a115 c115 (0 + y.tail.ms.length) ([] ++ y.tail.ms.map Msg.cell) by unfold oend; rw [Nat.zero_add, List.nil_append]]
          exact (by repeat (first | exact Imp.refl _ | exact Imp.none _ | apply Imp.pull (by repeat (first | exact Ext.here | apply Ext.there)) | apply Imp.trans Imp.drop))
    rintro ⟨y3, z3⟩ ⟨hrw3, hq3⟩
    dsimp only at hrw3 hq3 ⊢
    have hwent : ac.went = decide ((0 : Int) < ((ac.s.length - y3.bs.length : Nat) : Int)) := by unfold AC.went; rw [← hq3]; congr 1; simp only [eq_iff_iff]; omega
    have hq31 : y3.bs = ac.tr.s := by unfold AC.tr; rw [← hq3]
    have hq32 : z3.bs = ac.tr.r := by unfold AC.tr; rw [← hq3]
    refine CG.imp (G' := Rp r (A.set i ac.tr) :: oins a3 c3 (wentI acs i) :: Fr) (Imp.trans (Imp.trans pool_nil (by repeat (first | exact Imp.refl _ | exact Imp.none _ | apply Imp.pull (by repeat (first | exact Ext.here | apply Ext.there)) | apply Imp.trans Imp.drop))) (@hcl2 y3 z3 ac ac.tr [] (oins a3 c3 (wentI acs i) :: Fr) hy hz hx hga rfl ⟨by rw [← hq31]; exact hrw3.sl, by rw [← hq32]; exact hrw3.rl, by rw [← hq31]; exact hrw3.sm, by rw [← hq32]; exact hrw3.rm⟩ hq31 hq32 hrw3.mem)) ?_
    rw [← hst]
    generalize ac.went = wb at hwi hwent
    refine CG.seq ?_
    refine CG.region ?_
    refine OG.yield (Yield.move rfl) rfl ?_
    refine OG.yield (Yield.as (Yield.gtr rfl rfl) (by rw [← hwent])) rfl ?_
    refine OG.nil ?_
    refine QG.then ?_
    refine CG.cond rfl (fun hc => ?_) (fun hc => ?_)
    · try replace hc := of_decide_eq_true hc
      refine CG.region ?_
      refine OG.yield (Yield.move rfl) rfl ?_
      refine OG.yield (Yield.move rfl) rfl ?_
      refine OG.effd (Eff.lit1 Try.underlying29 ti3 rfl rfl rfl) rfl ?_
      rintro b123 -
      refine OG.effd (Eff.append (k := 1) (ys := [.int .i64 i]) rfl rfl rfl Try.underlying29 Try.underlying29 ti3 rfl (by decide) (by repeat (first | exact Foc.here | apply Foc.there)) (SlR.of_osl (a := some ⟨b123, 0, none⟩) (by repeat (first | exact Ext.here | apply Ext.there))) (by simp [one]) (by omega)) rfl ?_
      rintro ⟨a124, c124⟩ -
      refine OG.yield (Yield.assign rfl) rfl ?_
      refine OG.nil ?_
      refine QG.block_normal ?_
      refine QG.then ?_
      refine CG.region ?_
      refine OG.yield (Yield.move rfl) rfl ?_
      refine OG.yield (Yield.add rfl rfl (w64 (by omega) (by omega))) rfl ?_
      refine OG.yield (Yield.assign rfl) rfl ?_
      refine OG.nil ?_
      refine QG.next (i + 1, a124, c124) (show i + 1 ≤ acs.length by omega) (show acs.length - (i + 1) < acs.length - i by omega) ?_ ?_
      · dsimp only; rw [hwi, if_pos hc, List.length_append]; exact (by repeat (first | exact Env.sub_nil _ | refine Env.sub_cons rfl ?_))
      · dsimp only; rw [hwi, if_pos hc, show oins a124 c124 (wentI acs i ++ [(i : Int)]) = osl 3 1 a124 c124 ((wentI acs i).length + 1) (oint (wentI acs i) ++ [.int .i64 i]) by unfold oins oint; rw [List.length_append, List.map_append]; rfl]; exact (by repeat (first | exact Imp.refl _ | exact Imp.none _ | apply Imp.pull (by repeat (first | exact Ext.here | apply Ext.there)) | apply Imp.trans Imp.drop))
    · try replace hc := of_decide_eq_false hc
      refine CG.skip ?_
      refine QG.block_normal ?_
      refine QG.then ?_
      refine CG.region ?_
      refine OG.yield (Yield.move rfl) rfl ?_
      refine OG.yield (Yield.add rfl rfl (w64 (by omega) (by omega))) rfl ?_
      refine OG.yield (Yield.assign rfl) rfl ?_
      refine OG.nil ?_
      refine QG.next (i + 1, a3, c3) (show i + 1 ≤ acs.length by omega) (show acs.length - (i + 1) < acs.length - i by omega) ?_ ?_
      · dsimp only; rw [hwi, if_neg (by rw [hc]; decide)]; exact (by repeat (first | exact Env.sub_nil _ | refine Env.sub_cons rfl ?_))
      · dsimp only; rw [hwi, if_neg (by rw [hc]; decide)]; exact (by repeat (first | exact Imp.refl _ | exact Imp.none _ | apply Imp.pull (by repeat (first | exact Ext.here | apply Ext.there)) | apply Imp.trans Imp.drop))
  · try replace hc := of_decide_eq_false hc
    refine CG.exit ?_
    refine QG.pass_exit ?_
    refine QG.pass_exit ?_
    refine QG.block_exit ?_
    refine QG.then ?_
    refine CG.seq ?_
    refine CG.region ?_
    refine OG.yield (Yield.move rfl) rfl ?_
    refine OG.yield (Yield.assign rfl) rfl ?_
    refine OG.nil ?_
    refine QG.then ?_
    refine CG.ret ?_
    have hie : i = acs.length := by omega
    subst hie
    rw [hfin rfl] at hback0
    exact QG.ret1 rfl rfl (a3, c3) trivial rfl (Imp.trans (Imp.trans (by repeat (first | exact Imp.refl _ | exact Imp.none _ | apply Imp.pull (by repeat (first | exact Ext.here | apply Ext.there)) | apply Imp.trans Imp.drop)) hback0) (fun _ s => Sep.swap s))
end
end Go.Proofs.Ytjigjbcdopmeeaa.Po
