/- ports: Transfer and New. -/
import Derived.Test.YtjigjbcdopmeeaaPtrans
namespace Go.Proofs.Ytjigjbcdopmeeaa.Po
open Go Go.Sl Go.RowKit Go.Proofs Go.Proofs.Ytjigjbcdopmeeaa.T
set_option linter.unusedVariables false
set_option linter.unusedSimpArgs false
set_option maxRecDepth 100000
/-- What is carried over at a channel: what stays at the sending end, what lies at the other. -/
def carry (kd dp : Int) : List B → List B → List B × List B
  | [], r => ([], r)
  | m :: s, r => if kd ≠ 2 then carry kd dp s [m] else if dp ≤ (r.length : Int) then (m :: s, r) else carry kd dp s (r ++ [m])
def AC.q (ac : AC) : List B × List B := carry ac.kind (dep ac.kind ac.depth) ac.s ac.r
def AC.tr (ac : AC) : AC := { ac with s := ac.q.1, r := ac.q.2 }
def AC.went (ac : AC) : Bool := decide (ac.q.1.length < ac.s.length)
/-- The channels below i at which something went. -/
def wentI (acs : List AC) (i : Nat) : List Int := ((List.range i).filter fun n => ((acs[n]?).map AC.went).getD false).map Int.ofNat
theorem wentI_succ {acs : List AC} {i : Nat} {ac : AC} (h : acs[i]? = some ac) : wentI acs (i + 1) = if ac.went then wentI acs i ++ [(i : Int)] else wentI acs i := by
  unfold wentI
  rw [List.range_succ, List.filter_append, List.map_append]
  cases hw : ac.went <;> simp [h, hw]
theorem wentI_len (acs : List AC) (i : Nat) : (wentI acs i).length ≤ i := by
  unfold wentI; rw [List.length_map]; exact Nat.le_trans (List.length_filter_le _ _) (by simp)
def oint (l : List Int) : List Value := l.map (Value.int .i64)
abbrev oins (a : Option Addr) (c : Nat) (l : List Int) : HProp := osl 3 1 a c l.length (oint l)
theorem step_map {acs : List AC} {i : Nat} {ac : AC} (h : acs[i]? = some ac) : (acs.take (i + 1)).map AC.tr ++ acs.drop (i + 1) = ((acs.take i).map AC.tr ++ acs.drop i).set i ac.tr := by
  obtain ⟨hi, rfl⟩ := List.getElem?_eq_some_iff.1 h
  have hl : ((acs.take i).map AC.tr).length = i := by simp; omega
  rw [List.set_append_right _ _ (by omega), hl, Nat.sub_self, List.drop_eq_getElem_cons hi, List.set_cons_zero, List.take_succ_eq_append_getElem hi, List.map_append, List.append_assoc]; rfl
theorem step_get {acs : List AC} {i : Nat} {ac : AC} (h : acs[i]? = some ac) : ((acs.take i).map AC.tr ++ acs.drop i)[i]? = some ac := by
  obtain ⟨hi, rfl⟩ := List.getElem?_eq_some_iff.1 h
  have hl : ((acs.take i).map AC.tr).length = i := by simp; omega
  rw [List.getElem?_append_right (by omega), hl, Nat.sub_self]; simp [hi]
/-- How a channel stands within Transfer: as it began, but for its ends. -/
structure Way (ch0 ch : Chan) (ms pl : List Msg) : Prop where
  kind : ch.kind = ch0.kind
  from_ : ch.from_ = ch0.from_
  to : ch.to = ch0.to
  size : ch.size = ch0.size
  depth : ch.depth = ch0.depth
  sl : ch.s.ms.length ≤ 8
  rl : ch.r.ms.length ≤ 8
  sm : ∀ m ∈ ch.s.ms, m.b.length ≤ 64
  rm : ∀ m ∈ ch.r.ms, m.b.length ≤ 64
  mem : ∀ m, m ∈ ch.s.ms ∨ m ∈ ch.r.ms → m ∈ ms ++ pl
structure It where
  ch : Chan
  ms : List Msg
section
variable (W0 : World) (Fr : List HProp)
set_option maxHeartbeats 4000000 in
theorem transfer_spec {p : Nat} {acs : List AC} : Ctr Try.prog W0 24 [.pointer (some ⟨p, 0, none⟩)] (Po p acs :: Fr) (fun _ : Option Addr × Nat => True) (fun q => .slice q.1 (wentI acs acs.length).length q.2) (fun q => oins q.1 q.2 (wentI acs acs.length) :: Po p (acs.map AC.tr) :: Fr) := by
  refine Ctr.pure (ψ := acs.length ≤ 1000) (fun w hw => by obtain ⟨_, _, x, hx, _⟩ := Sat.ext Ext.here hw; exact hx.len) fun hal => ?_
  refine Ctr.of_body Try.func24 rfl Try.ntmps24 rfl ?_
  refine CG.seq ?_
  refine CG.region ?_
  refine OG.yield (Yield.assign rfl) rfl ?_
  refine OG.nil ?_
  refine QG.then ?_
  refine CG.seq ?_
  refine CG.region ?_
  refine OG.yield (Yield.assign rfl) rfl ?_
  refine OG.nil ?_
  refine QG.then ?_
  refine CG.ex (A := Po p acs) (by repeat (first | exact Ext.here | apply Ext.there)) po_open ?_
  intro x0 hx0
  refine CG.imp star_open ?_
  have hln0 := hx0.lens
  dsimp only [CO, List.cons_append, List.nil_append]
  refine CG.seq ?_
  refine CG.seq ?_
  refine CG.region ?_
  refine OG.yield (Yield.move rfl) rfl ?_
  refine OG.yield (Yield.nilCheck rfl) rfl ?_
  refine OG.yield (Yield.fieldAddr fa82_0 rfl) rfl ?_
  refine OG.yield (Yield.load ti80 rfl (by first | exact Cel.of_blk (by repeat (first | exact Ext.here | apply Ext.there)) rfl | exact (hrow (by repeat (first | exact Ext.here | apply Ext.there))) _ _ rfl)) rfl ?_
  refine OG.yield (Yield.len_slice Try.underlying80 rfl rfl) rfl ?_
  refine OG.yield (Yield.move rfl) rfl ?_
  refine OG.nil ?_
  refine QG.then ?_
  refine CG.block ?_
  refine CG.loop (fun s : Nat × Option Addr × Nat => s.1 ≤ acs.length) (fun s => [(0, .pointer (some ⟨p, 0, none⟩)), (3, .slice s.2.1 (wentI acs s.1).length s.2.2), (11, .int .i64 acs.length), (12, .int .i64 s.1)]) (fun s => oins s.2.1 s.2.2 (wentI acs s.1) :: Po p ((acs.take s.1).map AC.tr ++ acs.drop s.1) :: Fr) (fun s => acs.length - s.1) (0, none, 0) (Nat.zero_le _) (by rw [← hln0]; exact (by repeat (first | exact Env.sub_nil _ | refine Env.sub_cons rfl ?_))) (by simp only [List.take_zero, List.map_nil, List.nil_append, List.drop_zero]; exact Imp.trans (osl_nil (E := 3) (sz := 1)) (Imp.cons (Imp.trans (by repeat (first | exact Imp.refl _ | exact Imp.none _ | apply Imp.pull (by repeat (first | exact Ext.here | apply Ext.there)) | apply Imp.trans Imp.drop)) (po_close x0 hx0)))) ?_
  rintro ⟨i, a3, c3⟩ (hi : i ≤ acs.length)
  have hwl := wentI_len acs i
  dsimp only
  refine CG.seq ?_
  refine CG.region ?_
  refine OG.yield (by first | exact Yield.as (Yield.lss rfl rfl) (bT (by omega)) | exact Yield.as (Yield.lss rfl rfl) (bF (by omega)) | exact Yield.lss rfl rfl) rfl ?_
  refine OG.nil ?_
  refine QG.then ?_
  refine CG.seq ?_
  refine CG.cond rfl (fun hc => ?_) (fun hc => ?_)
  · try replace hc := of_decide_eq_true hc
    have hi' : i < acs.length := by omega
    have hget : acs[i]? = some acs[i] := by simp [hi']
    generalize acs[i] = ac at hget
    have hg2 := step_get hget
    have hwi := wentI_succ hget
    have hst := step_map hget
    refine CG.skip ?_
    refine QG.then ?_
    refine CG.seq ?_
    refine CG.block ?_
    refine CG.seq ?_
    refine CG.region ?_
    refine OG.yield (Yield.move rfl) rfl ?_
    refine OG.yield (Yield.assign rfl) rfl ?_
    refine OG.nil ?_
    refine QG.then ?_
    refine CG.scope ?_
    generalize hA : (acs.take i).map AC.tr ++ acs.drop i = A at hg2 hst ⊢
    refine CG.ex (A := Po p A) (by repeat (first | exact Ext.here | apply Ext.there)) po_open ?_
    intro x hx
    refine CG.imp star_open ?_
    have hln := hx.lens
    obtain ⟨ch, hch, hab⟩ := hx.get hg2
    have hnl : i < x.chs.length := (List.getElem?_eq_some_iff.1 hch).1
    have hok := hx.ok _ (List.mem_of_getElem? hg2)
    have hmem := hx.mem ch (List.mem_of_getElem? hch)
    subst hab
    refine CG.imp (cp_open hch) ?_
    refine CG.pure (fun w hw => shape_chs (cs := x.chs.set i ch) hch (by rw [List.length_set]) (Ext.there Ext.here) w hw) ?_
    rintro ⟨b, o, hxa⟩
    have hway : Way ch ch [] x.pl := ⟨rfl, rfl, rfl, rfl, rfl, by have := hok.s; simp only [Chan.abs, End.bs, List.length_map] at this; exact this, by have := hok.r; simp only [Chan.abs, End.bs, List.length_map] at this; exact this, fun m hm => hok.sl m.b (List.mem_map_of_mem hm), fun m hm => hok.rl m.b (List.mem_map_of_mem hm), fun m hm => hmem m hm⟩
    refine CG.imp (G' := CP p x i ch ++ (pool [] :: pool x.pl :: oins a3 c3 (wentI acs i) :: Fr)) (Imp.trans (by repeat (first | exact Imp.refl _ | exact Imp.none _ | apply Imp.pull (by repeat (first | exact Ext.here | apply Ext.there)) | apply Imp.trans Imp.drop)) (Imp.trans pool_nil (by repeat (first | exact Imp.refl _ | exact Imp.none _ | apply Imp.pull (by repeat (first | exact Ext.here | apply Ext.there)) | apply Imp.trans Imp.drop)))) ?_
    unfold CP
    rw [hxa]
    dsimp only [List.cons_append, List.nil_append]
    refine CG.seq ?_
    refine CG.region ?_
    refine OG.yield (Yield.move rfl) rfl ?_
    refine OG.yield (Yield.nilCheck rfl) rfl ?_
    refine OG.yield (Yield.fieldAddr fa82_0 rfl) rfl ?_
    refine OG.yield (Yield.load ti80 rfl (by first | exact Cel.of_blk (by repeat (first | exact Ext.here | apply Ext.there)) rfl | exact (hrow (by repeat (first | exact Ext.here | apply Ext.there))) _ _ rfl)) rfl ?_
    refine OG.yield (Yield.move rfl) rfl ?_
    refine OG.yield (Yield.index_slice Try.underlying80 ti86 rfl rfl (by omega) (by omega)) rfl ?_
    refine OG.yield (Yield.assign rfl) rfl ?_
    refine OG.nil ?_
    refine QG.then ?_
    refine CG.seq ?_
    refine CG.region ?_
    refine OG.yield (Yield.assign rfl) rfl ?_
    refine OG.nil ?_
    refine QG.then ?_
    refine CG.seq ?_
    refine CG.label ?_
    refine QG.then ?_
    refine CG.cut (fun s : It => Way ch s.ch s.ms x.pl ∧ (s.ch.s.bs, s.ch.r.bs) = ch.abs.q) (fun s => [(0, .pointer (some ⟨p, 0, none⟩)), (3, .slice a3 (wentI acs i).length c3), (4, .int .i64 i), (6, .bool (decide (s.ch.s.bs.length < ch.s.bs.length))), (11, .int .i64 acs.length), (12, .int .i64 i)]) (fun s => CP p x i s.ch ++ (pool s.ms :: pool x.pl :: oins a3 c3 (wentI acs i) :: Fr)) ?_ ?_
    · skip
      refine CG.block ?_
      refine CG.loop (fun s : It => Way ch s.ch s.ms x.pl ∧ carry ch.kind (dep ch.kind ch.depth) s.ch.s.bs s.ch.r.bs = ch.abs.q ∧ s.ch.s.bs.length ≤ ch.s.bs.length) (fun s => [(0, .pointer (some ⟨p, 0, none⟩)), (3, .slice a3 (wentI acs i).length c3), (4, .int .i64 i), (5, .pointer (some ⟨b, o + i * 7, none⟩)), (6, .bool (decide (s.ch.s.bs.length < ch.s.bs.length))), (11, .int .i64 acs.length), (12, .int .i64 i)]) (fun s => CP p x i s.ch ++ (pool s.ms :: pool x.pl :: oins a3 c3 (wentI acs i) :: Fr)) (fun s => s.ch.s.ms.length) ⟨ch, []⟩ ⟨hway, rfl, Nat.le_refl _⟩ (by rw [show decide (ch.s.bs.length < ch.s.bs.length) = false by simp]; exact (by repeat (first | exact Env.sub_nil _ | refine Env.sub_cons rfl ?_))) (by dsimp only; unfold CP; rw [hxa]; exact Imp.refl _) ?_
      rintro ⟨ch2, ms2⟩ ⟨way, hq, hsl⟩
      dsimp only at way hq hsl ⊢
      have hcs : (x.chs.set i ch2)[i]? = some ch2 := by simp [hnl]
      have wl := way.sl
      have wr := way.rl
      unfold CP
      rw [hxa]
      dsimp only [List.cons_append, List.nil_append]
      refine CG.seq ?_
      refine CG.seq ?_
      refine CG.region ?_
      refine OG.yield (Yield.move rfl) rfl ?_
      refine OG.yield (Yield.nilCheck rfl) rfl ?_
      refine OG.yield (Yield.fieldAddr fa86_1 rfl) rfl ?_
      refine OG.yield (Yield.fieldAddr fa84_0 rfl) rfl ?_
      refine OG.yield (Yield.load (v := ch2.s.cell) ti65 rfl (((SlR.of_osl (by repeat (first | exact Ext.here | apply Ext.there))).elem Chan.len hcs) 5 _ rfl)) rfl ?_
      refine OG.yield (Yield.len_slice (a := ch2.s.a) (m := ch2.s.ms.length) (c := ch2.s.c) Try.underlying65 rfl rfl) rfl ?_
      refine OG.yield (Yield.gtr rfl rfl) rfl ?_
      refine OG.nil ?_
      refine QG.then ?_
      refine CG.cond rfl (fun hc => ?_) (fun hc => ?_)
      · try replace hc := of_decide_eq_true hc
        obtain ⟨m0, ms', hsm⟩ : ∃ m0 ms', ch2.s.ms = m0 :: ms' := by
          cases h : ch2.s.ms with
          | nil => rw [h] at hc; simp at hc
          | cons a l => exact ⟨a, l, rfl⟩
        have hsb : ch2.s.bs = m0.b :: ms'.map Msg.b := by unfold End.bs; rw [hsm]; rfl
        have hql := hq
        rw [hsb, carry] at hql
        refine CG.skip ?_
        refine QG.then ?_
        refine CG.block ?_
        refine CG.cut (fun ch1 : Chan => Way ch ch1 ms2 x.pl ∧ ch1.s = ch2.s ∧ ch1.r.ms.length ≤ 7 ∧ carry ch.kind (dep ch.kind ch.depth) (ms'.map Msg.b) (ch1.r.bs ++ [m0.b]) = ch.abs.q) (fun _ => [(0, .pointer (some ⟨p, 0, none⟩)), (3, .slice a3 (wentI acs i).length c3), (4, .int .i64 i), (5, .pointer (some ⟨b, o + i * 7, none⟩)), (11, .int .i64 acs.length), (12, .int .i64 i)]) (fun ch1 => CP p x i ch1 ++ (pool ms2 :: pool x.pl :: oins a3 c3 (wentI acs i) :: Fr)) ?_ ?_
        · skip
          refine CG.block ?_
          refine CG.seq ?_
          rcases (show ch2.kind ≠ 2 ∨ (ch2.kind = 2 ∧ dep ch2.kind ch2.depth ≤ (ch2.r.ms.length : Int)) ∨ (ch2.kind = 2 ∧ (ch2.r.ms.length : Int) < dep ch2.kind ch2.depth) by omega) with hh | hh | hh
          · skip
            rw [if_pos (by rw [← way.kind]; exact hh)] at hql
            refine CG.region ?_
            refine OG.yield (Yield.move rfl) rfl ?_
            refine OG.yield (Yield.nilCheck rfl) rfl ?_
            refine OG.yield (Yield.fieldAddr fa86_0 rfl) rfl ?_
            refine OG.yield (Yield.fieldAddr fa47_0 rfl) rfl ?_
            refine OG.yield (Yield.load (v := .int .i64 ch2.kind) ti3 rfl (((SlR.of_osl (by repeat (first | exact Ext.here | apply Ext.there))).elem Chan.len hcs) 0 _ rfl)) rfl ?_
            refine OG.yield (Yield.as (Yield.neq rfl rfl) (bT hh)) rfl ?_
            refine OG.yield (Yield.assign rfl) rfl ?_
            refine OG.nil ?_
            refine QG.then ?_
            refine CG.cond_t rfl ?_
            refine CG.region ?_
            refine OG.yield (Yield.move rfl) rfl ?_
            refine OG.yield (Yield.nilCheck rfl) rfl ?_
            refine OG.yield (Yield.fieldAddr fa86_2 rfl) rfl ?_
            refine OG.yield (Yield.fieldAddr fa84_0 rfl) rfl ?_
            refine OG.eff (Eff.storeFld (i := i) 6 (r := ch2) (r' := { ch2 with r := nilE }) (rs := x.chs.set i ch2) Chan.len hcs rfl (by decide) ti65 rfl rfl (by repeat (first | exact Foc.here | apply Foc.there)) rfl (by rw [List.length_set])) rfl ?_
            rintro ⟨⟩ -
            refine OG.nil ?_
            refine QG.block_normal ?_
            refine QG.mid { ch2 with r := nilE } ⟨⟨way.kind, way.from_, way.to, way.size, way.depth, way.sl, Nat.zero_le _, way.sm, fun m hm => absurd hm (by simp [nilE]), fun m hm => by rcases hm with hm | hm; exact way.mem m (.inl hm); exact absurd hm (by simp [nilE])⟩, rfl, Nat.zero_le _, hql⟩ (by repeat (first | exact Env.sub_nil _ | refine Env.sub_cons rfl ?_)) ?_
            try unfold CP
            try rw [hxa]
            rw [List.set_set] at *
            exact Imp.trans oend_nil (by repeat (first | exact Imp.refl _ | exact Imp.none _ | apply Imp.pull (by repeat (first | exact Ext.here | apply Ext.there)) | apply Imp.trans Imp.drop))
          · skip
            rw [way.kind, way.depth] at hh
            refine CG.region ?_
            refine OG.yield (Yield.move rfl) rfl ?_
            refine OG.yield (Yield.nilCheck rfl) rfl ?_
            refine OG.yield (Yield.fieldAddr fa86_0 rfl) rfl ?_
            refine OG.yield (Yield.fieldAddr fa47_0 rfl) rfl ?_
            refine OG.yield (Yield.load (v := .int .i64 ch2.kind) ti3 rfl (((SlR.of_osl (by repeat (first | exact Ext.here | apply Ext.there))).elem Chan.len hcs) 0 _ rfl)) rfl ?_
            refine OG.yield (Yield.as (Yield.neq rfl rfl) (bF (by rw [way.kind]; exact not_not_intro hh.1))) rfl ?_
            refine OG.yield (Yield.assign rfl) rfl ?_
            refine OG.nil ?_
            refine QG.then ?_
            refine CG.cond_f rfl ?_
            refine CG.seq ?_
            refine CG.draw (.look 0 0 (.look 1 0 (.look 2 0 (.look 3 0 (.look 4 0 (.look 5 0 (.look 6 1 (.eff1 7 false (.look 8 1 (.look 9 1 (.done))))))))))) [7] [] ([osl 86 7 (some ⟨b, o, none⟩) x.c x.chs.length (((x.chs.set i ch2).map Chan.cells).flatten)]) ([]) mixed (by kernel_rfl) ((by repeat (first | exact Imp.refl _ | exact Imp.none _ | apply Imp.pull (by repeat (first | exact Ext.here | apply Ext.there)) | apply Imp.trans Imp.drop))) (Imp.none _) ?_
            refine DG.look rfl rfl (Yield.move rfl) rfl ?_
            refine DG.look rfl rfl (Yield.nilCheck rfl) rfl ?_
            refine DG.look rfl rfl (Yield.fieldAddr fa86_2 rfl) rfl ?_
            refine DG.look rfl rfl (Yield.fieldAddr fa84_0 rfl) rfl ?_
            refine DG.look rfl rfl (Yield.load (v := ch2.r.cell) ti65 rfl (((SlR.of_osl Ext.here).elem Chan.len hcs) 6 _ rfl)) rfl ?_
            refine DG.look rfl rfl (Yield.len_slice (a := ch2.r.a) (m := ch2.r.ms.length) (c := ch2.r.c) Try.underlying65 rfl rfl) rfl ?_
            refine DG.look rfl rfl (Yield.move rfl) rfl ?_
            refine DG.eff1 ?_
            refine Chg.callo rfl rfl call48 rfl (Imp.refl _) (depth_spec W0 _ (b := b) (o := o + i * 7) (kd := ch2.kind) (d := ch2.depth) (by exact ((SlR.of_osl (by repeat (first | exact Ext.here | apply Ext.there))).elem Chan.len hcs) 0 _ rfl) (by exact ((SlR.of_osl (by repeat (first | exact Ext.here | apply Ext.there))).elem Chan.len hcs) 4 _ rfl)) rfl (fun _ => (by repeat (first | exact Imp.refl _ | exact Imp.none _ | apply Imp.pull (by repeat (first | exact Ext.here | apply Ext.there)) | apply Imp.trans Imp.drop))) (fun _ => Imp.refl _) (fun _ => (by repeat (first | exact Imp.refl _ | exact Imp.none _ | apply Imp.pull (by repeat (first | exact Ext.here | apply Ext.there)) | apply Imp.trans Imp.drop))) ?_
            rintro ⟨⟩ -
            refine DG.look rfl rfl (Yield.as (Yield.geq rfl rfl) (bT (by rw [way.kind, way.depth]; exact hh.2))) rfl ?_
            refine DG.look rfl rfl (Yield.assign rfl) rfl ?_
            refine DG.done ?_
            refine QG.then ?_
            refine CG.cond_t rfl ?_
            refine CG.exit ?_
            refine QG.block_out (by decide) ?_
            refine QG.pass_exit ?_
            refine QG.block_out (by decide) ?_
            refine QG.pass_exit ?_
            refine QG.block_exit ?_
            exact QG.mid ⟨ch2, ms2⟩ ⟨way, by rw [← hql]; rw [if_neg (by exact not_not_intro hh.1), if_pos (by simp only [End.bs, List.length_map]; exact hh.2), hsb]⟩ (by repeat (first | exact Env.sub_nil _ | refine Env.sub_cons rfl ?_)) (by (try unfold CP); (try rw [hxa]); exact (by repeat (first | exact Imp.refl _ | exact Imp.none _ | apply Imp.pull (by repeat (first | exact Ext.here | apply Ext.there)) | apply Imp.trans Imp.drop)))
          · skip
            have hd8 : dep ch2.kind ch2.depth ≤ 8 := by unfold dep; split <;> omega
            rw [if_neg (by rw [← way.kind]; exact not_not_intro hh.1), if_neg (by rw [← way.kind, ← way.depth]; simp only [End.bs, List.length_map]; exact Int.not_le.2 hh.2)] at hql
            refine CG.region ?_
            refine OG.yield (Yield.move rfl) rfl ?_
            refine OG.yield (Yield.nilCheck rfl) rfl ?_
            refine OG.yield (Yield.fieldAddr fa86_0 rfl) rfl ?_
            refine OG.yield (Yield.fieldAddr fa47_0 rfl) rfl ?_
            refine OG.yield (Yield.load (v := .int .i64 ch2.kind) ti3 rfl (((SlR.of_osl (by repeat (first | exact Ext.here | apply Ext.there))).elem Chan.len hcs) 0 _ rfl)) rfl ?_
            refine OG.yield (Yield.as (Yield.neq rfl rfl) (bF (not_not_intro hh.1))) rfl ?_
            refine OG.yield (Yield.assign rfl) rfl ?_
            refine OG.nil ?_
            refine QG.then ?_
            refine CG.cond_f rfl ?_
            refine CG.seq ?_
            refine CG.draw (.look 0 0 (.look 1 0 (.look 2 0 (.look 3 0 (.look 4 0 (.look 5 0 (.look 6 1 (.eff1 7 false (.look 8 1 (.look 9 1 (.done))))))))))) [7] [] ([osl 86 7 (some ⟨b, o, none⟩) x.c x.chs.length (((x.chs.set i ch2).map Chan.cells).flatten)]) ([]) mixed (by kernel_rfl) ((by repeat (first | exact Imp.refl _ | exact Imp.none _ | apply Imp.pull (by repeat (first | exact Ext.here | apply Ext.there)) | apply Imp.trans Imp.drop))) (Imp.none _) ?_
            refine DG.look rfl rfl (Yield.move rfl) rfl ?_
            refine DG.look rfl rfl (Yield.nilCheck rfl) rfl ?_
            refine DG.look rfl rfl (Yield.fieldAddr fa86_2 rfl) rfl ?_
            refine DG.look rfl rfl (Yield.fieldAddr fa84_0 rfl) rfl ?_
            refine DG.look rfl rfl (Yield.load (v := ch2.r.cell) ti65 rfl (((SlR.of_osl Ext.here).elem Chan.len hcs) 6 _ rfl)) rfl ?_
            refine DG.look rfl rfl (Yield.len_slice (a := ch2.r.a) (m := ch2.r.ms.length) (c := ch2.r.c) Try.underlying65 rfl rfl) rfl ?_
            refine DG.look rfl rfl (Yield.move rfl) rfl ?_
            refine DG.eff1 ?_
            refine Chg.callo rfl rfl call48 rfl (Imp.refl _) (depth_spec W0 _ (b := b) (o := o + i * 7) (kd := ch2.kind) (d := ch2.depth) (by exact ((SlR.of_osl (by repeat (first | exact Ext.here | apply Ext.there))).elem Chan.len hcs) 0 _ rfl) (by exact ((SlR.of_osl (by repeat (first | exact Ext.here | apply Ext.there))).elem Chan.len hcs) 4 _ rfl)) rfl (fun _ => (by repeat (first | exact Imp.refl _ | exact Imp.none _ | apply Imp.pull (by repeat (first | exact Ext.here | apply Ext.there)) | apply Imp.trans Imp.drop))) (fun _ => Imp.refl _) (fun _ => (by repeat (first | exact Imp.refl _ | exact Imp.none _ | apply Imp.pull (by repeat (first | exact Ext.here | apply Ext.there)) | apply Imp.trans Imp.drop))) ?_
            rintro ⟨⟩ -
            refine DG.look rfl rfl (Yield.as (Yield.geq rfl rfl) (bF (by omega))) rfl ?_
            refine DG.look rfl rfl (Yield.assign rfl) rfl ?_
            refine DG.done ?_
            refine QG.then ?_
            refine CG.cond_f rfl ?_
            refine CG.skip ?_
            refine QG.block_normal ?_
            exact QG.mid ch2 ⟨way, rfl, by omega, hql⟩ (by repeat (first | exact Env.sub_nil _ | refine Env.sub_cons rfl ?_)) (by (try unfold CP); (try rw [hxa]); exact (by repeat (first | exact Imp.refl _ | exact Imp.none _ | apply Imp.pull (by repeat (first | exact Ext.here | apply Ext.there)) | apply Imp.trans Imp.drop)))
        rintro ch1 ⟨way1, hs1, hr7, hq1⟩
        have hcs1 : (x.chs.set i ch1)[i]? = some ch1 := by simp [hnl]
        have hsm1 : ch1.s.ms = m0 :: ms' := by rw [hs1]; exact hsm
        unfold CP
        rw [hxa]
        dsimp only [List.cons_append, List.nil_append]
        refine CG.pure (fun w hw => SlR.shape (SlR.of_osl (W0 := W0) (E := 49) (sz := 1) (a := ch1.s.a) (c := ch1.s.c) (m := ch1.s.ms.length) (xs := ch1.s.ms.map Msg.cell) (by repeat (first | exact Ext.here | apply Ext.there))) (by rw [hsm1]; simp) w hw) ?_
        rintro ⟨bs1, os1, hsa⟩
        refine CG.seq ?_
        refine CG.draw (.look 0 0 (.look 1 0 (.look 2 0 (.look 3 0 (.look 4 0 (.look 5 2 (.look 6 1 (.look 7 1 (.look 8 1 (.look 9 1 (.look 10 1 (.look 11 1 (.look 12 1 (.eff1 13 false (.eff1 14 false (.look 15 1 (.look 16 1 (.look 17 1 (.eff1 18 true (.done)))))))))))))))))))) [13, 14, 18] [5] ([]) ([osl 86 7 (some ⟨b, o, none⟩) x.c x.chs.length (((x.chs.set i ch1).map Chan.cells).flatten)]) mixed (by kernel_rfl) (Imp.none _) ((by repeat (first | exact Imp.refl _ | exact Imp.none _ | apply Imp.pull (by repeat (first | exact Ext.here | apply Ext.there)) | apply Imp.trans Imp.drop))) ?_
        refine DG.look rfl rfl (Yield.move rfl) rfl ?_
        refine DG.look rfl rfl (Yield.move rfl) rfl ?_
        refine DG.look rfl rfl (Yield.nilCheck rfl) rfl ?_
        refine DG.look rfl rfl (Yield.fieldAddr fa86_2 rfl) rfl ?_
        refine DG.look rfl rfl (Yield.fieldAddr fa84_0 rfl) rfl ?_
        refine DG.look rfl rfl (Yield.load (v := ch1.r.cell) ti65 rfl (((SlR.of_osl Ext.here).elem Chan.len hcs1) 6 _ rfl)) rfl ?_
        refine DG.look rfl rfl (Yield.move rfl) rfl ?_
        refine DG.look rfl rfl (Yield.nilCheck rfl) rfl ?_
        refine DG.look rfl rfl (Yield.fieldAddr fa86_1 rfl) rfl ?_
        refine DG.look rfl rfl (Yield.fieldAddr fa84_0 rfl) rfl ?_
        refine DG.look rfl rfl (Yield.load (v := ch1.s.cell) ti65 rfl (((SlR.of_osl (by repeat (first | exact Ext.here | apply Ext.there))).elem Chan.len hcs1) 5 _ rfl)) rfl ?_
        refine DG.look rfl rfl (Yield.index_slice (b := bs1) (o := os1) (m := ch1.s.ms.length) (c := ch1.s.c) Try.underlying65 ti49 (by unfold End.cell; rw [← hsa]; rfl) rfl (by omega) (by rw [hsm1]; simp)) rfl ?_
        refine DG.look rfl rfl (Yield.load (v := m0.cell) ti49 rfl (by rw [show os1 + (0 : Int).toNat * 1 = os1 + 0 from rfl]; exact SlR.cel (by rw [← hsa]; exact SlR.of_osl (E := 49) (a := ch1.s.a) (c := ch1.s.c) (m := ch1.s.ms.length) (xs := ch1.s.ms.map Msg.cell) (by repeat (first | exact Ext.here | apply Ext.there))) (by rw [hsm1]; rfl))) rfl ?_
        refine DG.eff1 ?_
        refine Chg.eff rfl rfl (Eff.lit1 Try.underlying65 ti49 rfl rfl rfl) rfl (fun _ => (by repeat (first | exact Imp.refl _ | exact Imp.none _ | apply Imp.pull (by repeat (first | exact Ext.here | apply Ext.there)) | apply Imp.trans Imp.drop))) (fun _ => Imp.refl _) (fun _ => (by repeat (first | exact Imp.refl _ | exact Imp.none _ | apply Imp.pull (by repeat (first | exact Ext.here | apply Ext.there)) | apply Imp.trans Imp.drop))) ?_
        rintro b62 -
        refine DG.eff1 ?_
        refine Chg.eff rfl rfl (Eff.append (a := ch1.r.a) (c := ch1.r.c) (m := ch1.r.ms.length) (xs := ch1.r.ms.map Msg.cell) (k := 1) (ys := [m0.cell]) rfl rfl rfl Try.underlying65 Try.underlying65 ti49 rfl (by decide) (by repeat (first | exact Foc.here | apply Foc.there)) (SlR.of_osl (a := some ⟨b62, 0, none⟩) (by repeat (first | exact Ext.here | apply Ext.there))) (by simp [one, Msg.cell]) (by omega)) rfl (fun _ => (by repeat (first | exact Imp.refl _ | exact Imp.none _ | apply Imp.pull (by repeat (first | exact Ext.here | apply Ext.there)) | apply Imp.trans Imp.drop))) (fun _ => Imp.refl _) (fun _ => (by repeat (first | exact Imp.refl _ | exact Imp.none _ | apply Imp.pull (by repeat (first | exact Ext.here | apply Ext.there)) | apply Imp.trans Imp.drop))) ?_
        rintro ⟨a63, c63⟩ -
        refine DG.look rfl rfl (Yield.nilCheck rfl) rfl ?_
        refine DG.look rfl rfl (Yield.fieldAddr fa86_2 rfl) rfl ?_
        refine DG.look rfl rfl (Yield.fieldAddr fa84_0 rfl) rfl ?_
        refine DG.eff1 ?_
        refine Chg.eff rfl rfl (Eff.storeFld (i := i) 6 (r := ch1) (r' := { ch1 with r := ⟨a63, c63, ch1.r.ms ++ [m0]⟩ }) (rs := x.chs.set i ch1) Chan.len hcs1 (by simp [Chan.cells, End.cell]) (by decide) ti65 rfl rfl (by repeat (first | exact Foc.here | apply Foc.there)) rfl (by rw [List.length_set])) rfl (fun _ => (by repeat (first | exact Imp.refl _ | exact Imp.none _ | apply Imp.pull (by repeat (first | exact Ext.here | apply Ext.there)) | apply Imp.trans Imp.drop))) (fun _ => Imp.refl _) (fun _ => (by repeat (first | exact Imp.refl _ | exact Imp.none _ | apply Imp.pull (by repeat (first | exact Ext.here | apply Ext.there)) | apply Imp.trans Imp.drop))) ?_
        rintro ⟨⟩ -
        refine DG.done ?_
        refine QG.then ?_
        refine CG.seq ?_
        have hcs3 : ((x.chs.set i ch1).set i { ch1 with r := ⟨a63, c63, ch1.r.ms ++ [m0]⟩ })[i]? = some { ch1 with r := ⟨a63, c63, ch1.r.ms ++ [m0]⟩ } := by simp [hnl]
        refine CG.region ?_
        refine OG.yield (Yield.move rfl) rfl ?_
        refine OG.yield (Yield.move rfl) rfl ?_
        refine OG.yield (Yield.nilCheck rfl) rfl ?_
        refine OG.yield (Yield.fieldAddr fa86_1 rfl) rfl ?_
        refine OG.callo call49 rfl (Imp.refl _) (all_spec W0 _ (b := b) (o := o + i * 7 + 5) (x := ch1.s) (by exact ((SlR.of_osl (by repeat (first | exact Ext.here | apply Ext.there))).elem Chan.len hcs3) 5 _ rfl) (by exact SlR.of_osl (E := 49) (by repeat (first | exact Ext.here | apply Ext.there))) (by intro m hm; rcases List.mem_append.1 (way1.mem m (.inl hm)) with hp | hp; exact pool_rd (ms := ms2) (by repeat (first | exact Ext.here | apply Ext.there)) hp; exact pool_rd (ms := x.pl) (by repeat (first | exact Ext.here | apply Ext.there)) hp) (by have := way1.sl; omega) (by intro m hm; have := way1.sm m hm; omega)) rfl ?_
        rintro y hy
        have hyl : y.ms.length = ch1.s.ms.length := by have := congrArg List.length hy; unfold End.bs at this; simpa using this
        have hy1 : 1 ≤ y.ms.length := by rw [hyl, hsm1]; simp
        have hyt : y.tail.bs = ms'.map Msg.b := by rw [End.tail_bs, hy]; unfold End.bs; rw [hsm1]; rfl
        refine OG.pure (fun w hw => osl_facts (W0 := W0) (E := 49) (sz := 1) (a := y.a) (c := y.c) (m := y.ms.length) (xs := y.ms.map Msg.cell) (by repeat (first | exact Ext.here | apply Ext.there)) w hw) ?_
        rintro ⟨-, hyc⟩
        refine OG.yield (Yield.tail (y := y) Try.underlying65 ti49 rfl (by omega) hyc) rfl ?_
        refine OG.yield (Yield.nilCheck rfl) rfl ?_
        refine OG.yield (Yield.fieldAddr fa86_1 rfl) rfl ?_
        refine OG.yield (Yield.fieldAddr fa84_0 rfl) rfl ?_
        refine OG.eff (Eff.storeFld (i := i) 5 (r := { ch1 with r := ⟨a63, c63, ch1.r.ms ++ [m0]⟩ }) (r' := { ch1 with s := y.tail, r := ⟨a63, c63, ch1.r.ms ++ [m0]⟩ }) (rs := (x.chs.set i ch1).set i { ch1 with r := ⟨a63, c63, ch1.r.ms ++ [m0]⟩ }) Chan.len hcs3 rfl (by decide) ti65 rfl rfl (by repeat (first | exact Foc.here | apply Foc.there)) rfl (by rw [List.length_set, List.length_set])) rfl ?_
        rintro ⟨⟩ -
        refine OG.nil ?_
        refine QG.then ?_
        refine CG.region ?_
        refine OG.yield (Yield.assign rfl) rfl ?_
        refine OG.nil ?_
        refine QG.block_normal ?_
        have hm64 : m0.b.length ≤ 64 := way1.sm m0 (by rw [hsm1]; simp)
        have hlen2 : y.tail.bs.length < ch.s.bs.length := by rw [hyt]; rw [hsb] at hsl; simp only [List.length_cons] at hsl; omega
        refine QG.next ⟨{ ch1 with s := y.tail, r := ⟨a63, c63, ch1.r.ms ++ [m0]⟩ }, y.ms ++ ms2⟩ ⟨⟨way1.kind, way1.from_, way1.to, way1.size, way1.depth, ?_, ?_, ?_, ?_, ?_⟩, ?_, Nat.le_of_lt hlen2⟩ ?_ ?_ ?_
        · have := congrArg List.length hyt; simp only [End.bs, List.length_map] at this; have := way1.sl; rw [hsm1] at this; simp only [List.length_cons] at this; dsimp only; omega
        · simp only [List.length_append, List.length_cons, List.length_nil]; omega
        · intro m hm
          have h1 : m.b ∈ y.tail.bs := List.mem_map_of_mem hm
          rw [hyt, List.mem_map] at h1
          obtain ⟨m2, h2, h3⟩ := h1
          rw [← h3]; exact way1.sm m2 (by rw [hsm1]; simp [h2])
        · intro m hm
          rcases List.mem_append.1 hm with hm | hm
          · exact way1.rm m hm
          · simp only [List.mem_cons, List.not_mem_nil, or_false] at hm; subst hm; exact hm64
        · intro m hm
          rcases hm with hm | hm
          · rw [List.append_assoc]; exact List.mem_append.2 (.inl (List.mem_of_mem_tail hm))
          · rw [List.append_assoc]
            rcases List.mem_append.1 hm with hm | hm
            · exact List.mem_append.2 (.inr (way1.mem m (.inr hm)))
            · simp only [List.mem_cons, List.not_mem_nil, or_false] at hm; subst hm; exact List.mem_append.2 (.inr (way1.mem m (.inl (by rw [hsm1]; simp))))
        · dsimp only; rw [hyt]; rw [← hq1]; unfold End.bs; rw [List.map_append]; rfl
        · have := congrArg List.length hyt; simp only [End.bs, List.length_map] at this; dsimp only; rw [this, hsm]; simp
        · dsimp only; rw [decide_eq_true hlen2]; exact (by repeat (first | exact Env.sub_nil _ | refine Env.sub_cons rfl ?_))
        · dsimp only
          try unfold CP
          try rw [hxa]
          rw [List.set_set, List.set_set] at *
          refine Imp.trans ?_ (Imp.cons (Imp.cons (Imp.trans (Imp.head (fun h hh => oend_tail (by omega) h hh)) (Imp.cons (Imp.cons (Imp.cons pool_join))))))
          try dsimp only
          rw [show oend ⟨a63, c63, ch1.r.ms ++ [m0]⟩ = osl 49 1 a63 c63 (ch1.r.ms.length + 1) (ch1.r.ms.map Msg.cell ++ [m0.cell]) by unfold oend; rw [List.length_append, List.map_append]; rfl]
          exact (by repeat (first | exact Imp.refl _ | exact Imp.none _ | apply Imp.pull (by repeat (first | exact Ext.here | apply Ext.there)) | apply Imp.trans Imp.drop))
      · try replace hc := of_decide_eq_false hc
        have hs0 : ch2.s.bs = [] := by unfold End.bs; rw [List.map_eq_nil_iff]; exact List.length_eq_zero_iff.1 (by omega)
        refine CG.exit ?_
        refine QG.pass_exit ?_
        refine QG.pass_exit ?_
        refine QG.block_exit ?_
        exact QG.mid ⟨ch2, ms2⟩ ⟨way, by rw [← hq, hs0]; rfl⟩ (by repeat (first | exact Env.sub_nil _ | refine Env.sub_cons rfl ?_)) (by (try unfold CP); (try rw [hxa]); exact (by repeat (first | exact Imp.refl _ | exact Imp.none _ | apply Imp.pull (by repeat (first | exact Ext.here | apply Ext.there)) | apply Imp.trans Imp.drop)))
    rintro ⟨ch2, ms2⟩ ⟨way, hq⟩
    dsimp only at way hq ⊢
    have htr : ch2.abs = ch.abs.tr := by
      unfold AC.tr
      rw [← hq]
      simp only [Chan.abs, way.kind, way.from_, way.to, way.size, way.depth]
    have hwent : ch.abs.went = decide (ch2.s.bs.length < ch.s.bs.length) := by unfold AC.went; rw [← hq]; rfl
    have hok2 : ch2.abs.OK := ⟨by simp only [Chan.abs, End.bs, List.length_map]; exact way.sl, by simp only [Chan.abs, End.bs, List.length_map]; exact way.rl, fun m hm => by simp only [Chan.abs, End.bs, List.mem_map] at hm; obtain ⟨y, hy, rfl⟩ := hm; exact way.sm y hy, fun m hm => by simp only [Chan.abs, End.bs, List.mem_map] at hm; obtain ⟨y, hy, rfl⟩ := hm; exact way.rm y hy⟩
    refine CG.imp (cp_close (ms := ms2) hch hx hok2 way.mem) ?_
    rw [htr, ← hst, ← hwent]
    generalize ch.abs.went = wb at hwi ⊢
    refine CG.seq ?_
    refine CG.region ?_
    refine OG.yield (Yield.move rfl) rfl ?_
    refine OG.nil ?_
    refine QG.then ?_
    refine CG.cond rfl (fun hc => ?_) (fun hc => ?_)
    · try replace hc := of_decide_eq_true hc
      refine CG.region ?_
      refine OG.yield (Yield.move rfl) rfl ?_
      refine OG.yield (Yield.move rfl) rfl ?_
      refine OG.effd (Eff.lit1 Try.underlying29 ti3 rfl rfl rfl) rfl ?_
      rintro b79 -
      refine OG.effd (Eff.append (k := 1) (ys := [.int .i64 i]) rfl rfl rfl Try.underlying29 Try.underlying29 ti3 rfl (by decide) (by repeat (first | exact Foc.here | apply Foc.there)) (SlR.of_osl (a := some ⟨b79, 0, none⟩) (by repeat (first | exact Ext.here | apply Ext.there))) (by simp [one]) (by omega)) rfl ?_
      rintro ⟨a80, c80⟩ -
      refine OG.yield (Yield.assign rfl) rfl ?_
      refine OG.nil ?_
      refine QG.scope_normal ?_
      refine QG.block_normal ?_
      refine QG.then ?_
      refine CG.region ?_
      refine OG.yield (Yield.add rfl rfl (w64 (by omega) (by omega))) rfl ?_
      refine OG.yield (Yield.move rfl) rfl ?_
      refine OG.nil ?_
      refine QG.next (i + 1, a80, c80) (show i + 1 ≤ acs.length by omega) (show acs.length - (i + 1) < acs.length - i by omega) ?_ ?_
      · dsimp only; rw [hwi, if_pos hc, List.length_append]; exact (by repeat (first | exact Env.sub_nil _ | refine Env.sub_cons rfl ?_))
      · dsimp only; rw [hwi, if_pos hc, show oins a80 c80 (wentI acs i ++ [(i : Int)]) = osl 3 1 a80 c80 ((wentI acs i).length + 1) (oint (wentI acs i) ++ [.int .i64 i]) by unfold oins oint; rw [List.length_append, List.map_append]; rfl]; exact (by repeat (first | exact Imp.refl _ | exact Imp.none _ | apply Imp.pull (by repeat (first | exact Ext.here | apply Ext.there)) | apply Imp.trans Imp.drop))
    · try replace hc := of_decide_eq_false hc
      refine CG.skip ?_
      refine QG.scope_normal ?_
      refine QG.block_normal ?_
      refine QG.then ?_
      refine CG.region ?_
      refine OG.yield (Yield.add rfl rfl (w64 (by omega) (by omega))) rfl ?_
      refine OG.yield (Yield.move rfl) rfl ?_
      refine OG.nil ?_
      refine QG.next (i + 1, a3, c3) (show i + 1 ≤ acs.length by omega) (show acs.length - (i + 1) < acs.length - i by omega) ?_ ?_
      · dsimp only; rw [hwi, if_neg (by rw [hc]; decide)]; exact (by repeat (first | exact Env.sub_nil _ | refine Env.sub_cons rfl ?_))
      · dsimp only; rw [hwi, if_neg (by rw [hc]; decide)]; exact (by repeat (first | exact Imp.refl _ | exact Imp.none _ | apply Imp.pull (by repeat (first | exact Ext.here | apply Ext.there)) | apply Imp.trans Imp.drop))
  · try replace hc := of_decide_eq_false hc
    refine CG.exit ?_
    refine QG.pass_exit ?_
    refine QG.pass_exit ?_
    refine QG.block_exit ?_
    refine QG.then ?_
    refine CG.seq ?_
    refine CG.region ?_
    refine OG.yield (Yield.move rfl) rfl ?_
    refine OG.yield (Yield.assign rfl) rfl ?_
    refine OG.nil ?_
    refine QG.then ?_
    refine CG.ret ?_
    have : i = acs.length := by omega
    subst this
    rw [List.take_length, List.drop_length, List.append_nil]
    exact QG.ret1 rfl rfl (a3, c3) trivial rfl (by repeat (first | exact Imp.refl _ | exact Imp.none _ | apply Imp.pull (by repeat (first | exact Ext.here | apply Ext.there)) | apply Imp.trans Imp.drop))
end
end Go.Proofs.Ytjigjbcdopmeeaa.Po
