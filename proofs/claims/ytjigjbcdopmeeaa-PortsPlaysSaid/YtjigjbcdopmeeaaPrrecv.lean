/- The document's ports: Receive, Held. -/
import Derived.Test.YtjigjbcdopmeeaaPrsend
namespace Go.Proofs.Ytjigjbcdopmeeaa.Po
open Go Go.Sl Go.RowKit Go.Proofs Go.Proofs.Ytjigjbcdopmeeaa.T
set_option linter.unusedVariables false
set_option linter.unusedSimpArgs false
set_option maxRecDepth 100000
section
variable (W0 : World) (Fr : List HProp)
theorem rrecv_out {r : Nat} {acs : List AC} (part n : Int) (hn : n < 0 ∨ (acs.length : Int) ≤ n) : Ctr Try.prog W0 37 [.pointer (some ⟨r, 0, none⟩), .int .i64 part, .int .i64 n] (Rp r acs :: Fr) (fun _ : Unit => True) (fun _ => .tuple #[.slice none 0 0, .int .i64 210]) (fun _ => Rp r acs :: Fr) := by
  refine Ctr.ex Ext.here rp_open0 ?_
  intro x hx
  refine Ctr.imp star_open ?_
  have hlen : (acs.map AC.cf).length = acs.length := List.length_map _
  have hback := rp_close0 (r := r) (G := Fr) x hx
  generalize acs.map AC.cf = l at hlen hback ⊢
  dsimp only [RO, List.cons_append, List.nil_append] at hback ⊢
  refine Ctr.of_body Try.func37 rfl Try.ntmps37 rfl ?_
  refine CG.seq ?_
  refine CG.region ?_
  refine OG.yield (Yield.assign rfl) rfl ?_
  refine OG.yield (Yield.assign rfl) rfl ?_
  refine OG.nil ?_
  refine QG.then ?_
  refine CG.seq ?_
  refine CG.seq ?_
  refine CG.region ?_
  refine OG.yield (Yield.move rfl) rfl ?_
  refine OG.yield (Yield.move rfl) rfl ?_
  refine OG.callo call55 rfl (Imp.refl _) (has_spec W0 _ (r := r) (m := l.length) (cc := x.cc) (ca := x.ca) n (Cel.of_blk (b := r) (by repeat (first | exact Ext.here | apply Ext.there)) rfl)) rfl ?_
  rintro ⟨⟩ -
  rw [show decide (0 ≤ n ∧ n < (l.length : Int)) = false from decide_eq_false (by omega)]
  refine OG.yield (Yield.not rfl) rfl ?_
  refine OG.yield (Yield.move rfl) rfl ?_
  refine OG.guard_no rfl rfl rfl rfl rfl (by decide) (by decide) ?_
  refine OG.guard_no rfl rfl rfl rfl rfl (by decide) (by decide) ?_
  refine OG.guard_no rfl rfl rfl rfl rfl (by decide) (by decide) ?_
  refine OG.guard_no rfl rfl rfl rfl rfl (by decide) (by decide) ?_
  refine OG.guard_no rfl rfl rfl rfl rfl (by decide) (by decide) ?_
  refine OG.guard_no rfl rfl rfl rfl rfl (by decide) (by decide) ?_
  refine OG.guard_no rfl rfl rfl rfl rfl (by decide) (by decide) ?_
  refine OG.guard_no rfl rfl rfl rfl rfl (by decide) (by decide) ?_
  refine OG.guard_no rfl rfl rfl rfl rfl (by decide) (by decide) ?_
  refine OG.guard_no rfl rfl rfl rfl rfl (by decide) (by decide) ?_
  refine OG.yield (by first | exact Yield.pick_t rfl rfl | exact Yield.pick_f rfl rfl | exact Yield.pick rfl (fun _ => rfl) (fun _ => rfl)) rfl ?_
  refine OG.nil ?_
  refine QG.then ?_
  refine CG.cond_t rfl ?_
  refine CG.seq ?_
  refine CG.region ?_
  refine OG.yield (Yield.assign rfl) rfl ?_
  refine OG.yield (Yield.assign rfl) rfl ?_
  refine OG.nil ?_
  refine QG.then ?_
  refine CG.ret ?_
  refine QG.pass_ret ?_
  exact QG.ret2 rfl rfl rfl () trivial rfl (Imp.trans (by repeat (first | exact Imp.refl _ | exact Imp.none _ | apply Imp.pull (by repeat (first | exact Ext.here | apply Ext.there)) | apply Imp.trans Imp.drop)) hback)
theorem rrecv_bad {r n : Nat} {acs : List AC} (part : Int) {ac : AC} (hac : acs[n]? = some ac) (he : recvE ac part ≠ 0) :
    Ctr Try.prog W0 37 [.pointer (some ⟨r, 0, none⟩), .int .i64 part, .int .i64 n] (Rp r acs :: Fr) (fun _ : Unit => True) (fun _ => .tuple #[.slice none 0 0, .int .i64 (recvE ac part)]) (fun _ => Rp r acs :: Fr) := by
  refine Ctr.ex Ext.here rp_open0 ?_
  intro x hx
  refine Ctr.imp star_open ?_
  obtain ⟨y, z, hy, hz, hyb, hzb⟩ := hx.gx hac
  have hnl : n < acs.length := (List.getElem?_eq_some_iff.1 hac).1
  have hly := hx.ly
  have hget : (acs.map AC.cf)[n]? = some ac.cf := by rw [List.getElem?_map, hac]; rfl
  have hzs : (x.ys.set n z)[n]? = some z := by rw [set_self hz]; exact hz
  have hlen : (acs.map AC.cf).length = acs.length := List.length_map _
  refine Ctr.imp (rp_open hy hz) ?_
  have hback := rp_back (r := r) (G := Fr) hy hz hx hac
  generalize acs.map AC.cf = l at hget hlen hback ⊢
  refine Ctr.pure (fun w hw => shape_rl (n := n) (x := x) (l := l) (by omega) (Ext.there Ext.here) w hw) ?_
  rintro ⟨b0, o0, hca⟩
  refine Ctr.pure (fun w hw => shape_os (xs := x.ys.set n z) (by rw [List.length_set]; omega) (Ext.there (Ext.there (Ext.there Ext.here))) w hw) ?_
  rintro ⟨b1, o1, hra⟩
  dsimp only [RP, RH, RL, List.cons_append, List.nil_append] at hback ⊢
  rw [hca, hra] at hback ⊢
  have hrl : ac.r.length = z.ms.length := by rw [← hzb]; simp [End.bs]
  refine Ctr.of_body Try.func37 rfl Try.ntmps37 rfl ?_
  refine CG.seq ?_
  refine CG.region ?_
  refine OG.yield (Yield.assign rfl) rfl ?_
  refine OG.yield (Yield.assign rfl) rfl ?_
  refine OG.nil ?_
  refine QG.then ?_
  refine CG.seq ?_
  refine CG.seq ?_
  rcases (show ac.to ≠ part ∨ ac.to = part by omega) with hh | hh
  · skip
    refine CG.region ?_
    refine OG.yield (Yield.move rfl) rfl ?_
    refine OG.yield (Yield.move rfl) rfl ?_
    refine OG.callo call55 rfl (Imp.refl _) (has_spec W0 _ (r := r) (m := l.length) (cc := x.cc) (ca := some ⟨b0, o0, none⟩) n (Cel.of_blk (b := r) (by repeat (first | exact Ext.here | apply Ext.there)) rfl)) rfl ?_
    rintro ⟨⟩ -
    rw [show decide (0 ≤ (n : Int) ∧ (n : Int) < (l.length : Int)) = true from decide_eq_true (by omega)]
    refine OG.yield (Yield.not rfl) rfl ?_
    refine OG.yield (Yield.move rfl) rfl ?_
    refine OG.guard_yes rfl rfl rfl (by decide) ?_
    refine OG.yield (Yield.move rfl) rfl ?_
    refine OG.guard_yes rfl rfl rfl (by decide) ?_
    refine OG.yield (Yield.nilCheck rfl) rfl ?_
    refine OG.guard_yes rfl rfl rfl (by decide) ?_
    refine OG.yield (Yield.fieldAddr fa94_0 rfl) rfl ?_
    refine OG.guard_yes rfl rfl rfl (by decide) ?_
    refine OG.yield (Yield.load ti48 rfl (by first | exact Cel.of_blk (by repeat (first | exact Ext.here | apply Ext.there)) rfl | exact (hrow (by repeat (first | exact Ext.here | apply Ext.there))) _ _ rfl)) rfl ?_
    refine OG.guard_yes rfl rfl rfl (by decide) ?_
    refine OG.yield (Yield.move rfl) rfl ?_
    refine OG.guard_yes rfl rfl rfl (by decide) ?_
    refine OG.yield (Yield.index_slice Try.underlying48 ti47 rfl rfl (by omega) (by omega)) rfl ?_
    refine OG.guard_yes rfl rfl rfl (by decide) ?_
    refine OG.yield (Yield.fieldAddr fa47_2 rfl) rfl ?_
    refine OG.guard_yes rfl rfl rfl (by decide) ?_
    refine OG.yield (Yield.load (v := .int .i64 ac.to) ti3 rfl (((SlR.of_osl (E := 47) (a := some ⟨b0, o0, none⟩) (by repeat (first | exact Ext.here | apply Ext.there))).elem Cf.len hget) 2 _ rfl)) rfl ?_
    refine OG.guard_yes rfl rfl rfl (by decide) ?_
    refine OG.yield (Yield.move rfl) rfl ?_
    refine OG.guard_yes rfl rfl rfl (by decide) ?_
    refine OG.yield (by first | exact Yield.as (Yield.neq rfl rfl) (bT (by omega)) | exact Yield.as (Yield.neq rfl rfl) (bF (by omega)) | exact Yield.neq rfl rfl) rfl ?_
    refine OG.yield (by first | exact Yield.pick_t rfl rfl | exact Yield.pick_f rfl rfl | exact Yield.pick rfl (fun _ => rfl) (fun _ => rfl)) rfl ?_
    refine OG.nil ?_
    refine QG.then ?_
    refine CG.cond_t rfl ?_
    refine CG.seq ?_
    refine CG.region ?_
    refine OG.yield (Yield.assign rfl) rfl ?_
    refine OG.yield (Yield.assign rfl) rfl ?_
    refine OG.nil ?_
    refine QG.then ?_
    refine CG.ret ?_
    refine QG.pass_ret ?_
    exact QG.ret2 rfl rfl rfl () trivial (by rw [show recvE ac part = 210 by unfold recvE; rw [if_pos hh]]) (Imp.trans (by repeat (first | exact Imp.refl _ | exact Imp.none _ | apply Imp.pull (by repeat (first | exact Ext.here | apply Ext.there)) | apply Imp.trans Imp.drop)) hback)
  · skip
    refine CG.region ?_
    refine OG.yield (Yield.move rfl) rfl ?_
    refine OG.yield (Yield.move rfl) rfl ?_
    refine OG.callo call55 rfl (Imp.refl _) (has_spec W0 _ (r := r) (m := l.length) (cc := x.cc) (ca := some ⟨b0, o0, none⟩) n (Cel.of_blk (b := r) (by repeat (first | exact Ext.here | apply Ext.there)) rfl)) rfl ?_
    rintro ⟨⟩ -
    rw [show decide (0 ≤ (n : Int) ∧ (n : Int) < (l.length : Int)) = true from decide_eq_true (by omega)]
    refine OG.yield (Yield.not rfl) rfl ?_
    refine OG.yield (Yield.move rfl) rfl ?_
    refine OG.guard_yes rfl rfl rfl (by decide) ?_
    refine OG.yield (Yield.move rfl) rfl ?_
    refine OG.guard_yes rfl rfl rfl (by decide) ?_
    refine OG.yield (Yield.nilCheck rfl) rfl ?_
    refine OG.guard_yes rfl rfl rfl (by decide) ?_
    refine OG.yield (Yield.fieldAddr fa94_0 rfl) rfl ?_
    refine OG.guard_yes rfl rfl rfl (by decide) ?_
    refine OG.yield (Yield.load ti48 rfl (by first | exact Cel.of_blk (by repeat (first | exact Ext.here | apply Ext.there)) rfl | exact (hrow (by repeat (first | exact Ext.here | apply Ext.there))) _ _ rfl)) rfl ?_
    refine OG.guard_yes rfl rfl rfl (by decide) ?_
    refine OG.yield (Yield.move rfl) rfl ?_
    refine OG.guard_yes rfl rfl rfl (by decide) ?_
    refine OG.yield (Yield.index_slice Try.underlying48 ti47 rfl rfl (by omega) (by omega)) rfl ?_
    refine OG.guard_yes rfl rfl rfl (by decide) ?_
    refine OG.yield (Yield.fieldAddr fa47_2 rfl) rfl ?_
    refine OG.guard_yes rfl rfl rfl (by decide) ?_
    refine OG.yield (Yield.load (v := .int .i64 ac.to) ti3 rfl (((SlR.of_osl (E := 47) (a := some ⟨b0, o0, none⟩) (by repeat (first | exact Ext.here | apply Ext.there))).elem Cf.len hget) 2 _ rfl)) rfl ?_
    refine OG.guard_yes rfl rfl rfl (by decide) ?_
    refine OG.yield (Yield.move rfl) rfl ?_
    refine OG.guard_yes rfl rfl rfl (by decide) ?_
    refine OG.yield (by first | exact Yield.as (Yield.neq rfl rfl) (bT (by omega)) | exact Yield.as (Yield.neq rfl rfl) (bF (by omega)) | exact Yield.neq rfl rfl) rfl ?_
    refine OG.yield (by first | exact Yield.pick_t rfl rfl | exact Yield.pick_f rfl rfl | exact Yield.pick rfl (fun _ => rfl) (fun _ => rfl)) rfl ?_
    refine OG.nil ?_
    refine QG.then ?_
    refine CG.cond_f rfl ?_
    refine CG.skip ?_
    refine QG.then ?_
    refine CG.seq ?_
    refine CG.seq ?_
    have hr0 : ac.r = [] := by
      by_cases h : ac.r = []
      · exact h
      · exact absurd (by unfold recvE; rw [if_neg (not_not_intro hh), if_neg h]) he
    have hz0 : z.ms.length = 0 := by rw [← hrl, hr0]; rfl
    refine CG.region ?_
    refine OG.yield (Yield.move rfl) rfl ?_
    refine OG.yield (Yield.nilCheck rfl) rfl ?_
    refine OG.yield (Yield.fieldAddr fa94_2 rfl) rfl ?_
    refine OG.yield (Yield.load (v := .slice (some ⟨b1, o1, none⟩) x.ys.length x.rc) ti69 rfl (Cel.of_blk (b := r) (by repeat (first | exact Ext.here | apply Ext.there)) rfl)) rfl ?_
    refine OG.yield (Yield.move rfl) rfl ?_
    refine OG.yield (Yield.index_slice (b := b1) (o := o1) (m := x.ys.length) (c := x.rc) Try.underlying69 ti65 rfl rfl (by omega) (by omega)) rfl ?_
    refine OG.yield (Yield.load (v := z.cell) ti65 rfl (by rw [show o1 + (n : Int).toNat * 1 = o1 + n by omega]; exact SlR.cel (SlR.of_osl (E := 65) (a := some ⟨b1, o1, none⟩) (by repeat (first | exact Ext.here | apply Ext.there))) (by rw [List.getElem?_map, hzs]; rfl))) rfl ?_
    refine OG.yield (Yield.len_slice (a := z.a) (m := z.ms.length) (c := z.c) Try.underlying65 rfl rfl) rfl ?_
    refine OG.yield (by first | exact Yield.as (Yield.eql rfl rfl) (bT (by omega)) | exact Yield.as (Yield.eql rfl rfl) (bF (by omega)) | exact Yield.eql rfl rfl) rfl ?_
    refine OG.nil ?_
    refine QG.then ?_
    refine CG.cond_t rfl ?_
    refine CG.seq ?_
    refine CG.region ?_
    refine OG.yield (Yield.assign rfl) rfl ?_
    refine OG.yield (Yield.assign rfl) rfl ?_
    refine OG.nil ?_
    refine QG.then ?_
    refine CG.ret ?_
    refine QG.pass_ret ?_
    exact QG.ret2 rfl rfl rfl () trivial (by rw [show recvE ac part = 110 by unfold recvE; rw [if_neg (not_not_intro hh), if_pos hr0]]) (Imp.trans (by repeat (first | exact Imp.refl _ | exact Imp.none _ | apply Imp.pull (by repeat (first | exact Ext.here | apply Ext.there)) | apply Imp.trans Imp.drop)) hback)
theorem SlR.tail {y : End} (h : 1 ≤ y.ms.length) {G R : List HProp} (x : Ext G (oend y) R) : SlR W0 G 1 y.tail.a y.tail.ms.length (y.tail.ms.map Msg.cell) :=
  SlR.imp (SlR.of_osl (G := oend y.tail :: R) Ext.here) (Imp.trans x.1 (Imp.head fun k hk => oend_tail h k hk))
set_option maxHeartbeats 1000000 in
theorem rrecv_ok {r n : Nat} {acs : List AC} (part : Int) {ac : AC} {m : B} {rest : List B} (hac : acs[n]? = some ac) (hto : ac.to = part) (hr : ac.r = m :: rest) :
    Ctr Try.prog W0 37 [.pointer (some ⟨r, 0, none⟩), .int .i64 part, .int .i64 n] (Rp r acs :: Fr) (fun _ : Option Addr × Nat => True) (fun q => .tuple #[.slice q.1 m.length q.2, .int .i64 0]) (fun q => oby 5 q.1 q.2 m :: Rp r (acs.set n (if ac.kind = 2 then { ac with r := rest } else ac)) :: Fr) := by
  refine Ctr.ex Ext.here rp_open0 ?_
  intro x hx
  refine Ctr.imp star_open ?_
  obtain ⟨y, z, hy, hz, hyb, hzb⟩ := hx.gx hac
  have hnl : n < acs.length := (List.getElem?_eq_some_iff.1 hac).1
  have hly := hx.ly
  have hok := hx.ok _ (List.mem_of_getElem? hac)
  have hmy := hx.mem y (.inl (List.mem_of_getElem? hy))
  have hmz := hx.mem z (.inr (List.mem_of_getElem? hz))
  have hget : (acs.map AC.cf)[n]? = some ac.cf := by rw [List.getElem?_map, hac]; rfl
  have hzs : (x.ys.set n z)[n]? = some z := by rw [set_self hz]; exact hz
  have hlen : (acs.map AC.cf).length = acs.length := List.length_map _
  have hrl : ac.r.length = z.ms.length := by rw [← hzb]; simp [End.bs]
  have hrl8 := hok.r
  have hml : m.length ≤ 64 := hok.rl m (by rw [hr]; simp)
  obtain ⟨m0, ms', hrm, hm0, hms⟩ : ∃ m0 ms', z.ms = m0 :: ms' ∧ m0.b = m ∧ ms'.map Msg.b = rest := by
    have hr2 : z.ms.map Msg.b = m :: rest := hzb.trans hr
    cases hq : z.ms with
    | nil => rw [hq] at hr2; cases hr2
    | cons m0 ms' => rw [hq] at hr2; simp only [List.map_cons, List.cons.injEq] at hr2; exact ⟨m0, ms', rfl, hr2.1, hr2.2⟩
  have hr1 : 1 ≤ z.ms.length := by rw [hrm]; simp
  have hmsl : ms'.length = z.ms.length - 1 := by rw [hrm]; simp
  refine Ctr.imp (rp_open hy hz) ?_
  have hcl := @rp_close r n acs x y z
  have hback := rp_back (r := r) (G := Fr) hy hz hx hac
  generalize acs.map AC.cf = l at hget hlen hback hcl ⊢
  refine Ctr.pure (fun w hw => shape_rl (n := n) (x := x) (l := l) (by omega) (Ext.there Ext.here) w hw) ?_
  rintro ⟨b0, o0, hca⟩
  refine Ctr.pure (fun w hw => shape_os (xs := x.ys.set n z) (by rw [List.length_set]; omega) (Ext.there (Ext.there (Ext.there Ext.here))) w hw) ?_
  rintro ⟨b1, o1, hra⟩
  dsimp only [RP, RH, RL, List.cons_append, List.nil_append] at hcl hback ⊢
  rw [hca, hra] at hcl hback ⊢
  refine Ctr.pure (fun w hw => SlR.shape (SlR.of_osl (W0 := W0) (E := 49) (sz := 1) (a := z.a) (c := z.c) (m := z.ms.length) (xs := z.ms.map Msg.cell) (by repeat (first | exact Ext.here | apply Ext.there))) (by rw [hrm]; simp) w hw) ?_
  rintro ⟨bz, oz, hza⟩
  refine Ctr.pure (fun w hw => osl_facts (W0 := W0) (E := 49) (sz := 1) (a := z.a) (c := z.c) (m := z.ms.length) (xs := z.ms.map Msg.cell) (by repeat (first | exact Ext.here | apply Ext.there)) w hw) ?_
  rintro ⟨-, hzc⟩
  subst hm0
  refine Ctr.of_body Try.func37 rfl Try.ntmps37 rfl ?_
  refine CG.seq ?_
  refine CG.region ?_
  refine OG.yield (Yield.assign rfl) rfl ?_
  refine OG.yield (Yield.assign rfl) rfl ?_
  refine OG.nil ?_
  refine QG.then ?_
  refine CG.seq ?_
  refine CG.seq ?_
  refine CG.region ?_
  refine OG.yield (Yield.move rfl) rfl ?_
  refine OG.yield (Yield.move rfl) rfl ?_
  refine OG.callo call55 rfl (Imp.refl _) (has_spec W0 _ (r := r) (m := l.length) (cc := x.cc) (ca := some ⟨b0, o0, none⟩) n (Cel.of_blk (b := r) (by repeat (first | exact Ext.here | apply Ext.there)) rfl)) rfl ?_
  rintro ⟨⟩ -
  rw [show decide (0 ≤ (n : Int) ∧ (n : Int) < (l.length : Int)) = true from decide_eq_true (by omega)]
  refine OG.yield (Yield.not rfl) rfl ?_
  refine OG.yield (Yield.move rfl) rfl ?_
  refine OG.guard_yes rfl rfl rfl (by decide) ?_
  refine OG.yield (Yield.move rfl) rfl ?_
  refine OG.guard_yes rfl rfl rfl (by decide) ?_
  refine OG.yield (Yield.nilCheck rfl) rfl ?_
  refine OG.guard_yes rfl rfl rfl (by decide) ?_
  refine OG.yield (Yield.fieldAddr fa94_0 rfl) rfl ?_
  refine OG.guard_yes rfl rfl rfl (by decide) ?_
  refine OG.yield (Yield.load ti48 rfl (by first | exact Cel.of_blk (by repeat (first | exact Ext.here | apply Ext.there)) rfl | exact (hrow (by repeat (first | exact Ext.here | apply Ext.there))) _ _ rfl)) rfl ?_
  refine OG.guard_yes rfl rfl rfl (by decide) ?_
  refine OG.yield (Yield.move rfl) rfl ?_
  refine OG.guard_yes rfl rfl rfl (by decide) ?_
  refine OG.yield (Yield.index_slice Try.underlying48 ti47 rfl rfl (by omega) (by omega)) rfl ?_
  refine OG.guard_yes rfl rfl rfl (by decide) ?_
  refine OG.yield (Yield.fieldAddr fa47_2 rfl) rfl ?_
  refine OG.guard_yes rfl rfl rfl (by decide) ?_
  refine OG.yield (Yield.load (v := .int .i64 ac.to) ti3 rfl (((SlR.of_osl (E := 47) (a := some ⟨b0, o0, none⟩) (by repeat (first | exact Ext.here | apply Ext.there))).elem Cf.len hget) 2 _ rfl)) rfl ?_
  refine OG.guard_yes rfl rfl rfl (by decide) ?_
  refine OG.yield (Yield.move rfl) rfl ?_
  refine OG.guard_yes rfl rfl rfl (by decide) ?_
  refine OG.yield (by first | exact Yield.as (Yield.neq rfl rfl) (bT (by omega)) | exact Yield.as (Yield.neq rfl rfl) (bF (by omega)) | exact Yield.neq rfl rfl) rfl ?_
  refine OG.yield (by first | exact Yield.pick_t rfl rfl | exact Yield.pick_f rfl rfl | exact Yield.pick rfl (fun _ => rfl) (fun _ => rfl)) rfl ?_
  refine OG.nil ?_
  refine QG.then ?_
  refine CG.cond_f rfl ?_
  refine CG.skip ?_
  refine QG.then ?_
  refine CG.seq ?_
  refine CG.seq ?_
  refine CG.region ?_
  refine OG.yield (Yield.move rfl) rfl ?_
  refine OG.yield (Yield.nilCheck rfl) rfl ?_
  refine OG.yield (Yield.fieldAddr fa94_2 rfl) rfl ?_
  refine OG.yield (Yield.load (v := .slice (some ⟨b1, o1, none⟩) x.ys.length x.rc) ti69 rfl (Cel.of_blk (b := r) (by repeat (first | exact Ext.here | apply Ext.there)) rfl)) rfl ?_
  refine OG.yield (Yield.move rfl) rfl ?_
  refine OG.yield (Yield.index_slice (b := b1) (o := o1) (m := x.ys.length) (c := x.rc) Try.underlying69 ti65 rfl rfl (by omega) (by omega)) rfl ?_
  refine OG.yield (Yield.load (v := z.cell) ti65 rfl (by rw [show o1 + (n : Int).toNat * 1 = o1 + n by omega]; exact SlR.cel (SlR.of_osl (E := 65) (a := some ⟨b1, o1, none⟩) (by repeat (first | exact Ext.here | apply Ext.there))) (by rw [List.getElem?_map, hzs]; rfl))) rfl ?_
  refine OG.yield (Yield.len_slice (a := z.a) (m := z.ms.length) (c := z.c) Try.underlying65 rfl rfl) rfl ?_
  refine OG.yield (by first | exact Yield.as (Yield.eql rfl rfl) (bT (by omega)) | exact Yield.as (Yield.eql rfl rfl) (bF (by omega)) | exact Yield.eql rfl rfl) rfl ?_
  refine OG.nil ?_
  refine QG.then ?_
  refine CG.cond_f rfl ?_
  refine CG.skip ?_
  refine QG.then ?_
  refine CG.seq ?_
  refine CG.region ?_
  refine OG.effd (Eff.lit0 Try.underlying49 ti5 rfl) rfl ?_
  rintro b34 -
  refine OG.yield (Yield.move rfl) rfl ?_
  refine OG.yield (Yield.nilCheck rfl) rfl ?_
  refine OG.yield (Yield.fieldAddr fa94_2 rfl) rfl ?_
  refine OG.yield (Yield.load (v := .slice (some ⟨b1, o1, none⟩) x.ys.length x.rc) ti69 rfl (Cel.of_blk (b := r) (by repeat (first | exact Ext.here | apply Ext.there)) rfl)) rfl ?_
  refine OG.yield (Yield.move rfl) rfl ?_
  refine OG.yield (Yield.index_slice (b := b1) (o := o1) (m := x.ys.length) (c := x.rc) Try.underlying69 ti65 rfl rfl (by omega) (by omega)) rfl ?_
  refine OG.yield (Yield.load (v := z.cell) ti65 rfl (by rw [show o1 + (n : Int).toNat * 1 = o1 + n by omega]; exact SlR.cel (SlR.of_osl (E := 65) (a := some ⟨b1, o1, none⟩) (by repeat (first | exact Ext.here | apply Ext.there))) (by rw [List.getElem?_map, hzs]; rfl))) rfl ?_
  refine OG.yield (Yield.index_slice (b := bz) (o := oz) (m := z.ms.length) (c := z.c) Try.underlying65 ti49 (by unfold End.cell; rw [← hza]; rfl) rfl (by omega) (by omega)) rfl ?_
  refine OG.yield (Yield.load (v := m0.cell) ti49 rfl (by rw [show oz + (0 : Int).toNat * 1 = oz + 0 from rfl]; exact SlR.cel (by rw [← hza]; exact SlR.of_osl (E := 49) (a := z.a) (c := z.c) (m := z.ms.length) (xs := z.ms.map Msg.cell) (by repeat (first | exact Ext.here | apply Ext.there))) (by rw [hrm]; rfl))) rfl ?_
  refine OG.effd (Eff.appendB (bs := []) (ys := m0.b) rfl rfl rfl Try.underlying49 Try.underlying49 ti5 (by decide) (by repeat (first | exact Foc.here | apply Foc.there)) (by exact (pool_rd (ms := x.pl) (by repeat (first | exact Ext.here | apply Ext.there)) (hmz m0 (by rw [hrm]; simp))).slR) (by simp only [List.length_nil]; omega)) rfl ?_
  rintro ⟨am, cm⟩ -
  rw [List.nil_append]
  refine OG.yield (Yield.assign rfl) rfl ?_
  refine OG.nil ?_
  refine QG.then ?_
  refine CG.seq ?_
  refine CG.seq ?_
  refine CG.region ?_
  refine OG.yield (Yield.move rfl) rfl ?_
  refine OG.yield (Yield.nilCheck rfl) rfl ?_
  refine OG.yield (Yield.fieldAddr fa94_0 rfl) rfl ?_
  refine OG.yield (Yield.load ti48 rfl (by first | exact Cel.of_blk (by repeat (first | exact Ext.here | apply Ext.there)) rfl | exact (hrow (by repeat (first | exact Ext.here | apply Ext.there))) _ _ rfl)) rfl ?_
  refine OG.yield (Yield.move rfl) rfl ?_
  refine OG.yield (Yield.index_slice Try.underlying48 ti47 rfl rfl (by omega) (by omega)) rfl ?_
  refine OG.yield (Yield.fieldAddr fa47_0 rfl) rfl ?_
  refine OG.yield (Yield.load (v := .int .i64 ac.kind) ti3 rfl (((SlR.of_osl (E := 47) (a := some ⟨b0, o0, none⟩) (by repeat (first | exact Ext.here | apply Ext.there))).elem Cf.len hget) 0 _ rfl)) rfl ?_
  refine OG.yield (Yield.eql rfl rfl) rfl ?_
  refine OG.nil ?_
  refine QG.then ?_
  refine CG.cond rfl (fun hc => ?_) (fun hc => ?_)
  · try replace hc := of_decide_eq_true hc
    refine CG.draw (.look 0 0 (.look 1 0 (.look 2 0 (.look 3 0 (.look 4 0 (.look 6 0 (.look 7 0 (.look 8 0 (.look 9 0 (.look 10 0 (.look 11 0 (.look 12 2 (.look 13 0 (.eff1 5 false (.eff1 14 false (.look 15 1 (.eff1 16 true (.done)))))))))))))))))) [5, 14, 16] [12] ([blk r [.slice (some ⟨b0, o0, none⟩) l.length x.cc, .slice x.sa x.xs.length x.sc, .slice (some ⟨b1, o1, none⟩) x.ys.length x.rc] 94, oend z]) ([osl 65 1 (some ⟨b1, o1, none⟩) x.rc x.ys.length ((x.ys.set n z).map End.cell)]) mixed (by kernel_rfl) ((by repeat (first | exact Imp.refl _ | exact Imp.none _ | apply Imp.pull (by repeat (first | exact Ext.here | apply Ext.there)) | apply Imp.trans Imp.drop))) ((by repeat (first | exact Imp.refl _ | exact Imp.none _ | apply Imp.pull (by repeat (first | exact Ext.here | apply Ext.there)) | apply Imp.trans Imp.drop))) ?_
    refine DG.look rfl rfl (Yield.move rfl) rfl ?_
    refine DG.look rfl rfl (Yield.nilCheck rfl) rfl ?_
    refine DG.look rfl rfl (Yield.fieldAddr fa94_2 rfl) rfl ?_
    refine DG.look rfl rfl (Yield.load (v := .slice (some ⟨b1, o1, none⟩) x.ys.length x.rc) ti69 rfl (Cel.of_blk (b := r) (by repeat (first | exact Ext.here | apply Ext.there)) rfl)) rfl ?_
    refine DG.look rfl rfl (Yield.move rfl) rfl ?_
    refine DG.look rfl rfl (Yield.move rfl) rfl ?_
    refine DG.look rfl rfl (Yield.nilCheck rfl) rfl ?_
    refine DG.look rfl rfl (Yield.fieldAddr fa94_2 rfl) rfl ?_
    refine DG.look rfl rfl (Yield.load (v := .slice (some ⟨b1, o1, none⟩) x.ys.length x.rc) ti69 rfl (Cel.of_blk (b := r) (by repeat (first | exact Ext.here | apply Ext.there)) rfl)) rfl ?_
    refine DG.look rfl rfl (Yield.move rfl) rfl ?_
    refine DG.look rfl rfl (Yield.index_slice (b := b1) (o := o1) (m := x.ys.length) (c := x.rc) Try.underlying69 ti65 rfl rfl (by omega) (by omega)) rfl ?_
    refine DG.look rfl rfl (Yield.load (v := z.cell) ti65 rfl (by rw [show o1 + (n : Int).toNat * 1 = o1 + n by omega]; exact SlR.cel (SlR.of_osl (E := 65) (a := some ⟨b1, o1, none⟩) (by repeat (first | exact Ext.here | apply Ext.there))) (by rw [List.getElem?_map, hzs]; rfl))) rfl ?_
    refine DG.look rfl rfl (Yield.tail (y := z) Try.underlying65 ti49 rfl (by omega) hzc) rfl ?_
    refine DG.eff1 ?_
    refine Chg.eff rfl rfl (Eff.lit0 Try.underlying65 ti49 rfl) rfl (fun _ => (by repeat (first | exact Imp.refl _ | exact Imp.none _ | apply Imp.pull (by repeat (first | exact Ext.here | apply Ext.there)) | apply Imp.trans Imp.drop))) (fun _ => Imp.refl _) (fun _ => (by repeat (first | exact Imp.refl _ | exact Imp.none _ | apply Imp.pull (by repeat (first | exact Ext.here | apply Ext.there)) | apply Imp.trans Imp.drop))) ?_
    rintro b59 -
    refine DG.eff1 ?_
    refine Chg.eff rfl rfl (Eff.append (a := some ⟨b59, 0, none⟩) (c := 0) (m := 0) (xs := []) (a2 := z.tail.a) (c2 := z.tail.c) (k := z.tail.ms.length) (ys := z.tail.ms.map Msg.cell) rfl rfl rfl Try.underlying65 Try.underlying65 ti49 rfl (by decide) (by repeat (first | exact Foc.here | apply Foc.there)) (SlR.tail W0 (y := z) hr1 (by repeat (first | exact Ext.here | apply Ext.there))) (cells_ones _) (by unfold End.tail; simp only [List.length_tail]; omega)) rfl (fun _ => (by repeat (first | exact Imp.refl _ | exact Imp.none _ | apply Imp.pull (by repeat (first | exact Ext.here | apply Ext.there)) | apply Imp.trans Imp.drop))) (fun _ => Imp.refl _) (fun _ => (by repeat (first | exact Imp.refl _ | exact Imp.none _ | apply Imp.pull (by repeat (first | exact Ext.here | apply Ext.there)) | apply Imp.trans Imp.drop))) ?_
    rintro ⟨a68, c68⟩ -
    refine DG.look rfl rfl (Yield.index_slice (b := b1) (o := o1) (m := x.ys.length) (c := x.rc) Try.underlying69 ti65 rfl rfl (by omega) (by omega)) rfl ?_
    refine DG.eff1 ?_
    refine Chg.eff rfl rfl (Eff.storeElem (i := n) ti65 (by rw [show o1 + (n : Int).toNat * 1 = o1 + n by omega]; rfl) rfl (by repeat (first | exact Foc.here | apply Foc.there)) rfl (by omega)) rfl (fun _ => (by repeat (first | exact Imp.refl _ | exact Imp.none _ | apply Imp.pull (by repeat (first | exact Ext.here | apply Ext.there)) | apply Imp.trans Imp.drop))) (fun _ => Imp.refl _) (fun _ => (by repeat (first | exact Imp.refl _ | exact Imp.none _ | apply Imp.pull (by repeat (first | exact Ext.here | apply Ext.there)) | apply Imp.trans Imp.drop))) ?_
    rintro ⟨⟩ -
    rw [show Value.slice a68 (0 + z.tail.ms.length) c68 = End.cell ⟨a68, c68, z.tail.ms⟩ by unfold End.cell; rw [Nat.zero_add], ← List.map_set (f := End.cell), List.set_set]
    refine DG.done ?_
    refine QG.then ?_
    refine CG.seq ?_
    refine CG.region ?_
    refine OG.yield (Yield.move rfl) rfl ?_
    refine OG.yield (Yield.assign rfl) rfl ?_
    refine OG.yield (Yield.assign rfl) rfl ?_
    refine OG.nil ?_
    refine QG.then ?_
    refine CG.ret ?_
    rw [if_pos (by exact hc)]
    have hyt : Po.End.bs ⟨a68, c68, z.tail.ms⟩ = rest := by unfold End.bs End.tail; dsimp only; rw [hrm]; exact hms
    have hzl8 : z.ms.length ≤ 8 := by omega
    refine QG.ret2 rfl rfl rfl (am, cm) trivial rfl (Imp.trans ?_ (Imp.cons (@hcl y ⟨a68, c68, z.tail.ms⟩ ac { ac with r := rest } [] Fr hy hz hx hac rfl ⟨hok.s, by show rest.length ≤ 8; rw [← hms, List.length_map]; omega, hok.sl, fun m hm => hok.rl m (by rw [hr]; exact List.mem_cons_of_mem _ hm)⟩ hyb hyt (fun m hm => by rcases hm with hm | hm; exact List.mem_append.2 (.inr (hmy m hm)); exact List.mem_append.2 (.inr (hmz m (List.mem_of_mem_tail hm)))))))
    refine Imp.trans ?_ (Imp.cons (Imp.cons (Imp.cons (Imp.cons (Imp.cons (Imp.cons (Imp.cons (Imp.cons (Imp.cons pool_nil)))))))))
    rw [show oend ⟨a68, c68, z.tail.ms⟩ = osl 49 1 a68 c68 (0 + z.tail.ms.length) ([] ++ z.tail.ms.map Msg.cell) by unfold oend; rw [Nat.zero_add, List.nil_append]]
    exact (by repeat (first | exact Imp.refl _ | exact Imp.none _ | apply Imp.pull (by repeat (first | exact Ext.here | apply Ext.there)) | apply Imp.trans Imp.drop))
  · try replace hc := of_decide_eq_false hc
    refine CG.skip ?_
    refine QG.then ?_
    refine CG.seq ?_
    refine CG.region ?_
    refine OG.yield (Yield.move rfl) rfl ?_
    refine OG.yield (Yield.assign rfl) rfl ?_
    refine OG.yield (Yield.assign rfl) rfl ?_
    refine OG.nil ?_
    refine QG.then ?_
    refine CG.ret ?_
    rw [if_neg (by exact hc), set_self hac]
    exact QG.ret2 rfl rfl rfl (am, cm) trivial rfl (Imp.trans (Imp.pull (by repeat (first | exact Ext.here | apply Ext.there)) (by repeat (first | exact Imp.refl _ | exact Imp.none _ | apply Imp.pull (by repeat (first | exact Ext.here | apply Ext.there)) | apply Imp.trans Imp.drop))) (Imp.cons hback))
theorem rheld_out {r : Nat} {acs : List AC} (n : Int) (sd : Bool) (hn : n < 0 ∨ (acs.length : Int) ≤ n) : Ctr Try.prog W0 60 [.pointer (some ⟨r, 0, none⟩), .int .i64 n, .bool sd] (Rp r acs :: Fr) (fun _ : Unit => True) (fun _ => .slice none 0 0) (fun _ => Rp r acs :: Fr) := by
  refine Ctr.ex Ext.here rp_open0 ?_
  intro x hx
  refine Ctr.imp star_open ?_
  have hlen : (acs.map AC.cf).length = acs.length := List.length_map _
  have hback := rp_close0 (r := r) (G := Fr) x hx
  generalize acs.map AC.cf = l at hlen hback ⊢
  dsimp only [RO, List.cons_append, List.nil_append] at hback ⊢
  refine Ctr.of_body Try.func60 rfl Try.ntmps60 rfl ?_
  refine CG.seq ?_
  refine CG.region ?_
  refine OG.yield (Yield.assign rfl) rfl ?_
  refine OG.nil ?_
  refine QG.then ?_
  refine CG.seq ?_
  refine CG.seq ?_
  refine CG.region ?_
  refine OG.yield (Yield.move rfl) rfl ?_
  refine OG.yield (Yield.move rfl) rfl ?_
  refine OG.callo call55 rfl (Imp.refl _) (has_spec W0 _ (r := r) (m := l.length) (cc := x.cc) (ca := x.ca) n (Cel.of_blk (b := r) (by repeat (first | exact Ext.here | apply Ext.there)) rfl)) rfl ?_
  rintro ⟨⟩ -
  rw [show decide (0 ≤ n ∧ n < (l.length : Int)) = false from decide_eq_false (by omega)]
  refine OG.yield (Yield.not rfl) rfl ?_
  refine OG.nil ?_
  refine QG.then ?_
  refine CG.cond_t rfl ?_
  refine CG.seq ?_
  refine CG.region ?_
  refine OG.yield (Yield.assign rfl) rfl ?_
  refine OG.nil ?_
  refine QG.then ?_
  refine CG.ret ?_
  refine QG.pass_ret ?_
  exact QG.ret1 rfl rfl () trivial rfl (Imp.trans (by repeat (first | exact Imp.refl _ | exact Imp.none _ | apply Imp.pull (by repeat (first | exact Ext.here | apply Ext.there)) | apply Imp.trans Imp.drop)) hback)
theorem rheld_in {r n : Nat} {acs : List AC} (sd : Bool) {ac : AC} (hac : acs[n]? = some ac) :
    Ctr Try.prog W0 60 [.pointer (some ⟨r, 0, none⟩), .int .i64 n, .bool sd] (Rp r acs :: Fr) (fun y : End => y.bs = if sd then ac.s else ac.r) (fun y => y.cell) (fun y => oend y :: pool y.ms :: Rp r acs :: Fr) := by
  refine Ctr.ex Ext.here rp_open0 ?_
  intro x hx
  refine Ctr.imp star_open ?_
  obtain ⟨y, z, hy, hz, hyb, hzb⟩ := hx.gx hac
  have hnl : n < acs.length := (List.getElem?_eq_some_iff.1 hac).1
  have hlx := hx.lx
  have hly := hx.ly
  have hok := hx.ok _ (List.mem_of_getElem? hac)
  have hmy := hx.mem y (.inl (List.mem_of_getElem? hy))
  have hmz := hx.mem z (.inr (List.mem_of_getElem? hz))
  have hys : (x.xs.set n y)[n]? = some y := by rw [set_self hy]; exact hy
  have hzs : (x.ys.set n z)[n]? = some z := by rw [set_self hz]; exact hz
  have hlen : (acs.map AC.cf).length = acs.length := List.length_map _
  have hsl : y.ms.length ≤ 8 := by have := hok.s; rw [← hyb] at this; simpa [End.bs] using this
  have hrl : z.ms.length ≤ 8 := by have := hok.r; rw [← hzb] at this; simpa [End.bs] using this
  have hsb : ∀ m ∈ y.ms, m.b.length ≤ 64 := fun m hm => hok.sl m.b (by rw [← hyb]; exact List.mem_map_of_mem hm)
  have hrb : ∀ m ∈ z.ms, m.b.length ≤ 64 := fun m hm => hok.rl m.b (by rw [← hzb]; exact List.mem_map_of_mem hm)
  refine Ctr.imp (rp_open hy hz) ?_
  have hback := rp_back (r := r) (G := Fr) hy hz hx hac
  generalize acs.map AC.cf = l at hlen hback ⊢
  refine Ctr.pure (fun w hw => shape_os (xs := x.xs.set n y) (by rw [List.length_set]; omega) (Ext.there (Ext.there Ext.here)) w hw) ?_
  rintro ⟨b1, o1, hsa⟩
  refine Ctr.pure (fun w hw => shape_os (xs := x.ys.set n z) (by rw [List.length_set]; omega) (Ext.there (Ext.there (Ext.there Ext.here))) w hw) ?_
  rintro ⟨b2, o2, hra⟩
  dsimp only [RP, RH, RL, List.cons_append, List.nil_append] at hback ⊢
  rw [hsa, hra] at hback ⊢
  refine Ctr.of_body Try.func60 rfl Try.ntmps60 rfl ?_
  refine CG.seq ?_
  refine CG.region ?_
  refine OG.yield (Yield.assign rfl) rfl ?_
  refine OG.nil ?_
  refine QG.then ?_
  refine CG.seq ?_
  refine CG.seq ?_
  refine CG.region ?_
  refine OG.yield (Yield.move rfl) rfl ?_
  refine OG.yield (Yield.move rfl) rfl ?_
  refine OG.callo call55 rfl (Imp.refl _) (has_spec W0 _ (r := r) (m := l.length) (cc := x.cc) (ca := x.ca) n (Cel.of_blk (b := r) (by repeat (first | exact Ext.here | apply Ext.there)) rfl)) rfl ?_
  rintro ⟨⟩ -
  rw [show decide (0 ≤ (n : Int) ∧ (n : Int) < (l.length : Int)) = true from decide_eq_true (by omega)]
  refine OG.yield (Yield.not rfl) rfl ?_
  refine OG.nil ?_
  refine QG.then ?_
  refine CG.cond_f rfl ?_
  refine CG.skip ?_
  refine QG.then ?_
  refine CG.seq ?_
  refine CG.seq ?_
  refine CG.region ?_
  refine OG.yield (Yield.move rfl) rfl ?_
  refine OG.nil ?_
  refine QG.then ?_
  refine CG.cond rfl (fun hc => ?_) (fun hc => ?_)
  · try replace hc := of_decide_eq_true hc
    refine CG.seq ?_
    refine CG.region ?_
    refine OG.yield (Yield.move rfl) rfl ?_
    refine OG.yield (Yield.nilCheck rfl) rfl ?_
    refine OG.yield (Yield.fieldAddr fa94_1 rfl) rfl ?_
    refine OG.yield (Yield.load (v := .slice (some ⟨b1, o1, none⟩) x.xs.length x.sc) ti69 rfl (Cel.of_blk (b := r) (by repeat (first | exact Ext.here | apply Ext.there)) rfl)) rfl ?_
    refine OG.yield (Yield.move rfl) rfl ?_
    refine OG.yield (Yield.index_slice (b := b1) (o := o1) (m := x.xs.length) (c := x.sc) Try.underlying69 ti65 rfl rfl (by omega) (by omega)) rfl ?_
    refine OG.yield (Yield.load (v := y.cell) ti65 rfl (by rw [show o1 + (n : Int).toNat * 1 = o1 + n by omega]; exact SlR.cel (SlR.of_osl (E := 65) (a := some ⟨b1, o1, none⟩) (by repeat (first | exact Ext.here | apply Ext.there))) (by rw [List.getElem?_map, hys]; rfl))) rfl ?_
    refine OG.callo call61 rfl (Imp.refl _) (copies_spec W0 _ (x := y) (by exact SlR.of_osl (E := 49) (by repeat (first | exact Ext.here | apply Ext.there))) (by intro m hm; exact pool_rd (by repeat (first | exact Ext.here | apply Ext.there)) (hmy m hm)) (by omega) (by intro m hm; have := hsb m hm; omega)) rfl ?_
    rintro y' hy'
    refine OG.yield (Yield.assign rfl) rfl ?_
    refine OG.nil ?_
    refine QG.then ?_
    refine CG.ret ?_
    refine QG.pass_ret ?_
    exact QG.ret1 rfl rfl y' (by rw [if_pos hc, hy', hyb]) rfl (Imp.cons (Imp.cons hback))
  · try replace hc := of_decide_eq_false hc
    refine CG.skip ?_
    refine QG.then ?_
    refine CG.seq ?_
    refine CG.region ?_
    refine OG.yield (Yield.move rfl) rfl ?_
    refine OG.yield (Yield.nilCheck rfl) rfl ?_
    refine OG.yield (Yield.fieldAddr fa94_2 rfl) rfl ?_
    refine OG.yield (Yield.load (v := .slice (some ⟨b2, o2, none⟩) x.ys.length x.rc) ti69 rfl (Cel.of_blk (b := r) (by repeat (first | exact Ext.here | apply Ext.there)) rfl)) rfl ?_
    refine OG.yield (Yield.move rfl) rfl ?_
    refine OG.yield (Yield.index_slice (b := b2) (o := o2) (m := x.ys.length) (c := x.rc) Try.underlying69 ti65 rfl rfl (by omega) (by omega)) rfl ?_
    refine OG.yield (Yield.load (v := z.cell) ti65 rfl (by rw [show o2 + (n : Int).toNat * 1 = o2 + n by omega]; exact SlR.cel (SlR.of_osl (E := 65) (a := some ⟨b2, o2, none⟩) (by repeat (first | exact Ext.here | apply Ext.there))) (by rw [List.getElem?_map, hzs]; rfl))) rfl ?_
    refine OG.callo call61 rfl (Imp.refl _) (copies_spec W0 _ (x := z) (by exact SlR.of_osl (E := 49) (by repeat (first | exact Ext.here | apply Ext.there))) (by intro m hm; exact pool_rd (by repeat (first | exact Ext.here | apply Ext.there)) (hmz m hm)) (by omega) (by intro m hm; have := hrb m hm; omega)) rfl ?_
    rintro y' hy'
    refine OG.yield (Yield.assign rfl) rfl ?_
    refine OG.nil ?_
    refine QG.then ?_
    refine CG.ret ?_
    exact QG.ret1 rfl rfl y' (by rw [if_neg (by rw [hc]; decide), hy', hzb]) rfl (Imp.cons (Imp.cons hback))
end
end Go.Proofs.Ytjigjbcdopmeeaa.Po
