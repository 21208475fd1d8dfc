/- PortsPlays: channels of any kind tell, act by act, what the chapter says; nothing is shared: the law returns true and changes nothing that was there. -/
import Derived.Test.YtjigjbcdopmeeaaPsame
namespace Go.Proofs.Ytjigjbcdopmeeaa.Po
open Go Go.Sl Go.RowKit Go.Proofs Go.Proofs.Ytjigjbcdopmeeaa.T
set_option linter.unusedVariables false
set_option linter.unusedSimpArgs false
set_option maxRecDepth 100000
theorem po_facts {W0 : World} {G R : List HProp} {p : Nat} {acs : List AC} (x : Ext G (Po p acs) R) (w : World) (hw : Sat W0 G w) : (∀ a ∈ acs, a.OK) ∧ acs.length ≤ 1000 := by
  obtain ⟨_, _, y, hy, _⟩ := Sat.ext x hw
  exact ⟨hy.ok, hy.len⟩
section
variable (W0 : World) (Fr : List HProp)
set_option maxHeartbeats 2000000 in
theorem same_spec {p r : Nat} {acs : List AC} : Ctr Try.prog W0 41 [.pointer (some ⟨p, 0, none⟩), .pointer (some ⟨r, 0, none⟩)] (Po p acs :: Rp r acs :: Fr) (fun _ : Unit => True) (fun _ => .bool true) (fun _ => Po p acs :: Rp r acs :: Fr) := by
  refine Ctr.pure (fun w hw => po_facts (p := p) (acs := acs) Ext.here w hw) fun ⟨hao, hal⟩ => ?_
  refine Ctr.of_body Try.func41 rfl Try.ntmps41 rfl ?_
  refine CG.seq ?_
  refine CG.region ?_
  refine OG.yield (Yield.assign rfl) rfl ?_
  refine OG.nil ?_
  refine QG.then ?_
  refine CG.ex (A := Rp r acs) (by repeat (first | exact Ext.here | apply Ext.there)) rp_open0 ?_
  intro x hx
  refine CG.imp star_open ?_
  have hlen : (acs.map AC.cf).length = acs.length := List.length_map _
  have hback := rp_close0 (r := r) (G := Po p acs :: Fr) x hx
  generalize acs.map AC.cf = l at hlen hback ⊢
  dsimp only [RO, RH, RL, List.cons_append, List.nil_append] at hback ⊢
  refine CG.seq ?_
  refine CG.seq ?_
  refine CG.draw (.look 0 1 (.look 2 0 (.look 3 0 (.look 4 0 (.look 5 0 (.look 6 0 (.eff1 1 false (.look 7 1 (.done))))))))) [1] [] ([blk r [.slice x.ca l.length x.cc, .slice x.sa x.xs.length x.sc, .slice x.ra x.ys.length x.rc] 94]) ([]) mixed (by kernel_rfl) ((by repeat (first | exact Imp.refl _ | exact Imp.none _ | apply Imp.pull (by repeat (first | exact Ext.here | apply Ext.there)) | apply Imp.trans Imp.drop))) (Imp.none _) ?_
  refine DG.look rfl rfl (Yield.move rfl) rfl ?_
  refine DG.look rfl rfl (Yield.move rfl) rfl ?_
  refine DG.look rfl rfl (Yield.nilCheck rfl) rfl ?_
  refine DG.look rfl rfl (Yield.fieldAddr fa94_0 rfl) rfl ?_
  refine DG.look rfl rfl (Yield.load (v := .slice x.ca l.length x.cc) ti48 rfl (Cel.of_blk (b := r) (by repeat (first | exact Ext.here | apply Ext.there)) rfl)) rfl ?_
  refine DG.look rfl rfl (Yield.len_slice (a := x.ca) (m := l.length) (c := x.cc) Try.underlying48 rfl rfl) rfl ?_
  refine DG.eff1 ?_
  refine Chg.callo rfl rfl call58 rfl ((by repeat (first | exact Imp.refl _ | exact Imp.none _ | apply Imp.pull (by repeat (first | exact Ext.here | apply Ext.there)) | apply Imp.trans Imp.drop))) (channels_spec W0 _ (p := p) (acs := acs)) rfl (fun _ => (by repeat (first | exact Imp.refl _ | exact Imp.none _ | apply Imp.pull (by repeat (first | exact Ext.here | apply Ext.there)) | apply Imp.trans Imp.drop))) (fun _ => Imp.refl _) (fun _ => (by repeat (first | exact Imp.refl _ | exact Imp.none _ | apply Imp.pull (by repeat (first | exact Ext.here | apply Ext.there)) | apply Imp.trans Imp.drop))) ?_
  rintro ⟨⟩ -
  refine DG.look rfl rfl (Yield.as (Yield.neq rfl rfl) (bF (by rw [hlen]; exact not_not_intro rfl))) rfl ?_
  refine DG.done ?_
  refine QG.then ?_
  refine CG.cond_f rfl ?_
  refine CG.skip ?_
  refine QG.then ?_
  refine CG.seq ?_
  refine CG.seq ?_
  refine CG.region ?_
  refine OG.yield (Yield.assign rfl) rfl ?_
  refine OG.nil ?_
  refine QG.then ?_
  refine CG.block ?_
  refine CG.loop (fun c : Int => -1 ≤ c ∧ c ≤ (acs.length : Int) + 1) (fun c => [(0, .pointer (some ⟨p, 0, none⟩)), (1, .pointer (some ⟨r, 0, none⟩)), (5, .int .i64 c)]) (fun _ => Po p acs :: Rp r acs :: Fr) (fun c => ((acs.length : Int) + 1 - c).toNat) (-1) ⟨by omega, by omega⟩ (by repeat (first | exact Env.sub_nil _ | refine Env.sub_cons rfl ?_)) (Imp.trans (Imp.trans (by repeat (first | exact Imp.refl _ | exact Imp.none _ | apply Imp.pull (by repeat (first | exact Ext.here | apply Ext.there)) | apply Imp.trans Imp.drop)) hback) (fun _ s => Sep.swap s)) ?_
  clear hback hlen
  clear hx x l
  rintro c ⟨hc1, hc2⟩
  refine CG.ex (A := Rp r acs) (by repeat (first | exact Ext.here | apply Ext.there)) rp_open0 ?_
  intro x hx
  refine CG.imp star_open ?_
  have hlen : (acs.map AC.cf).length = acs.length := List.length_map _
  have hgl : ∀ (n : Nat) (ac : AC), acs[n]? = some ac → (acs.map AC.cf)[n]? = some ac.cf := fun n ac h => by rw [List.getElem?_map, h]; rfl
  have hback := rp_close0 (r := r) (G := Po p acs :: Fr) x hx
  generalize acs.map AC.cf = l at hlen hgl hback ⊢
  dsimp only [RO, RH, RL, List.cons_append, List.nil_append] at hback ⊢
  refine CG.seq ?_
  refine CG.seq ?_
  refine CG.region ?_
  refine OG.yield (Yield.move rfl) rfl ?_
  refine OG.yield (Yield.move rfl) rfl ?_
  refine OG.yield (Yield.nilCheck rfl) rfl ?_
  refine OG.yield (Yield.fieldAddr fa94_0 rfl) rfl ?_
  refine OG.yield (Yield.load (v := .slice x.ca l.length x.cc) ti48 rfl (Cel.of_blk (b := r) (by repeat (first | exact Ext.here | apply Ext.there)) rfl)) rfl ?_
  refine OG.yield (Yield.len_slice (a := x.ca) (m := l.length) (c := x.cc) Try.underlying48 rfl rfl) rfl ?_
  refine OG.yield (Yield.leq rfl rfl) rfl ?_
  refine OG.nil ?_
  refine QG.then ?_
  refine CG.cond rfl (fun hc => ?_) (fun hc => ?_)
  · try replace hc := of_decide_eq_true hc
    refine CG.skip ?_
    refine QG.then ?_
    refine CG.seq ?_
    refine CG.block ?_
    refine CG.seq ?_
    rcases (show c < 0 ∨ (0 ≤ c ∧ (acs.length : Int) ≤ c) ∨ ∃ n : Nat, c = n ∧ n < acs.length from if h : c < 0 then .inl h else if h2 : (acs.length : Int) ≤ c then .inr (.inl ⟨by omega, h2⟩) else .inr (.inr ⟨c.toNat, by omega, by omega⟩)) with hh | hh | ⟨n, rfl, hn⟩
    · skip
      refine CG.region ?_
      refine OG.yield (Yield.move rfl) rfl ?_
      refine OG.yield (Yield.move rfl) rfl ?_
      refine OG.callo call59 rfl ((by repeat (first | exact Imp.refl _ | exact Imp.none _ | apply Imp.pull (by repeat (first | exact Ext.here | apply Ext.there)) | apply Imp.trans Imp.drop))) (channel_out W0 _ (p := p) (acs := acs) c (by omega)) rfl ?_
      rintro ⟨⟩ -
      refine OG.yield (Yield.move rfl) rfl ?_
      refine OG.yield (Yield.extract rfl rfl) rfl ?_
      refine OG.yield (Yield.extract rfl rfl) rfl ?_
      refine OG.effd (Eff.alloc ti47) rfl ?_
      rintro b6 -
      refine OG.eff (Eff.storeAll ti47 rfl rfl (by repeat (first | exact Foc.here | apply Foc.there)) (Cf.len cz) (Cf.ones cz) rfl) rfl ?_
      rintro ⟨⟩ -
      refine OG.yield (Yield.assign rfl) rfl ?_
      refine OG.nil ?_
      refine QG.then ?_
      refine CG.seq ?_
      refine CG.seq ?_
      refine CG.region ?_
      refine OG.yield (Yield.move rfl) rfl ?_
      refine OG.yield (by first | exact Yield.as (Yield.geq rfl rfl) (bT (by omega)) | exact Yield.as (Yield.geq rfl rfl) (bF (by omega)) | exact Yield.geq rfl rfl) rfl ?_
      refine OG.yield (Yield.move rfl) rfl ?_
      refine OG.guard_no rfl rfl rfl rfl rfl (by decide) (by decide) ?_
      refine OG.guard_no rfl rfl rfl rfl rfl (by decide) (by decide) ?_
      refine OG.guard_no rfl rfl rfl rfl rfl (by decide) (by decide) ?_
      refine OG.guard_no rfl rfl rfl rfl rfl (by decide) (by decide) ?_
      refine OG.guard_no rfl rfl rfl rfl rfl (by decide) (by decide) ?_
      refine OG.guard_no rfl rfl rfl rfl rfl (by decide) (by decide) ?_
      refine OG.guard_no rfl rfl rfl rfl rfl (by decide) (by decide) ?_
      refine OG.yield (by first | exact Yield.pick_t rfl rfl | exact Yield.pick_f rfl rfl | exact Yield.pick rfl (fun _ => rfl) (fun _ => rfl)) rfl ?_
      refine OG.yield (Yield.assign rfl) rfl ?_
      refine OG.nil ?_
      refine QG.then ?_
      refine CG.seq ?_
      refine CG.draw (.look 0 1 (.look 1 1 (.look 2 1 (.look 3 1 (.look 4 1 (.look 5 1 (.look 6 1 (.look 7 1 (.look 8 1 (.look 9 1 (.look 10 1 (.look 11 1 (.look 12 1 (.look 13 1 (.look 14 1 (.look 15 1 (.look 16 1 (.look 17 1 (.look 18 1 (.look 19 1 (.look 20 1 (.look 21 1 (.look 22 1 (.look 23 1 (.look 24 1 (.look 25 1 (.look 26 1 (.look 27 1 (.look 28 1 (.done)))))))))))))))))))))))))))))) [] [] ([]) ([]) mixed (by kernel_rfl) (Imp.none _) (Imp.none _) ?_
      refine DG.look rfl rfl (Yield.move rfl) rfl ?_
      refine DG.look rfl rfl (Yield.move rfl) rfl ?_
      refine DG.pass rfl rfl rfl ?_
      refine DG.pass rfl rfl rfl ?_
      refine DG.pass rfl rfl rfl ?_
      refine DG.pass rfl rfl rfl ?_
      refine DG.pass rfl rfl rfl ?_
      refine DG.pass rfl rfl rfl ?_
      refine DG.pass rfl rfl rfl ?_
      refine DG.pass rfl rfl rfl ?_
      refine DG.pass rfl rfl rfl ?_
      refine DG.pass rfl rfl rfl ?_
      refine DG.pass rfl rfl rfl ?_
      refine DG.pass rfl rfl rfl ?_
      refine DG.pass rfl rfl rfl ?_
      refine DG.look rfl rfl (by first | exact Yield.pick_t rfl rfl | exact Yield.pick_f rfl rfl | exact Yield.pick rfl (fun _ => rfl) (fun _ => rfl)) rfl ?_
      refine DG.look rfl rfl (Yield.move rfl) rfl ?_
      refine DG.look rfl rfl (Yield.move rfl) rfl ?_
      refine DG.look rfl rfl (Yield.not rfl) rfl ?_
      refine DG.look rfl rfl (Yield.move rfl) rfl ?_
      refine DG.look rfl rfl (Yield.move rfl) rfl ?_
      refine DG.look rfl rfl (Yield.as (Yield.neq rfl rfl) (bF (not_not_intro rfl))) rfl ?_
      refine DG.look rfl rfl (Yield.move rfl) rfl ?_
      refine DG.look rfl rfl (Yield.load_agg (vs := cz.cells) ti47 rfl (Cf.len _) (Row.of_blk (b := b6) (by repeat (first | exact Ext.here | apply Ext.there)) rfl)) rfl ?_
      refine DG.look rfl rfl (Yield.build0 bu47 ti47) rfl ?_
      refine DG.look rfl rfl (Yield.agg_neq 6 (xs := cz.cells) (ys := cz.cells) rfl rfl (by decide) flat47 guard47 rfl rfl (b := false) (by simp [Cf.cells, eqCells, cellEq])) rfl ?_
      refine DG.look rfl rfl (by first | exact Yield.pick_t rfl rfl | exact Yield.pick_f rfl rfl | exact Yield.pick rfl (fun _ => rfl) (fun _ => rfl)) rfl ?_
      refine DG.look rfl rfl (by first | exact Yield.pick_t rfl rfl | exact Yield.pick_f rfl rfl | exact Yield.pick rfl (fun _ => rfl) (fun _ => rfl)) rfl ?_
      refine DG.look rfl rfl (by first | exact Yield.pick_t rfl rfl | exact Yield.pick_f rfl rfl | exact Yield.pick rfl (fun _ => rfl) (fun _ => rfl)) rfl ?_
      refine DG.done ?_
      refine QG.then ?_
      refine CG.cond_f rfl ?_
      refine CG.skip ?_
      refine QG.then ?_
      refine CG.imp (G' := Po p acs :: Rp r acs :: Fr) (Imp.trans (Imp.trans (by repeat (first | exact Imp.refl _ | exact Imp.none _ | apply Imp.pull (by repeat (first | exact Ext.here | apply Ext.there)) | apply Imp.trans Imp.drop)) hback) (fun _ s => Sep.swap s)) ?_
      refine CG.seq ?_
      refine CG.region ?_
      refine OG.yield (Yield.assign rfl) rfl ?_
      refine OG.nil ?_
      refine QG.then ?_
      refine CG.block ?_
      refine CG.loop (fun k : Nat => k ≤ 2) (fun k => [(0, .pointer (some ⟨p, 0, none⟩)), (1, .pointer (some ⟨r, 0, none⟩)), (5, .int .i64 c), (9, .int .i64 k)]) (fun _ => Po p acs :: Rp r acs :: Fr) (fun k => 2 - k) 0 (Nat.zero_le _) (by repeat (first | exact Env.sub_nil _ | refine Env.sub_cons rfl ?_)) (by repeat (first | exact Imp.refl _ | exact Imp.none _ | apply Imp.pull (by repeat (first | exact Ext.here | apply Ext.there)) | apply Imp.trans Imp.drop)) ?_
      intro k hk
      refine CG.seq ?_
      refine CG.seq ?_
      refine CG.region ?_
      refine OG.yield (Yield.move rfl) rfl ?_
      refine OG.yield (by first | exact Yield.as (Yield.lss rfl rfl) (bT (by omega)) | exact Yield.as (Yield.lss rfl rfl) (bF (by omega)) | exact Yield.lss rfl rfl) rfl ?_
      refine OG.nil ?_
      refine QG.then ?_
      refine CG.cond rfl (fun hc => ?_) (fun hc => ?_)
      · try replace hc := of_decide_eq_true hc
        refine CG.skip ?_
        refine QG.then ?_
        refine CG.seq ?_
        refine CG.block ?_
        refine CG.seq ?_
        refine CG.region ?_
        refine OG.yield (Yield.move rfl) rfl ?_
        refine OG.yield (Yield.move rfl) rfl ?_
        refine OG.yield (Yield.move rfl) rfl ?_
        refine OG.yield (Yield.eql rfl rfl) rfl ?_
        refine OG.callo call32 rfl ((by repeat (first | exact Imp.refl _ | exact Imp.none _ | apply Imp.pull (by repeat (first | exact Ext.here | apply Ext.there)) | apply Imp.trans Imp.drop))) (held_out W0 _ (p := p) (acs := acs) c _ (by omega)) rfl ?_
        rintro ⟨⟩ -
        refine OG.yield (Yield.assign rfl) rfl ?_
        refine OG.nil ?_
        refine QG.then ?_
        refine CG.seq ?_
        refine CG.seq ?_
        refine CG.region ?_
        refine OG.yield (Yield.move rfl) rfl ?_
        refine OG.yield (Yield.move rfl) rfl ?_
        refine OG.yield (Yield.move rfl) rfl ?_
        refine OG.yield (Yield.move rfl) rfl ?_
        refine OG.yield (Yield.eql rfl rfl) rfl ?_
        refine OG.callo call60 rfl ((by repeat (first | exact Imp.refl _ | exact Imp.none _ | apply Imp.pull (by repeat (first | exact Ext.here | apply Ext.there)) | apply Imp.trans Imp.drop))) (rheld_out W0 _ (r := r) (acs := acs) c _ (by omega)) rfl ?_
        rintro ⟨⟩ -
        refine OG.callo call33 rfl (Imp.refl _) (sameM_spec W0 _ (x := nilE) (y := nilE) SlR.nil SlR.nil (fun m hm => absurd hm List.not_mem_nil) (fun m hm => absurd hm List.not_mem_nil) rfl (by decide)) rfl ?_
        rintro ⟨⟩ -
        refine OG.yield (Yield.not rfl) rfl ?_
        refine OG.nil ?_
        refine QG.then ?_
        refine CG.cond_f rfl ?_
        refine CG.skip ?_
        refine QG.then ?_
        refine CG.region ?_
        refine OG.yield (Yield.move rfl) rfl ?_
        refine OG.callo call36 rfl (Imp.trans pool_nil oend_nil) (spoil_spec W0 _ (y := nilE) (by decide) (fun m hm => absurd hm List.not_mem_nil)) rfl ?_
        rintro ⟨⟩ -
        refine OG.nil ?_
        refine QG.block_normal ?_
        refine QG.then ?_
        refine CG.region ?_
        refine OG.yield (Yield.move rfl) rfl ?_
        refine OG.yield (Yield.add rfl rfl (w64 (by omega) (by omega))) rfl ?_
        refine OG.yield (Yield.assign rfl) rfl ?_
        refine OG.nil ?_
        exact QG.next (k + 1) (show k + 1 ≤ 2 by omega) (show 2 - (k + 1) < 2 - k by omega) (by repeat (first | exact Env.sub_nil _ | refine Env.sub_cons rfl ?_)) (by repeat (first | exact Imp.refl _ | exact Imp.none _ | apply Imp.pull (by repeat (first | exact Ext.here | apply Ext.there)) | apply Imp.trans Imp.drop))
      · try replace hc := of_decide_eq_false hc
        refine CG.exit ?_
        refine QG.pass_exit ?_
        refine QG.pass_exit ?_
        refine QG.block_exit ?_
        refine QG.block_normal ?_
        refine QG.then ?_
        refine CG.region ?_
        refine OG.yield (Yield.move rfl) rfl ?_
        refine OG.yield (Yield.add rfl rfl (w64 (by omega) (by omega))) rfl ?_
        refine OG.yield (Yield.assign rfl) rfl ?_
        refine OG.nil ?_
        exact QG.next (c + 1) ⟨by omega, by omega⟩ (by omega) (by repeat (first | exact Env.sub_nil _ | refine Env.sub_cons rfl ?_)) (by repeat (first | exact Imp.refl _ | exact Imp.none _ | apply Imp.pull (by repeat (first | exact Ext.here | apply Ext.there)) | apply Imp.trans Imp.drop))
    · skip
      refine CG.region ?_
      refine OG.yield (Yield.move rfl) rfl ?_
      refine OG.yield (Yield.move rfl) rfl ?_
      refine OG.callo call59 rfl ((by repeat (first | exact Imp.refl _ | exact Imp.none _ | apply Imp.pull (by repeat (first | exact Ext.here | apply Ext.there)) | apply Imp.trans Imp.drop))) (channel_out W0 _ (p := p) (acs := acs) c (by omega)) rfl ?_
      rintro ⟨⟩ -
      refine OG.yield (Yield.move rfl) rfl ?_
      refine OG.yield (Yield.extract rfl rfl) rfl ?_
      refine OG.yield (Yield.extract rfl rfl) rfl ?_
      refine OG.effd (Eff.alloc ti47) rfl ?_
      rintro b6 -
      refine OG.eff (Eff.storeAll ti47 rfl rfl (by repeat (first | exact Foc.here | apply Foc.there)) (Cf.len cz) (Cf.ones cz) rfl) rfl ?_
      rintro ⟨⟩ -
      refine OG.yield (Yield.assign rfl) rfl ?_
      refine OG.nil ?_
      refine QG.then ?_
      refine CG.seq ?_
      refine CG.seq ?_
      refine CG.region ?_
      refine OG.yield (Yield.move rfl) rfl ?_
      refine OG.yield (by first | exact Yield.as (Yield.geq rfl rfl) (bT (by omega)) | exact Yield.as (Yield.geq rfl rfl) (bF (by omega)) | exact Yield.geq rfl rfl) rfl ?_
      refine OG.yield (Yield.move rfl) rfl ?_
      refine OG.guard_yes rfl rfl rfl (by decide) ?_
      refine OG.yield (Yield.move rfl) rfl ?_
      refine OG.guard_yes rfl rfl rfl (by decide) ?_
      refine OG.yield (Yield.move rfl) rfl ?_
      refine OG.guard_yes rfl rfl rfl (by decide) ?_
      refine OG.yield (Yield.nilCheck rfl) rfl ?_
      refine OG.guard_yes rfl rfl rfl (by decide) ?_
      refine OG.yield (Yield.fieldAddr fa94_0 rfl) rfl ?_
      refine OG.guard_yes rfl rfl rfl (by decide) ?_
      refine OG.yield (Yield.load (v := .slice x.ca l.length x.cc) ti48 rfl (Cel.of_blk (b := r) (by repeat (first | exact Ext.here | apply Ext.there)) rfl)) rfl ?_
      refine OG.guard_yes rfl rfl rfl (by decide) ?_
      refine OG.yield (Yield.len_slice (a := x.ca) (m := l.length) (c := x.cc) Try.underlying48 rfl rfl) rfl ?_
      refine OG.guard_yes rfl rfl rfl (by decide) ?_
      refine OG.yield (Yield.as (Yield.lss rfl rfl) (bF (by omega))) rfl ?_
      refine OG.yield (by first | exact Yield.pick_t rfl rfl | exact Yield.pick_f rfl rfl | exact Yield.pick rfl (fun _ => rfl) (fun _ => rfl)) rfl ?_
      refine OG.yield (Yield.assign rfl) rfl ?_
      refine OG.nil ?_
      refine QG.then ?_
      refine CG.seq ?_
      refine CG.draw (.look 0 1 (.look 1 1 (.look 2 1 (.look 3 1 (.look 4 1 (.look 5 1 (.look 6 1 (.look 7 1 (.look 8 1 (.look 9 1 (.look 10 1 (.look 11 1 (.look 12 1 (.look 13 1 (.look 14 1 (.look 15 1 (.look 16 1 (.look 17 1 (.look 18 1 (.look 19 1 (.look 20 1 (.look 21 1 (.look 22 1 (.look 23 1 (.look 24 1 (.look 25 1 (.look 26 1 (.look 27 1 (.look 28 1 (.done)))))))))))))))))))))))))))))) [] [] ([]) ([]) mixed (by kernel_rfl) (Imp.none _) (Imp.none _) ?_
      refine DG.look rfl rfl (Yield.move rfl) rfl ?_
      refine DG.look rfl rfl (Yield.move rfl) rfl ?_
      refine DG.pass rfl rfl rfl ?_
      refine DG.pass rfl rfl rfl ?_
      refine DG.pass rfl rfl rfl ?_
      refine DG.pass rfl rfl rfl ?_
      refine DG.pass rfl rfl rfl ?_
      refine DG.pass rfl rfl rfl ?_
      refine DG.pass rfl rfl rfl ?_
      refine DG.pass rfl rfl rfl ?_
      refine DG.pass rfl rfl rfl ?_
      refine DG.pass rfl rfl rfl ?_
      refine DG.pass rfl rfl rfl ?_
      refine DG.pass rfl rfl rfl ?_
      refine DG.pass rfl rfl rfl ?_
      refine DG.look rfl rfl (by first | exact Yield.pick_t rfl rfl | exact Yield.pick_f rfl rfl | exact Yield.pick rfl (fun _ => rfl) (fun _ => rfl)) rfl ?_
      refine DG.look rfl rfl (Yield.move rfl) rfl ?_
      refine DG.look rfl rfl (Yield.move rfl) rfl ?_
      refine DG.look rfl rfl (Yield.not rfl) rfl ?_
      refine DG.look rfl rfl (Yield.move rfl) rfl ?_
      refine DG.look rfl rfl (Yield.move rfl) rfl ?_
      refine DG.look rfl rfl (Yield.as (Yield.neq rfl rfl) (bF (not_not_intro rfl))) rfl ?_
      refine DG.look rfl rfl (Yield.move rfl) rfl ?_
      refine DG.look rfl rfl (Yield.load_agg (vs := cz.cells) ti47 rfl (Cf.len _) (Row.of_blk (b := b6) (by repeat (first | exact Ext.here | apply Ext.there)) rfl)) rfl ?_
      refine DG.look rfl rfl (Yield.build0 bu47 ti47) rfl ?_
      refine DG.look rfl rfl (Yield.agg_neq 6 (xs := cz.cells) (ys := cz.cells) rfl rfl (by decide) flat47 guard47 rfl rfl (b := false) (by simp [Cf.cells, eqCells, cellEq])) rfl ?_
      refine DG.look rfl rfl (by first | exact Yield.pick_t rfl rfl | exact Yield.pick_f rfl rfl | exact Yield.pick rfl (fun _ => rfl) (fun _ => rfl)) rfl ?_
      refine DG.look rfl rfl (by first | exact Yield.pick_t rfl rfl | exact Yield.pick_f rfl rfl | exact Yield.pick rfl (fun _ => rfl) (fun _ => rfl)) rfl ?_
      refine DG.look rfl rfl (by first | exact Yield.pick_t rfl rfl | exact Yield.pick_f rfl rfl | exact Yield.pick rfl (fun _ => rfl) (fun _ => rfl)) rfl ?_
      refine DG.done ?_
      refine QG.then ?_
      refine CG.cond_f rfl ?_
      refine CG.skip ?_
      refine QG.then ?_
      refine CG.imp (G' := Po p acs :: Rp r acs :: Fr) (Imp.trans (Imp.trans (by repeat (first | exact Imp.refl _ | exact Imp.none _ | apply Imp.pull (by repeat (first | exact Ext.here | apply Ext.there)) | apply Imp.trans Imp.drop)) hback) (fun _ s => Sep.swap s)) ?_
      refine CG.seq ?_
      refine CG.region ?_
      refine OG.yield (Yield.assign rfl) rfl ?_
      refine OG.nil ?_
      refine QG.then ?_
      refine CG.block ?_
      refine CG.loop (fun k : Nat => k ≤ 2) (fun k => [(0, .pointer (some ⟨p, 0, none⟩)), (1, .pointer (some ⟨r, 0, none⟩)), (5, .int .i64 c), (9, .int .i64 k)]) (fun _ => Po p acs :: Rp r acs :: Fr) (fun k => 2 - k) 0 (Nat.zero_le _) (by repeat (first | exact Env.sub_nil _ | refine Env.sub_cons rfl ?_)) (by repeat (first | exact Imp.refl _ | exact Imp.none _ | apply Imp.pull (by repeat (first | exact Ext.here | apply Ext.there)) | apply Imp.trans Imp.drop)) ?_
      intro k hk
      refine CG.seq ?_
      refine CG.seq ?_
      refine CG.region ?_
      refine OG.yield (Yield.move rfl) rfl ?_
      refine OG.yield (by first | exact Yield.as (Yield.lss rfl rfl) (bT (by omega)) | exact Yield.as (Yield.lss rfl rfl) (bF (by omega)) | exact Yield.lss rfl rfl) rfl ?_
      refine OG.nil ?_
      refine QG.then ?_
      refine CG.cond rfl (fun hc => ?_) (fun hc => ?_)
      · try replace hc := of_decide_eq_true hc
        refine CG.skip ?_
        refine QG.then ?_
        refine CG.seq ?_
        refine CG.block ?_
        refine CG.seq ?_
        refine CG.region ?_
        refine OG.yield (Yield.move rfl) rfl ?_
        refine OG.yield (Yield.move rfl) rfl ?_
        refine OG.yield (Yield.move rfl) rfl ?_
        refine OG.yield (Yield.eql rfl rfl) rfl ?_
        refine OG.callo call32 rfl ((by repeat (first | exact Imp.refl _ | exact Imp.none _ | apply Imp.pull (by repeat (first | exact Ext.here | apply Ext.there)) | apply Imp.trans Imp.drop))) (held_out W0 _ (p := p) (acs := acs) c _ (by omega)) rfl ?_
        rintro ⟨⟩ -
        refine OG.yield (Yield.assign rfl) rfl ?_
        refine OG.nil ?_
        refine QG.then ?_
        refine CG.seq ?_
        refine CG.seq ?_
        refine CG.region ?_
        refine OG.yield (Yield.move rfl) rfl ?_
        refine OG.yield (Yield.move rfl) rfl ?_
        refine OG.yield (Yield.move rfl) rfl ?_
        refine OG.yield (Yield.move rfl) rfl ?_
        refine OG.yield (Yield.eql rfl rfl) rfl ?_
        refine OG.callo call60 rfl ((by repeat (first | exact Imp.refl _ | exact Imp.none _ | apply Imp.pull (by repeat (first | exact Ext.here | apply Ext.there)) | apply Imp.trans Imp.drop))) (rheld_out W0 _ (r := r) (acs := acs) c _ (by omega)) rfl ?_
        rintro ⟨⟩ -
        refine OG.callo call33 rfl (Imp.refl _) (sameM_spec W0 _ (x := nilE) (y := nilE) SlR.nil SlR.nil (fun m hm => absurd hm List.not_mem_nil) (fun m hm => absurd hm List.not_mem_nil) rfl (by decide)) rfl ?_
        rintro ⟨⟩ -
        refine OG.yield (Yield.not rfl) rfl ?_
        refine OG.nil ?_
        refine QG.then ?_
        refine CG.cond_f rfl ?_
        refine CG.skip ?_
        refine QG.then ?_
        refine CG.region ?_
        refine OG.yield (Yield.move rfl) rfl ?_
        refine OG.callo call36 rfl (Imp.trans pool_nil oend_nil) (spoil_spec W0 _ (y := nilE) (by decide) (fun m hm => absurd hm List.not_mem_nil)) rfl ?_
        rintro ⟨⟩ -
        refine OG.nil ?_
        refine QG.block_normal ?_
        refine QG.then ?_
        refine CG.region ?_
        refine OG.yield (Yield.move rfl) rfl ?_
        refine OG.yield (Yield.add rfl rfl (w64 (by omega) (by omega))) rfl ?_
        refine OG.yield (Yield.assign rfl) rfl ?_
        refine OG.nil ?_
        exact QG.next (k + 1) (show k + 1 ≤ 2 by omega) (show 2 - (k + 1) < 2 - k by omega) (by repeat (first | exact Env.sub_nil _ | refine Env.sub_cons rfl ?_)) (by repeat (first | exact Imp.refl _ | exact Imp.none _ | apply Imp.pull (by repeat (first | exact Ext.here | apply Ext.there)) | apply Imp.trans Imp.drop))
      · try replace hc := of_decide_eq_false hc
        refine CG.exit ?_
        refine QG.pass_exit ?_
        refine QG.pass_exit ?_
        refine QG.block_exit ?_
        refine QG.block_normal ?_
        refine QG.then ?_
        refine CG.region ?_
        refine OG.yield (Yield.move rfl) rfl ?_
        refine OG.yield (Yield.add rfl rfl (w64 (by omega) (by omega))) rfl ?_
        refine OG.yield (Yield.assign rfl) rfl ?_
        refine OG.nil ?_
        exact QG.next (c + 1) ⟨by omega, by omega⟩ (by omega) (by repeat (first | exact Env.sub_nil _ | refine Env.sub_cons rfl ?_)) (by repeat (first | exact Imp.refl _ | exact Imp.none _ | apply Imp.pull (by repeat (first | exact Ext.here | apply Ext.there)) | apply Imp.trans Imp.drop))
    · skip
      have hga : acs[n]? = some acs[n] := by simp [hn]
      generalize acs[n] = ac at hga
      have hget := hgl n ac hga
      have hok := hao ac (List.mem_of_getElem? hga)
      refine CG.pure (fun w hw => shape_rl (n := n) (x := x) (l := l) (by omega) (by repeat (first | exact Ext.here | apply Ext.there)) w hw) ?_
      rintro ⟨b0, o0, hca⟩
      rw [hca] at hback ⊢
      refine CG.region ?_
      refine OG.yield (Yield.move rfl) rfl ?_
      refine OG.yield (Yield.move rfl) rfl ?_
      refine OG.callo call59 rfl ((by repeat (first | exact Imp.refl _ | exact Imp.none _ | apply Imp.pull (by repeat (first | exact Ext.here | apply Ext.there)) | apply Imp.trans Imp.drop))) (channel_in W0 _ (p := p) (n := n) (ac := ac) hga) rfl ?_
      rintro ⟨⟩ -
      refine OG.yield (Yield.move rfl) rfl ?_
      refine OG.yield (Yield.extract rfl rfl) rfl ?_
      refine OG.yield (Yield.extract rfl rfl) rfl ?_
      refine OG.effd (Eff.alloc ti47) rfl ?_
      rintro b6 -
      refine OG.eff (Eff.storeAll ti47 rfl rfl (by repeat (first | exact Foc.here | apply Foc.there)) (Cf.len ac.cf) (Cf.ones ac.cf) rfl) rfl ?_
      rintro ⟨⟩ -
      refine OG.yield (Yield.assign rfl) rfl ?_
      refine OG.nil ?_
      refine QG.then ?_
      refine CG.seq ?_
      refine CG.seq ?_
      refine CG.region ?_
      refine OG.yield (Yield.move rfl) rfl ?_
      refine OG.yield (by first | exact Yield.as (Yield.geq rfl rfl) (bT (by omega)) | exact Yield.as (Yield.geq rfl rfl) (bF (by omega)) | exact Yield.geq rfl rfl) rfl ?_
      refine OG.yield (Yield.move rfl) rfl ?_
      refine OG.guard_yes rfl rfl rfl (by decide) ?_
      refine OG.yield (Yield.move rfl) rfl ?_
      refine OG.guard_yes rfl rfl rfl (by decide) ?_
      refine OG.yield (Yield.move rfl) rfl ?_
      refine OG.guard_yes rfl rfl rfl (by decide) ?_
      refine OG.yield (Yield.nilCheck rfl) rfl ?_
      refine OG.guard_yes rfl rfl rfl (by decide) ?_
      refine OG.yield (Yield.fieldAddr fa94_0 rfl) rfl ?_
      refine OG.guard_yes rfl rfl rfl (by decide) ?_
      refine OG.yield (Yield.load (v := .slice (some ⟨b0, o0, none⟩) l.length x.cc) ti48 rfl (Cel.of_blk (b := r) (by repeat (first | exact Ext.here | apply Ext.there)) rfl)) rfl ?_
      refine OG.guard_yes rfl rfl rfl (by decide) ?_
      refine OG.yield (Yield.len_slice (a := some ⟨b0, o0, none⟩) (m := l.length) (c := x.cc) Try.underlying48 rfl rfl) rfl ?_
      refine OG.guard_yes rfl rfl rfl (by decide) ?_
      refine OG.yield (Yield.as (Yield.lss rfl rfl) (bT (by omega))) rfl ?_
      refine OG.yield (by first | exact Yield.pick_t rfl rfl | exact Yield.pick_f rfl rfl | exact Yield.pick rfl (fun _ => rfl) (fun _ => rfl)) rfl ?_
      refine OG.yield (Yield.assign rfl) rfl ?_
      refine OG.nil ?_
      refine QG.then ?_
      refine CG.seq ?_
      refine CG.draw (.look 0 1 (.look 1 1 (.look 2 1 (.look 3 1 (.look 4 1 (.look 5 1 (.look 6 1 (.look 7 1 (.look 8 1 (.look 9 1 (.look 10 1 (.look 11 1 (.look 12 1 (.look 13 1 (.look 14 1 (.look 15 1 (.look 16 1 (.look 17 1 (.look 18 1 (.look 19 1 (.look 20 1 (.look 21 1 (.look 22 1 (.look 23 1 (.look 24 1 (.look 25 1 (.look 26 1 (.look 27 1 (.look 28 1 (.done)))))))))))))))))))))))))))))) [] [] ([]) ([]) mixed (by kernel_rfl) (Imp.none _) (Imp.none _) ?_
      refine DG.look rfl rfl (Yield.move rfl) rfl ?_
      refine DG.look rfl rfl (Yield.move rfl) rfl ?_
      refine DG.look rfl rfl (Yield.move rfl) rfl ?_
      refine DG.look rfl rfl (Yield.as (Yield.neq rfl rfl) (bF (not_not_intro rfl))) rfl ?_
      refine DG.look rfl rfl (Yield.move rfl) rfl ?_
      refine DG.look rfl rfl (Yield.load_agg (vs := ac.cf.cells) ti47 rfl (Cf.len _) (Row.of_blk (b := b6) (by repeat (first | exact Ext.here | apply Ext.there)) rfl)) rfl ?_
      refine DG.look rfl rfl (Yield.move rfl) rfl ?_
      refine DG.look rfl rfl (Yield.nilCheck rfl) rfl ?_
      refine DG.look rfl rfl (Yield.fieldAddr fa94_0 rfl) rfl ?_
      refine DG.look rfl rfl (Yield.load (v := .slice (some ⟨b0, o0, none⟩) l.length x.cc) ti48 rfl (Cel.of_blk (b := r) (by repeat (first | exact Ext.here | apply Ext.there)) rfl)) rfl ?_
      refine DG.look rfl rfl (Yield.move rfl) rfl ?_
      refine DG.look rfl rfl (Yield.index_slice Try.underlying48 ti47 rfl rfl (by omega) (by omega)) rfl ?_
      refine DG.look rfl rfl (Yield.load_agg (vs := ac.cf.cells) ti47 rfl (Cf.len _) (by rw [show o0 + (n : Int).toNat * 5 = o0 + n * 5 by omega]; exact (SlR.of_osl (E := 47) (a := some ⟨b0, o0, none⟩) (by repeat (first | exact Ext.here | apply Ext.there))).elem Cf.len hget)) rfl ?_
      refine DG.look rfl rfl (Yield.agg_neq 6 (xs := ac.cf.cells) (ys := ac.cf.cells) rfl rfl (by decide) flat47 guard47 rfl rfl (b := false) (by simp [Cf.cells, eqCells, cellEq])) rfl ?_
      refine DG.look rfl rfl (by first | exact Yield.pick_t rfl rfl | exact Yield.pick_f rfl rfl | exact Yield.pick rfl (fun _ => rfl) (fun _ => rfl)) rfl ?_
      refine DG.look rfl rfl (by first | exact Yield.pick_t rfl rfl | exact Yield.pick_f rfl rfl | exact Yield.pick rfl (fun _ => rfl) (fun _ => rfl)) rfl ?_
      refine DG.look rfl rfl (Yield.move rfl) rfl ?_
      refine DG.look rfl rfl (Yield.move rfl) rfl ?_
      refine DG.look rfl rfl (Yield.not rfl) rfl ?_
      refine DG.look rfl rfl (Yield.move rfl) rfl ?_
      refine DG.pass rfl rfl rfl ?_
      refine DG.pass rfl rfl rfl ?_
      refine DG.pass rfl rfl rfl ?_
      refine DG.pass rfl rfl rfl ?_
      refine DG.pass rfl rfl rfl ?_
      refine DG.pass rfl rfl rfl ?_
      refine DG.pass rfl rfl rfl ?_
      refine DG.look rfl rfl (by first | exact Yield.pick_t rfl rfl | exact Yield.pick_f rfl rfl | exact Yield.pick rfl (fun _ => rfl) (fun _ => rfl)) rfl ?_
      refine DG.look rfl rfl (by first | exact Yield.pick_t rfl rfl | exact Yield.pick_f rfl rfl | exact Yield.pick rfl (fun _ => rfl) (fun _ => rfl)) rfl ?_
      refine DG.done ?_
      refine QG.then ?_
      refine CG.cond_f rfl ?_
      refine CG.skip ?_
      refine QG.then ?_
      refine CG.imp (G' := Po p acs :: Rp r acs :: Fr) (Imp.trans (Imp.trans (by repeat (first | exact Imp.refl _ | exact Imp.none _ | apply Imp.pull (by repeat (first | exact Ext.here | apply Ext.there)) | apply Imp.trans Imp.drop)) hback) (fun _ s => Sep.swap s)) ?_
      refine CG.seq ?_
      refine CG.region ?_
      refine OG.yield (Yield.assign rfl) rfl ?_
      refine OG.nil ?_
      refine QG.then ?_
      refine CG.block ?_
      refine CG.loop (fun k : Nat => k ≤ 2) (fun k => [(0, .pointer (some ⟨p, 0, none⟩)), (1, .pointer (some ⟨r, 0, none⟩)), (5, .int .i64 (n : Int)), (9, .int .i64 k)]) (fun _ => Po p acs :: Rp r acs :: Fr) (fun k => 2 - k) 0 (Nat.zero_le _) (by repeat (first | exact Env.sub_nil _ | refine Env.sub_cons rfl ?_)) (by repeat (first | exact Imp.refl _ | exact Imp.none _ | apply Imp.pull (by repeat (first | exact Ext.here | apply Ext.there)) | apply Imp.trans Imp.drop)) ?_
      intro k hk
      refine CG.seq ?_
      refine CG.seq ?_
      refine CG.region ?_
      refine OG.yield (Yield.move rfl) rfl ?_
      refine OG.yield (by first | exact Yield.as (Yield.lss rfl rfl) (bT (by omega)) | exact Yield.as (Yield.lss rfl rfl) (bF (by omega)) | exact Yield.lss rfl rfl) rfl ?_
      refine OG.nil ?_
      refine QG.then ?_
      refine CG.cond rfl (fun hc => ?_) (fun hc => ?_)
      · try replace hc := of_decide_eq_true hc
        refine CG.skip ?_
        refine QG.then ?_
        refine CG.seq ?_
        refine CG.block ?_
        refine CG.seq ?_
        refine CG.region ?_
        refine OG.yield (Yield.move rfl) rfl ?_
        refine OG.yield (Yield.move rfl) rfl ?_
        refine OG.yield (Yield.move rfl) rfl ?_
        refine OG.yield (Yield.eql rfl rfl) rfl ?_
        refine OG.callo call32 rfl ((by repeat (first | exact Imp.refl _ | exact Imp.none _ | apply Imp.pull (by repeat (first | exact Ext.here | apply Ext.there)) | apply Imp.trans Imp.drop))) (held_in W0 _ (p := p) (n := n) (ac := ac) _ hga) rfl ?_
        rintro y hy
        refine OG.yield (Yield.assign rfl) rfl ?_
        refine OG.nil ?_
        refine QG.then ?_
        refine CG.seq ?_
        refine CG.seq ?_
        refine CG.region ?_
        refine OG.yield (Yield.move rfl) rfl ?_
        refine OG.yield (Yield.move rfl) rfl ?_
        refine OG.yield (Yield.move rfl) rfl ?_
        refine OG.yield (Yield.move rfl) rfl ?_
        refine OG.yield (Yield.eql rfl rfl) rfl ?_
        refine OG.callo call60 rfl ((by repeat (first | exact Imp.refl _ | exact Imp.none _ | apply Imp.pull (by repeat (first | exact Ext.here | apply Ext.there)) | apply Imp.trans Imp.drop))) (rheld_in W0 _ (r := r) (n := n) (ac := ac) _ hga) rfl ?_
        rintro z hz
        have hyl : y.ms.length ≤ 8 := by have h := congrArg List.length hy; rw [bs_len] at h; rw [h]; split; exact hok.s; exact hok.r
        have hym : ∀ m ∈ y.ms, m.b.length ≤ 64 := fun m hm => by
          have h : m.b ∈ y.bs := List.mem_map_of_mem hm
          rw [hy] at h
          split at h
          · exact hok.sl _ h
          · exact hok.rl _ h
        refine OG.callo call33 rfl (Imp.refl _) (sameM_spec W0 _ (x := y) (y := z) (by exact SlR.of_osl (E := 49) (a := y.a) (c := y.c) (by repeat (first | exact Ext.here | apply Ext.there))) (by exact SlR.of_osl (E := 49) (a := z.a) (c := z.c) (by repeat (first | exact Ext.here | apply Ext.there))) (by intro m hm; exact pool_rd (ms := y.ms) (by repeat (first | exact Ext.here | apply Ext.there)) hm) (by intro m hm; exact pool_rd (ms := z.ms) (by repeat (first | exact Ext.here | apply Ext.there)) hm) (hy.trans hz.symm) (by omega)) rfl ?_
        rintro ⟨⟩ -
        refine OG.yield (Yield.not rfl) rfl ?_
        refine OG.nil ?_
        refine QG.then ?_
        refine CG.cond_f rfl ?_
        refine CG.skip ?_
        refine QG.then ?_
        refine CG.region ?_
        refine OG.yield (Yield.move rfl) rfl ?_
        refine OG.callo call36 rfl (Imp.pull (by repeat (first | exact Ext.here | apply Ext.there)) (Imp.pull (by repeat (first | exact Ext.here | apply Ext.there)) (Imp.refl _))) (spoil_spec W0 _ (y := y) (by omega) (fun m hm => by have := hym m hm; omega)) rfl ?_
        rintro ⟨⟩ -
        refine OG.nil ?_
        refine QG.block_normal ?_
        refine QG.then ?_
        refine CG.region ?_
        refine OG.yield (Yield.move rfl) rfl ?_
        refine OG.yield (Yield.add rfl rfl (w64 (by omega) (by omega))) rfl ?_
        refine OG.yield (Yield.assign rfl) rfl ?_
        refine OG.nil ?_
        exact QG.next (k + 1) (show k + 1 ≤ 2 by omega) (show 2 - (k + 1) < 2 - k by omega) (by repeat (first | exact Env.sub_nil _ | refine Env.sub_cons rfl ?_)) (by repeat (first | exact Imp.refl _ | exact Imp.none _ | apply Imp.pull (by repeat (first | exact Ext.here | apply Ext.there)) | apply Imp.trans Imp.drop))
      · try replace hc := of_decide_eq_false hc
        refine CG.exit ?_
        refine QG.pass_exit ?_
        refine QG.pass_exit ?_
        refine QG.block_exit ?_
        refine QG.block_normal ?_
        refine QG.then ?_
        refine CG.region ?_
        refine OG.yield (Yield.move rfl) rfl ?_
        refine OG.yield (Yield.add rfl rfl (w64 (by omega) (by omega))) rfl ?_
        refine OG.yield (Yield.assign rfl) rfl ?_
        refine OG.nil ?_
        exact QG.next ((n : Int) + 1) ⟨by omega, by omega⟩ (by omega) (by repeat (first | exact Env.sub_nil _ | refine Env.sub_cons rfl ?_)) (by repeat (first | exact Imp.refl _ | exact Imp.none _ | apply Imp.pull (by repeat (first | exact Ext.here | apply Ext.there)) | apply Imp.trans Imp.drop))
  · try replace hc := of_decide_eq_false hc
    refine CG.exit ?_
    refine QG.pass_exit ?_
    refine QG.pass_exit ?_
    refine QG.block_exit ?_
    refine QG.then ?_
    refine CG.seq ?_
    refine CG.region ?_
    refine OG.yield (Yield.assign rfl) rfl ?_
    refine OG.nil ?_
    refine QG.then ?_
    refine CG.ret ?_
    exact QG.ret1 rfl rfl () trivial rfl (Imp.trans (Imp.trans (by repeat (first | exact Imp.refl _ | exact Imp.none _ | apply Imp.pull (by repeat (first | exact Ext.here | apply Ext.there)) | apply Imp.trans Imp.drop)) hback) (fun _ s => Sep.swap s))
end
end Go.Proofs.Ytjigjbcdopmeeaa.Po
namespace Go.Proofs.Ytjigjbcdopmeeaa.portsPlays
open Go Go.Sl Go.RowKit Go.Proofs Go.Proofs.Ytjigjbcdopmeeaa.T Go.Proofs.Ytjigjbcdopmeeaa.Po
set_option linter.unusedVariables false
set_option linter.unusedSimpArgs false
set_option maxRecDepth 100000
def Smp (acs : List AC) : Prop := ∀ a ∈ acs, a.kind ≠ 2 → a.s.length ≤ 1
theorem smp_new (l : List Cf) : Smp (l.map Cf.ac) := fun a ha _ => by rw [List.mem_map] at ha; obtain ⟨f, _, rfl⟩ := ha; exact Nat.zero_le _
theorem Smp.set {acs : List AC} (h : Smp acs) (m : Nat) {a : AC} (ha : a.kind ≠ 2 → a.s.length ≤ 1) : Smp (acs.set m a) := fun x hx => by
  rcases List.mem_or_eq_of_mem_set hx with hx | rfl
  · exact h x hx
  · exact ha
theorem smp_send {acs : List AC} (h : Smp acs) {m : Nat} {a : AC} (hg : acs[m]? = some a) (p : Int) (b : B) : Smp (acs.set m (sendR a p b).2) := h.set m (by
  have ha := h a (List.mem_of_getElem? hg)
  unfold sendR; split; exact ha; split; exact ha; split
  · intro _; exact Nat.le_refl _
  · rename_i hk; split; exact ha; intro hk2; exact absurd hk2 hk)
theorem carry_none {kd : Int} (hk : kd ≠ 2) (dp : Int) : ∀ s r : List B, (carry kd dp s r).1 = []
  | [], r => rfl
  | m :: s, r => by rw [carry, if_pos hk]; exact carry_none hk dp s [m]
theorem smp_tr {acs : List AC} (h : Smp acs) : Smp (acs.map AC.tr) := fun x hx hk => by
  rw [List.mem_map] at hx
  obtain ⟨a, _, rfl⟩ := hx
  show (carry a.kind (dep a.kind a.depth) a.s a.r).1.length ≤ 1
  have hk2 : a.kind ≠ 2 := hk
  rw [carry_none hk2]; exact Nat.zero_le _
theorem mapto_step {α : Type} {f : α → α} {l : List α} {i : Nat} {x : α} (h : l[i]? = some x) : (l.take (i + 1)).map f ++ l.drop (i + 1) = ((l.take i).map f ++ l.drop i).set i (f x) := by
  obtain ⟨hi, rfl⟩ := List.getElem?_eq_some_iff.1 h
  have hl : ((l.take i).map f).length = i := by simp; omega
  rw [List.set_append_right _ _ (by omega), hl, Nat.sub_self, List.drop_eq_getElem_cons hi, List.set_cons_zero, List.take_succ_eq_append_getElem hi, List.map_append, List.append_assoc]; rfl
theorem mapto_get {α : Type} {f : α → α} {l : List α} {i : Nat} {x : α} (h : l[i]? = some x) : ((l.take i).map f ++ l.drop i)[i]? = some x := by
  obtain ⟨hi, rfl⟩ := List.getElem?_eq_some_iff.1 h
  have hl : ((l.take i).map f).length = i := by simp; omega
  rw [List.getElem?_append_right (by omega), hl, Nat.sub_self]; simp [hi]
theorem mapto_len {α : Type} {f : α → α} {l : List α} {i : Nat} (h : i ≤ l.length) : ((l.take i).map f ++ l.drop i).length = l.length := by simp; omega
section
variable (W0 : World) (Fr : List HProp)
theorem send_any {p c : Nat} {acs : List AC} (part n : Int) {a : Option Addr} {bs : B} (hr : SlR W0 Fr 1 a bs.length (bytesV bs)) (hb : bs.length ≤ 2 ^ 47) :
    Ctr Try.prog W0 23 [.pointer (some ⟨p, 0, none⟩), .int .i64 part, .int .i64 n, .slice a bs.length c] (Po p acs :: Fr) (fun _ : Int × List AC => True) (fun x => .int .i64 x.1) (fun x => Po p x.2 :: Fr) := by
  by_cases h : n < 0 ∨ (acs.length : Int) ≤ n
  · exact (send_out W0 Fr (acs := acs) part n h).to (fun _ => (210, acs)) (fun _ _ => trivial) (fun _ => rfl) (fun _ => Imp.refl _)
  · obtain ⟨m, rfl⟩ : ∃ m : Nat, n = m := ⟨n.toNat, by omega⟩
    have hm : m < acs.length := by omega
    have hg : acs[m]? = some acs[m] := by simp [hm]
    exact (send_in W0 Fr (acs := acs) part hr hb hg).to (fun _ => ((sendR acs[m] part bs).1, acs.set m (sendR acs[m] part bs).2)) (fun _ _ => trivial) (fun _ => rfl) (fun _ => Imp.refl _)
theorem recv_any {p : Nat} {acs : List AC} (part n : Int) :
    Ctr Try.prog W0 25 [.pointer (some ⟨p, 0, none⟩), .int .i64 part, .int .i64 n] (Po p acs :: Fr) (fun _ : Value × List AC => True) (fun x => x.1) (fun x => Po p x.2 :: Fr) := by
  rcases recv_cases acs n part with hh | ⟨m, am, rfl, hgm, hne⟩ | ⟨m, am, x, rest, rfl, hgm, hto, hr⟩
  · exact (recv_out W0 Fr (acs := acs) part n hh).to (fun _ => (_, acs)) (fun _ _ => trivial) (fun _ => rfl) (fun _ => Imp.refl _)
  · exact (recv_bad W0 Fr (acs := acs) part hgm hne).to (fun _ => (_, acs)) (fun _ _ => trivial) (fun _ => rfl) (fun _ => Imp.refl _)
  · exact (recv_ok W0 Fr (acs := acs) part hgm hto hr).to (fun z => (.tuple #[.slice (some ⟨z, 0, none⟩) x.length x.length, .int .i64 0], acs.set m (if am.kind = 2 then { am with r := rest } else am))) (fun _ _ => trivial) (fun _ => rfl) (fun _ => Imp.drop)
end
def far (f : Cf) : Cf := { f with From := 77 }
set_option maxHeartbeats 8000000 in
theorem walk (W : World) {a0 a1 : Option Addr} {c0 c1 : Nat} {l : List Cf} {ops : List POp} (hls : SlAt W 5 a0 l.length ((l.map Cf.cells).flatten)) (hops : SlAt W 4 a1 ops.length ((ops.map POp.cells).flatten)) (hok : ∀ o ∈ ops, o.OK W) :
    Ctr Try.prog W 11 [.slice a0 l.length c0, .slice a1 ops.length c1] [old W] (fun _ : Unit => True) (fun _ => .bool true) (fun _ => [old W]) := by
  refine Ctr.of_body Try.func11 rfl Try.ntmps11 rfl ?_
  refine CG.seq ?_
  refine CG.region ?_
  refine OG.yield (Yield.assign rfl) rfl ?_
  refine OG.nil ?_
  refine QG.then ?_
  refine CG.seq ?_
  refine CG.seq ?_
  rcases (show l.length ≤ 40 ∨ 40 < l.length by omega) with hl | hl
  · skip
    refine CG.region ?_
    refine OG.yield (Yield.move rfl) rfl ?_
    refine OG.yield (Yield.len_slice Try.underlying48 rfl rfl) rfl ?_
    refine OG.yield (by first | exact Yield.as (Yield.gtr rfl rfl) (bT (by omega)) | exact Yield.as (Yield.gtr rfl rfl) (bF (by omega)) | exact Yield.gtr rfl rfl) rfl ?_
    refine OG.nil ?_
    refine QG.then ?_
    refine CG.cond_f rfl ?_
    refine CG.skip ?_
    refine QG.then ?_
    refine CG.seq ?_
    refine CG.region ?_
    refine OG.effd (Eff.lit0 Try.underlying48 ti47 rfl) rfl ?_
    rintro b21 -
    refine OG.yield (Yield.move rfl) rfl ?_
    refine OG.effd (Eff.append (a := some ⟨b21, 0, none⟩) (c := 0) (m := 0) (xs := []) (k := l.length) (ys := (l.map Cf.cells).flatten) rfl rfl rfl Try.underlying48 Try.underlying48 ti47 rfl (by decide) (by repeat (first | exact Foc.here | apply Foc.there)) (hls.old (by repeat (first | exact Ext.here | apply Ext.there))) (by intro v hv; obtain ⟨x, hx, hvx⟩ := List.mem_flatten.1 hv; obtain ⟨f, _, rfl⟩ := List.mem_map.1 hx; exact Cf.ones f v hvx) (by omega)) rfl ?_
    rintro ⟨a23, c23⟩ -
    rw [Nat.zero_add, List.nil_append]
    refine OG.yield (Yield.assign rfl) rfl ?_
    refine OG.nil ?_
    refine QG.then ?_
    refine CG.seq ?_
    refine CG.region ?_
    refine OG.yield (Yield.move rfl) rfl ?_
    refine OG.callo call22 rfl (Imp.refl _) (new_spec W _ (l := l) (by exact SlR.of_osl (E := 47) (a := a23) (c := c23) (by repeat (first | exact Ext.here | apply Ext.there))) (by omega)) rfl ?_
    rintro p -
    refine OG.yield (Yield.move rfl) rfl ?_
    refine OG.callo call34 rfl (Imp.refl _) (rnew_spec W _ (l := l) (by exact hls.old (by repeat (first | exact Ext.here | apply Ext.there))) (by omega)) rfl ?_
    rintro r -
    refine OG.yield (Yield.assign rfl) rfl ?_
    refine OG.yield (Yield.assign rfl) rfl ?_
    refine OG.nil ?_
    refine QG.then ?_
    refine CG.seq ?_
    refine CG.seq ?_
    refine CG.region ?_
    refine OG.yield (Yield.move rfl) rfl ?_
    refine OG.yield (by first | exact Yield.ptr_nil Try.underlying44 rfl rfl | exact Yield.nil_nil Try.underlying44 rfl rfl) rfl ?_
    refine OG.nil ?_
    refine QG.then ?_
    refine CG.cond_f rfl ?_
    refine CG.skip ?_
    refine QG.then ?_
    refine CG.seq ?_
    refine CG.seq ?_
    refine CG.region ?_
    refine OG.yield (Yield.assign rfl) rfl ?_
    refine OG.nil ?_
    refine QG.then ?_
    refine CG.block ?_
    refine CG.loop (fun i : Nat => i ≤ l.length) (fun i => [(0, .slice a0 l.length c0), (1, .slice a1 ops.length c1), (5, .slice a23 l.length c23), (6, .pointer (some ⟨p, 0, none⟩)), (7, .pointer (some ⟨r, 0, none⟩)), (8, .int .i64 i)]) (fun i => osl 47 5 a23 c23 l.length ((((l.take i).map far ++ l.drop i).map Cf.cells).flatten) :: [Po p (l.map Cf.ac), Rp r (l.map Cf.ac), old W]) (fun i => l.length - i) 0 (Nat.zero_le _) (by repeat (first | exact Env.sub_nil _ | refine Env.sub_cons rfl ?_)) (by rw [List.take_zero, List.drop_zero, List.map_nil, List.nil_append]; exact (by repeat (first | exact Imp.refl _ | exact Imp.none _ | apply Imp.pull (by repeat (first | exact Ext.here | apply Ext.there)) | apply Imp.trans Imp.drop))) ?_
    intro i hi
    refine CG.seq ?_
    refine CG.seq ?_
    refine CG.region ?_
    refine OG.yield (Yield.move rfl) rfl ?_
    refine OG.yield (Yield.move rfl) rfl ?_
    refine OG.yield (Yield.len_slice Try.underlying48 rfl rfl) rfl ?_
    refine OG.yield (by first | exact Yield.as (Yield.lss rfl rfl) (bT (by omega)) | exact Yield.as (Yield.lss rfl rfl) (bF (by omega)) | exact Yield.lss rfl rfl) rfl ?_
    refine OG.nil ?_
    refine QG.then ?_
    refine CG.cond rfl (fun hc => ?_) (fun hc => ?_)
    · try replace hc := of_decide_eq_true hc
      have hi1 : i < l.length := by omega
      have hget : l[i]? = some l[i] := by simp [hi1]
      generalize l[i] = f at hget
      have hgm := mapto_get (f := far) hget
      have hst := mapto_step (f := far) hget
      have hml := mapto_len (f := far) (l := l) (i := i) (by omega)
      generalize (l.take i).map far ++ l.drop i = L at hgm hst hml ⊢
      refine CG.pure (fun w hw => SlR.elem_shape (hls.old (G := osl 47 5 a23 c23 l.length ((L.map Cf.cells).flatten) :: [Po p (l.map Cf.ac), Rp r (l.map Cf.ac), old W]) (by repeat (first | exact Ext.here | apply Ext.there))) Cf.len (by decide) hi1 w hw) ?_
      rintro ⟨b0, o0, rfl⟩
      refine CG.pure (fun w hw => SlR.elem_shape (i := i) (SlR.of_osl (E := 47) (a := a23) (c := c23) (by repeat (first | exact Ext.here | apply Ext.there))) Cf.len (by decide) (by omega) w hw) ?_
      rintro ⟨bo, oo, rfl⟩
      refine CG.skip ?_
      refine QG.then ?_
      refine CG.seq ?_
      refine CG.block ?_
      refine CG.seq ?_
      refine CG.seq ?_
      refine CG.draw (.look 0 1 (.look 1 1 (.look 2 1 (.look 3 1 (.look 4 1 (.look 5 1 (.look 6 1 (.look 7 1 (.look 8 1 (.done)))))))))) [] [] ([]) ([]) mixed (by kernel_rfl) (Imp.none _) (Imp.none _) ?_
      refine DG.look rfl rfl (Yield.move rfl) rfl ?_
      refine DG.look rfl rfl (Yield.move rfl) rfl ?_
      refine DG.look rfl rfl (Yield.index_slice Try.underlying48 ti47 rfl rfl (by omega) (by omega)) rfl ?_
      refine DG.look rfl rfl (Yield.load_agg (vs := f.cells) ti47 rfl (Cf.len _) (by rw [show oo + (i : Int).toNat * 5 = oo + i * 5 by omega]; exact (SlR.of_osl (E := 47) (a := some ⟨bo, oo, none⟩) (by repeat (first | exact Ext.here | apply Ext.there))).elem Cf.len hgm)) rfl ?_
      refine DG.look rfl rfl (Yield.move rfl) rfl ?_
      refine DG.look rfl rfl (Yield.move rfl) rfl ?_
      refine DG.look rfl rfl (Yield.index_slice Try.underlying48 ti47 rfl rfl (by omega) (by omega)) rfl ?_
      refine DG.look rfl rfl (Yield.load_agg (vs := f.cells) ti47 rfl (Cf.len _) (by rw [show o0 + (i : Int).toNat * 5 = o0 + i * 5 by omega]; exact (hls.old (by repeat (first | exact Ext.here | apply Ext.there))).elem Cf.len hget)) rfl ?_
      refine DG.look rfl rfl (Yield.agg_neq 6 (xs := f.cells) (ys := f.cells) rfl rfl (by decide) flat47 guard47 rfl rfl (b := false) (by simp [Cf.cells, eqCells, cellEq])) rfl ?_
      refine DG.done ?_
      refine QG.then ?_
      refine CG.cond_f rfl ?_
      refine CG.skip ?_
      refine QG.then ?_
      refine CG.region ?_
      refine OG.yield (Yield.move rfl) rfl ?_
      refine OG.yield (Yield.move rfl) rfl ?_
      refine OG.yield (Yield.index_slice Try.underlying48 ti47 rfl rfl (by omega) (by omega)) rfl ?_
      refine OG.yield (Yield.fieldAddr fa47_1 rfl) rfl ?_
      refine OG.eff (Eff.storeFld (i := i) 1 (r := f) (r' := far f) (rs := L) Cf.len hgm rfl (by decide) ti3 (by rw [show oo + (i : Int).toNat * 5 = oo + i * 5 by omega]; rfl) rfl (by repeat (first | exact Foc.here | apply Foc.there)) rfl (by omega)) rfl ?_
      rintro ⟨⟩ -
      rw [← hst]
      refine OG.nil ?_
      refine QG.block_normal ?_
      refine QG.then ?_
      refine CG.region ?_
      refine OG.yield (Yield.move rfl) rfl ?_
      refine OG.yield (Yield.add rfl rfl (w64 (by omega) (by omega))) rfl ?_
      refine OG.yield (Yield.assign rfl) rfl ?_
      refine OG.nil ?_
      exact QG.next (i + 1) (show i + 1 ≤ l.length by omega) (show l.length - (i + 1) < l.length - i by omega) (by repeat (first | exact Env.sub_nil _ | refine Env.sub_cons rfl ?_)) (by repeat (first | exact Imp.refl _ | exact Imp.none _ | apply Imp.pull (by repeat (first | exact Ext.here | apply Ext.there)) | apply Imp.trans Imp.drop))
    · try replace hc := of_decide_eq_false hc
      refine CG.exit ?_
      refine QG.pass_exit ?_
      refine QG.pass_exit ?_
      refine QG.block_exit ?_
      refine QG.then ?_
      refine CG.seq ?_
      refine CG.seq ?_
      refine CG.region ?_
      refine OG.yield (Yield.assign rfl) rfl ?_
      refine OG.nil ?_
      refine QG.then ?_
      refine CG.block ?_
      refine CG.loop (fun x : Nat × List AC × Nat => Smp x.2.1 ∧ x.1 ≤ ops.length ∧ x.1 ≤ 150) (fun x => [(1, .slice a1 ops.length c1), (6, .pointer (some ⟨x.2.2, 0, none⟩)), (7, .pointer (some ⟨r, 0, none⟩)), (9, .int .i64 x.1)]) (fun x => [Po x.2.2 x.2.1, Rp r x.2.1, old W]) (fun x => ops.length - x.1) (0, l.map Cf.ac, p) ⟨smp_new l, Nat.zero_le _, Nat.zero_le _⟩ (by repeat (first | exact Env.sub_nil _ | refine Env.sub_cons rfl ?_)) (by repeat (first | exact Imp.refl _ | exact Imp.none _ | apply Imp.pull (by repeat (first | exact Ext.here | apply Ext.there)) | apply Imp.trans Imp.drop)) ?_
      clear hi hls hl
      clear hc
      clear i p
      rintro ⟨i, acs, p⟩ ⟨hsm, im, im2⟩
      dsimp only at hsm im im2 ⊢
      refine CG.pure (fun w hw => po_facts (p := p) (acs := acs) Ext.here w hw) ?_
      rintro ⟨hao, hal⟩
      refine CG.seq ?_
      refine CG.seq ?_
      rcases loop_head (i) (ops.length) 150 with hh | hh | hh
      · skip
        refine CG.region ?_
        refine OG.yield (Yield.move rfl) rfl ?_
        refine OG.yield (Yield.move rfl) rfl ?_
        refine OG.yield (Yield.len_slice Try.underlying43 rfl rfl) rfl ?_
        refine OG.yield (by first | exact Yield.as (Yield.lss rfl rfl) (bT (by omega)) | exact Yield.as (Yield.lss rfl rfl) (bF (by omega)) | exact Yield.lss rfl rfl) rfl ?_
        refine OG.yield (Yield.move rfl) rfl ?_
        refine OG.guard_yes rfl rfl rfl (by decide) ?_
        refine OG.yield (Yield.move rfl) rfl ?_
        refine OG.guard_yes rfl rfl rfl (by decide) ?_
        refine OG.yield (by first | exact Yield.as (Yield.lss rfl rfl) (bT (by omega)) | exact Yield.as (Yield.lss rfl rfl) (bF (by omega)) | exact Yield.lss rfl rfl) rfl ?_
        refine OG.yield (by first | exact Yield.pick_t rfl rfl | exact Yield.pick_f rfl rfl | exact Yield.pick rfl (fun _ => rfl) (fun _ => rfl)) rfl ?_
        refine OG.nil ?_
        refine QG.then ?_
        refine CG.cond_t rfl ?_
        refine CG.skip ?_
        refine QG.then ?_
        refine CG.seq ?_
        refine CG.block ?_
        obtain ⟨h1, h2⟩ := hh
        have hget : ops[i]? = some ops[i] := by simp [h1]
        have hko := hok ops[i] (List.getElem_mem h1)
        generalize ops[i] = op at hget hko
        refine CG.pure (fun w hw => (hops.old (G := [Po p acs, Rp r acs, old W]) (by repeat (first | exact Ext.here | apply Ext.there))).elem_shape POp.len (by decide) h1 w hw) ?_
        rintro ⟨b, o, rfl⟩
        obtain ⟨Kind, Part, Chn, Ba, Bc, Bs⟩ := op
        have hBc := hko.Bc
        have hB := hko.B
        have hBm := hko.Bm
        dsimp only at hBc hB hBm
        clear hko
        unfold reachBytes at hBm
        have hrow : ∀ {G R : List HProp}, Ext G (old W) R → Row W G b (o + i * 4) (POp.cells ⟨Kind, Part, Chn, Ba, Bc, Bs⟩) := fun x => (hops.old x).elem POp.len hget
        refine CG.seq ?_
        refine CG.region ?_
        refine OG.yield (Yield.move rfl) rfl ?_
        refine OG.yield (Yield.move rfl) rfl ?_
        refine OG.yield (Yield.index_slice Try.underlying43 ti51 rfl rfl (by omega) (by omega)) rfl ?_
        refine OG.yield (Yield.load_agg (vs := POp.cells ⟨Kind, Part, Chn, Ba, Bc, Bs⟩) ti51 rfl rfl (hrow (by repeat (first | exact Ext.here | apply Ext.there)))) rfl ?_
        refine OG.effd (Eff.alloc ti51) rfl ?_
        rintro b10 -
        refine OG.eff (Eff.storeAll ti51 rfl rfl (by repeat (first | exact Foc.here | apply Foc.there)) (POp.len ⟨Kind, Part, Chn, Ba, Bc, Bs⟩) (POp.ones ⟨Kind, Part, Chn, Ba, Bc, Bs⟩) rfl) rfl ?_
        rintro ⟨⟩ -
        refine OG.nil ?_
        refine QG.then ?_
        refine CG.seq ?_
        refine CG.region ?_
        refine OG.effd (Eff.lit0 Try.underlying49 ti5 rfl) rfl ?_
        rintro b63 -
        refine OG.yield (Yield.fieldAddr fa51_3 rfl) rfl ?_
        refine OG.yield (Yield.load (v := .slice Ba Bs.length Bc) ti49 rfl (Cel.of_blk (b := b10) (by repeat (first | exact Ext.here | apply Ext.there)) rfl)) rfl ?_
        refine OG.effd (Eff.appendB (a := some ⟨b63, 0, none⟩) (c := 0) (bs := []) (ys := Bs) rfl rfl rfl Try.underlying49 Try.underlying49 ti5 (by decide) (by repeat (first | exact Foc.here | apply Foc.there)) (hB.old (by repeat (first | exact Ext.here | apply Ext.there))) (by simp only [List.length_nil]; omega)) rfl ?_
        rintro ⟨a66, c66⟩ -
        rw [List.nil_append]
        refine OG.yield (Yield.assign rfl) rfl ?_
        refine OG.nil ?_
        refine QG.then ?_
        refine CG.seq ?_
        refine CG.region ?_
        refine OG.yield (Yield.assign rfl) rfl ?_
        refine OG.nil ?_
        refine QG.then ?_
        refine CG.cut (fun x : List AC × Nat => Smp x.1) (fun x => [(1, .slice (some ⟨b, o, none⟩) ops.length c1), (6, .pointer (some ⟨x.2, 0, none⟩)), (7, .pointer (some ⟨r, 0, none⟩)), (9, .int .i64 i), (12, .bool true)]) (fun x => [Po x.2 x.1, Rp r x.1, old W]) ?_ ?_
        · skip
          refine CG.seq ?_
          refine CG.region ?_
          refine OG.yield (Yield.fieldAddr fa51_0 rfl) rfl ?_
          refine OG.yield (Yield.load (v := .int .i64 Kind) ti3 rfl (Cel.of_blk (b := b10) (by repeat (first | exact Ext.here | apply Ext.there)) rfl)) rfl ?_
          refine OG.nil ?_
          refine QG.then ?_
          refine CG.block ?_
          refine CG.seq ?_
          refine CG.region ?_
          refine OG.yield (Yield.eql rfl rfl) rfl ?_
          refine OG.yield (Yield.assign rfl) rfl ?_
          refine OG.nil ?_
          refine QG.then ?_
          refine CG.cond rfl (fun hc => ?_) (fun hc => ?_)
          · try replace hc := of_decide_eq_true hc
            refine CG.seq ?_
            rcases (show (Chn < 0 ∨ (acs.length : Int) ≤ Chn) ∨ ∃ m : Nat, Chn = m ∧ m < acs.length from if h : Chn < 0 ∨ (acs.length : Int) ≤ Chn then .inl h else .inr ⟨Chn.toNat, by omega, by omega⟩) with hh | ⟨m, rfl, hm⟩
            · skip
              refine CG.draw (.look 0 1 (.look 1 1 (.look 2 1 (.look 3 1 (.look 4 1 (.look 5 1 (.look 7 0 (.look 8 0 (.look 9 0 (.look 10 0 (.look 11 0 (.look 12 0 (.look 13 0 (.eff1 6 false (.eff1 14 false (.look 15 1 (.look 16 1 (.look 17 1 (.look 18 1 (.look 19 1 (.look 20 1 (.look 21 1 (.look 22 1 (.look 23 1 (.look 24 1 (.done)))))))))))))))))))))))))) [6, 14] [] ([blk b10 (POp.cells ⟨Kind, Part, Chn, Ba, Bc, Bs⟩) 51]) ([]) mixed (by kernel_rfl) (by repeat (first | exact Imp.refl _ | exact Imp.none _ | apply Imp.pull (by repeat (first | exact Ext.here | apply Ext.there)) | apply Imp.trans Imp.drop)) (Imp.none _) ?_
              refine DG.look rfl rfl (Yield.move rfl) rfl ?_
              refine DG.look rfl rfl (Yield.fieldAddr fa51_1 rfl) rfl ?_
              refine DG.look rfl rfl (Yield.load (v := .int .i64 Part) ti3 rfl (Cel.of_blk (b := b10) (by repeat (first | exact Ext.here | apply Ext.there)) rfl)) rfl ?_
              refine DG.look rfl rfl (Yield.fieldAddr fa51_2 rfl) rfl ?_
              refine DG.look rfl rfl (Yield.load (v := .int .i64 Chn) ti3 rfl (Cel.of_blk (b := b10) (by repeat (first | exact Ext.here | apply Ext.there)) rfl)) rfl ?_
              refine DG.look rfl rfl (Yield.move rfl) rfl ?_
              refine DG.look rfl rfl (Yield.move rfl) rfl ?_
              refine DG.look rfl rfl (Yield.fieldAddr fa51_1 rfl) rfl ?_
              refine DG.look rfl rfl (Yield.load (v := .int .i64 Part) ti3 rfl (Cel.of_blk (b := b10) (by repeat (first | exact Ext.here | apply Ext.there)) rfl)) rfl ?_
              refine DG.look rfl rfl (Yield.fieldAddr fa51_2 rfl) rfl ?_
              refine DG.look rfl rfl (Yield.load (v := .int .i64 Chn) ti3 rfl (Cel.of_blk (b := b10) (by repeat (first | exact Ext.here | apply Ext.there)) rfl)) rfl ?_
              refine DG.look rfl rfl (Yield.fieldAddr fa51_3 rfl) rfl ?_
              refine DG.look rfl rfl (Yield.load (v := .slice Ba Bs.length Bc) ti49 rfl (Cel.of_blk (b := b10) (by repeat (first | exact Ext.here | apply Ext.there)) rfl)) rfl ?_
              refine DG.eff1 ?_
              refine Chg.callo rfl rfl call23 rfl ((by repeat (first | exact Imp.refl _ | exact Imp.none _ | apply Imp.pull (by repeat (first | exact Ext.here | apply Ext.there)) | apply Imp.trans Imp.drop))) (send_out W _ (p := p) (acs := acs) Part Chn (a := a66) (m := Bs.length) (c := c66) hh) rfl (fun _ => (by repeat (first | exact Imp.refl _ | exact Imp.none _ | apply Imp.pull (by repeat (first | exact Ext.here | apply Ext.there)) | apply Imp.trans Imp.drop))) (fun _ => Imp.refl _) (fun _ => (by repeat (first | exact Imp.refl _ | exact Imp.none _ | apply Imp.pull (by repeat (first | exact Ext.here | apply Ext.there)) | apply Imp.trans Imp.drop))) ?_
              rintro ⟨⟩ -
              refine DG.eff1 ?_
              refine Chg.callo rfl rfl call35 rfl ((by repeat (first | exact Imp.refl _ | exact Imp.none _ | apply Imp.pull (by repeat (first | exact Ext.here | apply Ext.there)) | apply Imp.trans Imp.drop))) (rsend_out W _ (r := r) (acs := acs) Part Chn (a := Ba) (m := Bs.length) (c := Bc) hh) rfl (fun _ => (by repeat (first | exact Imp.refl _ | exact Imp.none _ | apply Imp.pull (by repeat (first | exact Ext.here | apply Ext.there)) | apply Imp.trans Imp.drop))) (fun _ => Imp.refl _) (fun _ => (by repeat (first | exact Imp.refl _ | exact Imp.none _ | apply Imp.pull (by repeat (first | exact Ext.here | apply Ext.there)) | apply Imp.trans Imp.drop))) ?_
              rintro ⟨⟩ -
              refine DG.look rfl rfl (Yield.as (Yield.eql rfl rfl) (bT rfl)) rfl ?_
              refine DG.look rfl rfl (Yield.move rfl) rfl ?_
              refine DG.look rfl rfl (Yield.move rfl) rfl ?_
              refine DG.look rfl rfl (Yield.toStr (bs := Bs) Try.underlying49 Try.underlying9 Try.underlying5 rfl (SlR.of_osl (E := 5) (a := a66) (c := c66) (by repeat (first | exact Ext.here | apply Ext.there)))) rfl ?_
              refine DG.look rfl rfl (Yield.fieldAddr fa51_3 rfl) rfl ?_
              refine DG.look rfl rfl (Yield.load (v := .slice Ba Bs.length Bc) ti49 rfl (Cel.of_blk (b := b10) (by repeat (first | exact Ext.here | apply Ext.there)) rfl)) rfl ?_
              refine DG.look rfl rfl (Yield.toStr (bs := Bs) Try.underlying49 Try.underlying9 Try.underlying5 rfl (hB.old (by repeat (first | exact Ext.here | apply Ext.there)))) rfl ?_
              refine DG.look rfl rfl (Yield.as (Yield.str_eql rfl rfl) (v' := .bool true) (by simp)) rfl ?_
              refine DG.look rfl rfl (by first | exact Yield.pick_t rfl rfl | exact Yield.pick_f rfl rfl | exact Yield.pick rfl (fun _ => rfl) (fun _ => rfl)) rfl ?_
              refine DG.look rfl rfl (Yield.assign rfl) rfl ?_
              refine DG.done ?_
              refine QG.then ?_
              refine CG.region ?_
              refine OG.yield (Yield.move rfl) rfl ?_
              refine OG.effd (Eff.lit1 Try.underlying65 ti49 rfl rfl rfl) rfl ?_
              rintro b115 -
              refine OG.callo call36 rfl (Imp.trans (Imp.trans (Imp.pull (A := Msg.own ⟨a66, c66, Bs⟩) (by repeat (first | exact Ext.here | apply Ext.there)) (Imp.refl _)) pool_one) (Imp.pull (A := oend ⟨some ⟨b115, 0, none⟩, 1, [⟨a66, c66, Bs⟩]⟩) (by repeat (first | exact Ext.here | apply Ext.there)) (Imp.refl _))) (spoil_spec W _ (y := ⟨some ⟨b115, 0, none⟩, 1, [⟨a66, c66, Bs⟩]⟩) (by simp) (fun m hm => by simp only [List.mem_cons, List.not_mem_nil, or_false] at hm; subst hm; show Bs.length ≤ _; omega)) rfl ?_
              rintro ⟨⟩ -
              refine OG.nil ?_
              refine QG.block_normal ?_
              exact QG.mid (acs, p) hsm (by repeat (first | exact Env.sub_nil _ | refine Env.sub_cons rfl ?_)) (by repeat (first | exact Imp.refl _ | exact Imp.none _ | apply Imp.pull (by repeat (first | exact Ext.here | apply Ext.there)) | apply Imp.trans Imp.drop))
            · skip
              have hgm : acs[m]? = some acs[m] := by simp [hm]
              generalize acs[m] = am at hgm
              refine CG.draw (.look 0 1 (.look 1 1 (.look 2 1 (.look 3 1 (.look 4 1 (.look 5 1 (.look 7 0 (.look 8 0 (.look 9 0 (.look 10 0 (.look 11 0 (.look 12 0 (.look 13 0 (.eff1 6 false (.eff1 14 false (.look 15 1 (.look 16 1 (.look 17 1 (.look 18 1 (.look 19 1 (.look 20 1 (.look 21 1 (.look 22 1 (.look 23 1 (.look 24 1 (.done)))))))))))))))))))))))))) [6, 14] [] ([blk b10 (POp.cells ⟨Kind, Part, (m : Int), Ba, Bc, Bs⟩) 51]) ([]) mixed (by kernel_rfl) (by repeat (first | exact Imp.refl _ | exact Imp.none _ | apply Imp.pull (by repeat (first | exact Ext.here | apply Ext.there)) | apply Imp.trans Imp.drop)) (Imp.none _) ?_
              refine DG.look rfl rfl (Yield.move rfl) rfl ?_
              refine DG.look rfl rfl (Yield.fieldAddr fa51_1 rfl) rfl ?_
              refine DG.look rfl rfl (Yield.load (v := .int .i64 Part) ti3 rfl (Cel.of_blk (b := b10) (by repeat (first | exact Ext.here | apply Ext.there)) rfl)) rfl ?_
              refine DG.look rfl rfl (Yield.fieldAddr fa51_2 rfl) rfl ?_
              refine DG.look rfl rfl (Yield.load (v := .int .i64 (m : Int)) ti3 rfl (Cel.of_blk (b := b10) (by repeat (first | exact Ext.here | apply Ext.there)) rfl)) rfl ?_
              refine DG.look rfl rfl (Yield.move rfl) rfl ?_
              refine DG.look rfl rfl (Yield.move rfl) rfl ?_
              refine DG.look rfl rfl (Yield.fieldAddr fa51_1 rfl) rfl ?_
              refine DG.look rfl rfl (Yield.load (v := .int .i64 Part) ti3 rfl (Cel.of_blk (b := b10) (by repeat (first | exact Ext.here | apply Ext.there)) rfl)) rfl ?_
              refine DG.look rfl rfl (Yield.fieldAddr fa51_2 rfl) rfl ?_
              refine DG.look rfl rfl (Yield.load (v := .int .i64 (m : Int)) ti3 rfl (Cel.of_blk (b := b10) (by repeat (first | exact Ext.here | apply Ext.there)) rfl)) rfl ?_
              refine DG.look rfl rfl (Yield.fieldAddr fa51_3 rfl) rfl ?_
              refine DG.look rfl rfl (Yield.load (v := .slice Ba Bs.length Bc) ti49 rfl (Cel.of_blk (b := b10) (by repeat (first | exact Ext.here | apply Ext.there)) rfl)) rfl ?_
              refine DG.eff1 ?_
              refine Chg.callo rfl rfl call23 rfl ((by repeat (first | exact Imp.refl _ | exact Imp.none _ | apply Imp.pull (by repeat (first | exact Ext.here | apply Ext.there)) | apply Imp.trans Imp.drop))) (send_in W _ (p := p) (acs := acs) (n := m) (ac := am) Part (a := a66) (c := c66) (bs := Bs) (by exact SlR.of_osl (E := 5) (a := a66) (c := c66) (by repeat (first | exact Ext.here | apply Ext.there))) (by omega) hgm) rfl (fun _ => (by repeat (first | exact Imp.refl _ | exact Imp.none _ | apply Imp.pull (by repeat (first | exact Ext.here | apply Ext.there)) | apply Imp.trans Imp.drop))) (fun _ => Imp.refl _) (fun _ => (by repeat (first | exact Imp.refl _ | exact Imp.none _ | apply Imp.pull (by repeat (first | exact Ext.here | apply Ext.there)) | apply Imp.trans Imp.drop))) ?_
              rintro ⟨⟩ -
              refine DG.eff1 ?_
              refine Chg.callo rfl rfl call35 rfl ((by repeat (first | exact Imp.refl _ | exact Imp.none _ | apply Imp.pull (by repeat (first | exact Ext.here | apply Ext.there)) | apply Imp.trans Imp.drop))) (rsend_in W _ (r := r) (acs := acs) (n := m) (ac := am) Part (a := Ba) (c := Bc) (bs := Bs) (by exact hB.old (by repeat (first | exact Ext.here | apply Ext.there))) (by omega) hgm) rfl (fun _ => (by repeat (first | exact Imp.refl _ | exact Imp.none _ | apply Imp.pull (by repeat (first | exact Ext.here | apply Ext.there)) | apply Imp.trans Imp.drop))) (fun _ => Imp.refl _) (fun _ => (by repeat (first | exact Imp.refl _ | exact Imp.none _ | apply Imp.pull (by repeat (first | exact Ext.here | apply Ext.there)) | apply Imp.trans Imp.drop))) ?_
              rintro ⟨⟩ -
              refine DG.look rfl rfl (Yield.as (Yield.eql rfl rfl) (bT rfl)) rfl ?_
              refine DG.look rfl rfl (Yield.move rfl) rfl ?_
              refine DG.look rfl rfl (Yield.move rfl) rfl ?_
              refine DG.look rfl rfl (Yield.toStr (bs := Bs) Try.underlying49 Try.underlying9 Try.underlying5 rfl (SlR.of_osl (E := 5) (a := a66) (c := c66) (by repeat (first | exact Ext.here | apply Ext.there)))) rfl ?_
              refine DG.look rfl rfl (Yield.fieldAddr fa51_3 rfl) rfl ?_
              refine DG.look rfl rfl (Yield.load (v := .slice Ba Bs.length Bc) ti49 rfl (Cel.of_blk (b := b10) (by repeat (first | exact Ext.here | apply Ext.there)) rfl)) rfl ?_
              refine DG.look rfl rfl (Yield.toStr (bs := Bs) Try.underlying49 Try.underlying9 Try.underlying5 rfl (hB.old (by repeat (first | exact Ext.here | apply Ext.there)))) rfl ?_
              refine DG.look rfl rfl (Yield.as (Yield.str_eql rfl rfl) (v' := .bool true) (by simp)) rfl ?_
              refine DG.look rfl rfl (by first | exact Yield.pick_t rfl rfl | exact Yield.pick_f rfl rfl | exact Yield.pick rfl (fun _ => rfl) (fun _ => rfl)) rfl ?_
              refine DG.look rfl rfl (Yield.assign rfl) rfl ?_
              refine DG.done ?_
              refine QG.then ?_
              refine CG.region ?_
              refine OG.yield (Yield.move rfl) rfl ?_
              refine OG.effd (Eff.lit1 Try.underlying65 ti49 rfl rfl rfl) rfl ?_
              rintro b115 -
              refine OG.callo call36 rfl (Imp.trans (Imp.trans (Imp.pull (A := Msg.own ⟨a66, c66, Bs⟩) (by repeat (first | exact Ext.here | apply Ext.there)) (Imp.refl _)) pool_one) (Imp.pull (A := oend ⟨some ⟨b115, 0, none⟩, 1, [⟨a66, c66, Bs⟩]⟩) (by repeat (first | exact Ext.here | apply Ext.there)) (Imp.refl _))) (spoil_spec W _ (y := ⟨some ⟨b115, 0, none⟩, 1, [⟨a66, c66, Bs⟩]⟩) (by simp) (fun m hm => by simp only [List.mem_cons, List.not_mem_nil, or_false] at hm; subst hm; show Bs.length ≤ _; omega)) rfl ?_
              rintro ⟨⟩ -
              refine OG.nil ?_
              refine QG.block_normal ?_
              exact QG.mid (acs.set m (sendR am Part Bs).2, p) (smp_send hsm hgm Part Bs) (by repeat (first | exact Env.sub_nil _ | refine Env.sub_cons rfl ?_)) (by repeat (first | exact Imp.refl _ | exact Imp.none _ | apply Imp.pull (by repeat (first | exact Ext.here | apply Ext.there)) | apply Imp.trans Imp.drop))
          · try replace hc := of_decide_eq_false hc
            refine CG.seq ?_
            refine CG.region ?_
            refine OG.yield (Yield.eql rfl rfl) rfl ?_
            refine OG.yield (Yield.assign rfl) rfl ?_
            refine OG.nil ?_
            refine QG.then ?_
            refine CG.cond rfl (fun hc => ?_) (fun hc => ?_)
            · try replace hc := of_decide_eq_true hc
              refine CG.seq ?_
              rcases recv_cases acs Chn Part with hh | ⟨m, am, rfl, hgm, hne⟩ | ⟨m, am, x, rest, rfl, hgm, hto, hr⟩
              · skip
                refine CG.region ?_
                refine OG.yield (Yield.move rfl) rfl ?_
                refine OG.yield (Yield.fieldAddr fa51_1 rfl) rfl ?_
                refine OG.yield (Yield.load (v := .int .i64 Part) ti3 rfl (Cel.of_blk (b := b10) (by repeat (first | exact Ext.here | apply Ext.there)) rfl)) rfl ?_
                refine OG.yield (Yield.fieldAddr fa51_2 rfl) rfl ?_
                refine OG.yield (Yield.load (v := .int .i64 Chn) ti3 rfl (Cel.of_blk (b := b10) (by repeat (first | exact Ext.here | apply Ext.there)) rfl)) rfl ?_
                refine OG.callo call25 rfl ((by repeat (first | exact Imp.refl _ | exact Imp.none _ | apply Imp.pull (by repeat (first | exact Ext.here | apply Ext.there)) | apply Imp.trans Imp.drop))) (recv_out W _ (p := p) (acs := acs) Part Chn hh) rfl ?_
                rintro ⟨⟩ -
                refine OG.yield (Yield.move rfl) rfl ?_
                refine OG.yield (Yield.extract rfl rfl) rfl ?_
                refine OG.yield (Yield.extract rfl rfl) rfl ?_
                refine OG.yield (Yield.assign rfl) rfl ?_
                refine OG.yield (Yield.assign rfl) rfl ?_
                refine OG.nil ?_
                refine QG.then ?_
                refine CG.seq ?_
                refine CG.region ?_
                refine OG.yield (Yield.move rfl) rfl ?_
                refine OG.yield (Yield.fieldAddr fa51_1 rfl) rfl ?_
                refine OG.yield (Yield.load (v := .int .i64 Part) ti3 rfl (Cel.of_blk (b := b10) (by repeat (first | exact Ext.here | apply Ext.there)) rfl)) rfl ?_
                refine OG.yield (Yield.fieldAddr fa51_2 rfl) rfl ?_
                refine OG.yield (Yield.load (v := .int .i64 Chn) ti3 rfl (Cel.of_blk (b := b10) (by repeat (first | exact Ext.here | apply Ext.there)) rfl)) rfl ?_
                refine OG.callo call37 rfl ((by repeat (first | exact Imp.refl _ | exact Imp.none _ | apply Imp.pull (by repeat (first | exact Ext.here | apply Ext.there)) | apply Imp.trans Imp.drop))) (rrecv_out W _ (r := r) (acs := acs) Part Chn hh) rfl ?_
                rintro ⟨⟩ -
                refine OG.yield (Yield.move rfl) rfl ?_
                refine OG.yield (Yield.extract rfl rfl) rfl ?_
                refine OG.yield (Yield.extract rfl rfl) rfl ?_
                refine OG.yield (Yield.assign rfl) rfl ?_
                refine OG.yield (Yield.assign rfl) rfl ?_
                refine OG.nil ?_
                refine QG.then ?_
                refine CG.seq ?_
                refine CG.region ?_
                refine OG.yield (Yield.move rfl) rfl ?_
                refine OG.yield (Yield.move rfl) rfl ?_
                refine OG.yield (Yield.as (Yield.eql rfl rfl) (bT rfl)) rfl ?_
                refine OG.yield (Yield.move rfl) rfl ?_
                refine OG.guard_yes rfl rfl rfl (by decide) ?_
                refine OG.yield (Yield.move rfl) rfl ?_
                refine OG.guard_yes rfl rfl rfl (by decide) ?_
                refine OG.yield (Yield.toStr (bs := []) Try.underlying49 Try.underlying9 Try.underlying5 rfl SlR.nil) rfl ?_
                refine OG.guard_yes rfl rfl rfl (by decide) ?_
                refine OG.yield (Yield.move rfl) rfl ?_
                refine OG.guard_yes rfl rfl rfl (by decide) ?_
                refine OG.yield (Yield.toStr (bs := []) Try.underlying49 Try.underlying9 Try.underlying5 rfl SlR.nil) rfl ?_
                refine OG.guard_yes rfl rfl rfl (by decide) ?_
                refine OG.yield (Yield.as (Yield.str_eql rfl rfl) (v' := .bool true) (by simp)) rfl ?_
                refine OG.yield (by first | exact Yield.pick_t rfl rfl | exact Yield.pick_f rfl rfl | exact Yield.pick rfl (fun _ => rfl) (fun _ => rfl)) rfl ?_
                refine OG.yield (Yield.assign rfl) rfl ?_
                refine OG.nil ?_
                refine QG.then ?_
                refine CG.region ?_
                refine OG.yield (Yield.move rfl) rfl ?_
                refine OG.effd (Eff.lit1 Try.underlying65 ti49 rfl rfl rfl) rfl ?_
                rintro b148 -
                refine OG.callo call36 rfl (Imp.trans (Imp.trans (oby_nil (E := 5)) (pool_one (m := ⟨none, 0, []⟩))) (Imp.pull (A := oend ⟨some ⟨b148, 0, none⟩, 1, [⟨none, 0, []⟩]⟩) (by repeat (first | exact Ext.here | apply Ext.there)) (Imp.refl _))) (spoil_spec W _ (y := ⟨some ⟨b148, 0, none⟩, 1, [⟨none, 0, []⟩]⟩) (by simp) (fun m hm => by simp only [List.mem_cons, List.not_mem_nil, or_false] at hm; subst hm; simp)) rfl ?_
                rintro ⟨⟩ -
                refine OG.nil ?_
                refine QG.block_normal ?_
                exact QG.mid (acs, p) hsm (by repeat (first | exact Env.sub_nil _ | refine Env.sub_cons rfl ?_)) (by repeat (first | exact Imp.refl _ | exact Imp.none _ | apply Imp.pull (by repeat (first | exact Ext.here | apply Ext.there)) | apply Imp.trans Imp.drop))
              · skip
                refine CG.region ?_
                refine OG.yield (Yield.move rfl) rfl ?_
                refine OG.yield (Yield.fieldAddr fa51_1 rfl) rfl ?_
                refine OG.yield (Yield.load (v := .int .i64 Part) ti3 rfl (Cel.of_blk (b := b10) (by repeat (first | exact Ext.here | apply Ext.there)) rfl)) rfl ?_
                refine OG.yield (Yield.fieldAddr fa51_2 rfl) rfl ?_
                refine OG.yield (Yield.load (v := .int .i64 (m : Int)) ti3 rfl (Cel.of_blk (b := b10) (by repeat (first | exact Ext.here | apply Ext.there)) rfl)) rfl ?_
                refine OG.callo call25 rfl ((by repeat (first | exact Imp.refl _ | exact Imp.none _ | apply Imp.pull (by repeat (first | exact Ext.here | apply Ext.there)) | apply Imp.trans Imp.drop))) (recv_bad W _ (p := p) (acs := acs) (n := m) (ac := am) Part hgm hne) rfl ?_
                rintro ⟨⟩ -
                refine OG.yield (Yield.move rfl) rfl ?_
                refine OG.yield (Yield.extract rfl rfl) rfl ?_
                refine OG.yield (Yield.extract rfl rfl) rfl ?_
                refine OG.yield (Yield.assign rfl) rfl ?_
                refine OG.yield (Yield.assign rfl) rfl ?_
                refine OG.nil ?_
                refine QG.then ?_
                refine CG.seq ?_
                refine CG.region ?_
                refine OG.yield (Yield.move rfl) rfl ?_
                refine OG.yield (Yield.fieldAddr fa51_1 rfl) rfl ?_
                refine OG.yield (Yield.load (v := .int .i64 Part) ti3 rfl (Cel.of_blk (b := b10) (by repeat (first | exact Ext.here | apply Ext.there)) rfl)) rfl ?_
                refine OG.yield (Yield.fieldAddr fa51_2 rfl) rfl ?_
                refine OG.yield (Yield.load (v := .int .i64 (m : Int)) ti3 rfl (Cel.of_blk (b := b10) (by repeat (first | exact Ext.here | apply Ext.there)) rfl)) rfl ?_
                refine OG.callo call37 rfl ((by repeat (first | exact Imp.refl _ | exact Imp.none _ | apply Imp.pull (by repeat (first | exact Ext.here | apply Ext.there)) | apply Imp.trans Imp.drop))) (rrecv_bad W _ (r := r) (acs := acs) (n := m) (ac := am) Part hgm hne) rfl ?_
                rintro ⟨⟩ -
                refine OG.yield (Yield.move rfl) rfl ?_
                refine OG.yield (Yield.extract rfl rfl) rfl ?_
                refine OG.yield (Yield.extract rfl rfl) rfl ?_
                refine OG.yield (Yield.assign rfl) rfl ?_
                refine OG.yield (Yield.assign rfl) rfl ?_
                refine OG.nil ?_
                refine QG.then ?_
                refine CG.seq ?_
                refine CG.region ?_
                refine OG.yield (Yield.move rfl) rfl ?_
                refine OG.yield (Yield.move rfl) rfl ?_
                refine OG.yield (Yield.as (Yield.eql rfl rfl) (bT rfl)) rfl ?_
                refine OG.yield (Yield.move rfl) rfl ?_
                refine OG.guard_yes rfl rfl rfl (by decide) ?_
                refine OG.yield (Yield.move rfl) rfl ?_
                refine OG.guard_yes rfl rfl rfl (by decide) ?_
                refine OG.yield (Yield.toStr (bs := []) Try.underlying49 Try.underlying9 Try.underlying5 rfl SlR.nil) rfl ?_
                refine OG.guard_yes rfl rfl rfl (by decide) ?_
                refine OG.yield (Yield.move rfl) rfl ?_
                refine OG.guard_yes rfl rfl rfl (by decide) ?_
                refine OG.yield (Yield.toStr (bs := []) Try.underlying49 Try.underlying9 Try.underlying5 rfl SlR.nil) rfl ?_
                refine OG.guard_yes rfl rfl rfl (by decide) ?_
                refine OG.yield (Yield.as (Yield.str_eql rfl rfl) (v' := .bool true) (by simp)) rfl ?_
                refine OG.yield (by first | exact Yield.pick_t rfl rfl | exact Yield.pick_f rfl rfl | exact Yield.pick rfl (fun _ => rfl) (fun _ => rfl)) rfl ?_
                refine OG.yield (Yield.assign rfl) rfl ?_
                refine OG.nil ?_
                refine QG.then ?_
                refine CG.region ?_
                refine OG.yield (Yield.move rfl) rfl ?_
                refine OG.effd (Eff.lit1 Try.underlying65 ti49 rfl rfl rfl) rfl ?_
                rintro b148 -
                refine OG.callo call36 rfl (Imp.trans (Imp.trans (oby_nil (E := 5)) (pool_one (m := ⟨none, 0, []⟩))) (Imp.pull (A := oend ⟨some ⟨b148, 0, none⟩, 1, [⟨none, 0, []⟩]⟩) (by repeat (first | exact Ext.here | apply Ext.there)) (Imp.refl _))) (spoil_spec W _ (y := ⟨some ⟨b148, 0, none⟩, 1, [⟨none, 0, []⟩]⟩) (by simp) (fun m hm => by simp only [List.mem_cons, List.not_mem_nil, or_false] at hm; subst hm; simp)) rfl ?_
                rintro ⟨⟩ -
                refine OG.nil ?_
                refine QG.block_normal ?_
                exact QG.mid (acs, p) hsm (by repeat (first | exact Env.sub_nil _ | refine Env.sub_cons rfl ?_)) (by repeat (first | exact Imp.refl _ | exact Imp.none _ | apply Imp.pull (by repeat (first | exact Ext.here | apply Ext.there)) | apply Imp.trans Imp.drop))
              · skip
                have hxl : x.length ≤ 64 := (hao am (List.mem_of_getElem? hgm)).rl x (by rw [hr]; simp)
                refine CG.region ?_
                refine OG.yield (Yield.move rfl) rfl ?_
                refine OG.yield (Yield.fieldAddr fa51_1 rfl) rfl ?_
                refine OG.yield (Yield.load (v := .int .i64 Part) ti3 rfl (Cel.of_blk (b := b10) (by repeat (first | exact Ext.here | apply Ext.there)) rfl)) rfl ?_
                refine OG.yield (Yield.fieldAddr fa51_2 rfl) rfl ?_
                refine OG.yield (Yield.load (v := .int .i64 (m : Int)) ti3 rfl (Cel.of_blk (b := b10) (by repeat (first | exact Ext.here | apply Ext.there)) rfl)) rfl ?_
                refine OG.callo call25 rfl ((by repeat (first | exact Imp.refl _ | exact Imp.none _ | apply Imp.pull (by repeat (first | exact Ext.here | apply Ext.there)) | apply Imp.trans Imp.drop))) (recv_ok W _ (p := p) (acs := acs) (n := m) (ac := am) Part (m := x) (rest := rest) hgm hto hr) rfl ?_
                rintro bz -
                refine OG.yield (Yield.move rfl) rfl ?_
                refine OG.yield (Yield.extract rfl rfl) rfl ?_
                refine OG.yield (Yield.extract rfl rfl) rfl ?_
                refine OG.yield (Yield.assign rfl) rfl ?_
                refine OG.yield (Yield.assign rfl) rfl ?_
                refine OG.nil ?_
                refine QG.then ?_
                refine CG.seq ?_
                refine CG.region ?_
                refine OG.yield (Yield.move rfl) rfl ?_
                refine OG.yield (Yield.fieldAddr fa51_1 rfl) rfl ?_
                refine OG.yield (Yield.load (v := .int .i64 Part) ti3 rfl (Cel.of_blk (b := b10) (by repeat (first | exact Ext.here | apply Ext.there)) rfl)) rfl ?_
                refine OG.yield (Yield.fieldAddr fa51_2 rfl) rfl ?_
                refine OG.yield (Yield.load (v := .int .i64 (m : Int)) ti3 rfl (Cel.of_blk (b := b10) (by repeat (first | exact Ext.here | apply Ext.there)) rfl)) rfl ?_
                refine OG.callo call37 rfl ((by repeat (first | exact Imp.refl _ | exact Imp.none _ | apply Imp.pull (by repeat (first | exact Ext.here | apply Ext.there)) | apply Imp.trans Imp.drop))) (rrecv_ok W _ (r := r) (acs := acs) (n := m) (ac := am) Part (m := x) (rest := rest) hgm hto hr) rfl ?_
                rintro ⟨az, cz'⟩ -
                refine OG.yield (Yield.move rfl) rfl ?_
                refine OG.yield (Yield.extract rfl rfl) rfl ?_
                refine OG.yield (Yield.extract rfl rfl) rfl ?_
                refine OG.yield (Yield.assign rfl) rfl ?_
                refine OG.yield (Yield.assign rfl) rfl ?_
                refine OG.nil ?_
                refine QG.then ?_
                refine CG.seq ?_
                refine CG.region ?_
                refine OG.yield (Yield.move rfl) rfl ?_
                refine OG.yield (Yield.move rfl) rfl ?_
                refine OG.yield (Yield.as (Yield.eql rfl rfl) (bT rfl)) rfl ?_
                refine OG.yield (Yield.move rfl) rfl ?_
                refine OG.guard_yes rfl rfl rfl (by decide) ?_
                refine OG.yield (Yield.move rfl) rfl ?_
                refine OG.guard_yes rfl rfl rfl (by decide) ?_
                refine OG.yield (Yield.toStr (bs := x) Try.underlying49 Try.underlying9 Try.underlying5 rfl (SlR.of_osl (E := 5) (a := some ⟨bz, 0, none⟩) (by repeat (first | exact Ext.here | apply Ext.there)))) rfl ?_
                refine OG.guard_yes rfl rfl rfl (by decide) ?_
                refine OG.yield (Yield.move rfl) rfl ?_
                refine OG.guard_yes rfl rfl rfl (by decide) ?_
                refine OG.yield (Yield.toStr (bs := x) Try.underlying49 Try.underlying9 Try.underlying5 rfl (SlR.of_osl (E := 5) (a := az) (c := cz') (by repeat (first | exact Ext.here | apply Ext.there)))) rfl ?_
                refine OG.guard_yes rfl rfl rfl (by decide) ?_
                refine OG.yield (Yield.as (Yield.str_eql rfl rfl) (v' := .bool true) (by simp)) rfl ?_
                refine OG.yield (by first | exact Yield.pick_t rfl rfl | exact Yield.pick_f rfl rfl | exact Yield.pick rfl (fun _ => rfl) (fun _ => rfl)) rfl ?_
                refine OG.yield (Yield.assign rfl) rfl ?_
                refine OG.nil ?_
                refine QG.then ?_
                refine CG.region ?_
                refine OG.yield (Yield.move rfl) rfl ?_
                refine OG.effd (Eff.lit1 Try.underlying65 ti49 rfl rfl rfl) rfl ?_
                rintro b148 -
                refine OG.callo call36 rfl (Imp.trans (Imp.trans (Imp.pull (A := Msg.own ⟨some ⟨bz, 0, none⟩, x.length, x⟩) (by repeat (first | exact Ext.here | apply Ext.there)) (Imp.refl _)) pool_one) (Imp.pull (A := oend ⟨some ⟨b148, 0, none⟩, 1, [⟨some ⟨bz, 0, none⟩, x.length, x⟩]⟩) (by repeat (first | exact Ext.here | apply Ext.there)) (Imp.refl _))) (spoil_spec W _ (y := ⟨some ⟨b148, 0, none⟩, 1, [⟨some ⟨bz, 0, none⟩, x.length, x⟩]⟩) (by simp) (fun m hm => by simp only [List.mem_cons, List.not_mem_nil, or_false] at hm; subst hm; simp only; omega)) rfl ?_
                rintro ⟨⟩ -
                refine OG.nil ?_
                refine QG.block_normal ?_
                exact QG.mid (acs.set m (if am.kind = 2 then { am with r := rest } else am), p) (hsm.set m (by have ha := hsm am (List.mem_of_getElem? hgm); split <;> exact ha)) (by repeat (first | exact Env.sub_nil _ | refine Env.sub_cons rfl ?_)) (by repeat (first | exact Imp.refl _ | exact Imp.none _ | apply Imp.pull (by repeat (first | exact Ext.here | apply Ext.there)) | apply Imp.trans Imp.drop))
            · try replace hc := of_decide_eq_false hc
              refine CG.seq ?_
              refine CG.region ?_
              refine OG.yield (Yield.eql rfl rfl) rfl ?_
              refine OG.yield (Yield.assign rfl) rfl ?_
              refine OG.nil ?_
              refine QG.then ?_
              refine CG.cond rfl (fun hc => ?_) (fun hc => ?_)
              · try replace hc := of_decide_eq_true hc
                refine CG.region ?_
                refine OG.yield (Yield.move rfl) rfl ?_
                refine OG.callo call24 rfl ((by repeat (first | exact Imp.refl _ | exact Imp.none _ | apply Imp.pull (by repeat (first | exact Ext.here | apply Ext.there)) | apply Imp.trans Imp.drop))) (transfer_spec W _ (p := p) (acs := acs)) rfl ?_
                rintro ⟨ax, cx⟩ -
                refine OG.yield (Yield.move rfl) rfl ?_
                refine OG.callo call39 rfl ((by repeat (first | exact Imp.refl _ | exact Imp.none _ | apply Imp.pull (by repeat (first | exact Ext.here | apply Ext.there)) | apply Imp.trans Imp.drop))) (rtransfer_spec W _ (r := r) (acs := acs) hsm) rfl ?_
                rintro ⟨ay, cy⟩ -
                have hwl := wentI_len acs acs.length
                refine OG.callo call38 rfl (Imp.refl _) (sameInts_spec W _ (xs := wentI acs acs.length) (by exact SlR.of_osl (E := 3) (a := ax) (c := cx) (by repeat (first | exact Ext.here | apply Ext.there))) (by exact SlR.of_osl (E := 3) (a := ay) (c := cy) (by repeat (first | exact Ext.here | apply Ext.there))) (by omega)) rfl ?_
                rintro ⟨⟩ -
                refine OG.yield (Yield.assign rfl) rfl ?_
                refine OG.nil ?_
                refine QG.block_normal ?_
                exact QG.mid (acs.map AC.tr, p) (smp_tr hsm) (by repeat (first | exact Env.sub_nil _ | refine Env.sub_cons rfl ?_)) (by repeat (first | exact Imp.refl _ | exact Imp.none _ | apply Imp.pull (by repeat (first | exact Ext.here | apply Ext.there)) | apply Imp.trans Imp.drop))
              · try replace hc := of_decide_eq_false hc
                refine CG.seq ?_
                refine CG.region ?_
                refine OG.yield (Yield.move rfl) rfl ?_
                refine OG.callo call40 rfl ((by repeat (first | exact Imp.refl _ | exact Imp.none _ | apply Imp.pull (by repeat (first | exact Ext.here | apply Ext.there)) | apply Imp.trans Imp.drop))) (clone_spec W _ (p := p) (acs := acs)) rfl ?_
                rintro u -
                refine OG.yield (Yield.assign rfl) rfl ?_
                refine OG.nil ?_
                refine QG.then ?_
                refine CG.seq ?_
                refine CG.seq ?_
                refine CG.region ?_
                refine OG.yield (Yield.move rfl) rfl ?_
                refine OG.yield (by first | exact Yield.ptr_nil Try.underlying44 rfl rfl | exact Yield.nil_nil Try.underlying44 rfl rfl) rfl ?_
                refine OG.nil ?_
                refine QG.then ?_
                refine CG.cond_f rfl ?_
                refine CG.skip ?_
                refine QG.then ?_
                refine CG.seq ?_
                refine CG.region ?_
                refine OG.yield (Yield.move rfl) rfl ?_
                refine OG.callo call24 rfl ((by repeat (first | exact Imp.refl _ | exact Imp.none _ | apply Imp.pull (by repeat (first | exact Ext.here | apply Ext.there)) | apply Imp.trans Imp.drop))) (transfer_spec W _ (p := p) (acs := acs)) rfl ?_
                rintro ⟨ax, cx⟩ -
                refine OG.nil ?_
                refine QG.then ?_
                refine CG.seq ?_
                refine CG.region ?_
                refine OG.yield (Yield.move rfl) rfl ?_
                refine OG.yield (Yield.fieldAddr fa51_1 rfl) rfl ?_
                refine OG.yield (Yield.load (v := .int .i64 Part) ti3 rfl (Cel.of_blk (b := b10) (by repeat (first | exact Ext.here | apply Ext.there)) rfl)) rfl ?_
                refine OG.yield (Yield.fieldAddr fa51_2 rfl) rfl ?_
                refine OG.yield (Yield.load (v := .int .i64 Chn) ti3 rfl (Cel.of_blk (b := b10) (by repeat (first | exact Ext.here | apply Ext.there)) rfl)) rfl ?_
                refine OG.callo call23 rfl ((by repeat (first | exact Imp.refl _ | exact Imp.none _ | apply Imp.pull (by repeat (first | exact Ext.here | apply Ext.there)) | apply Imp.trans Imp.drop))) (send_any W _ (p := p) (acs := acs.map AC.tr) Part Chn (a := none) (c := 0) (bs := []) SlR.nil (by decide)) rfl ?_
                rintro ⟨q1, acs1⟩ -
                refine OG.nil ?_
                refine QG.then ?_
                refine CG.seq ?_
                refine CG.region ?_
                refine OG.yield (Yield.move rfl) rfl ?_
                refine OG.yield (Yield.fieldAddr fa51_1 rfl) rfl ?_
                refine OG.yield (Yield.load (v := .int .i64 Part) ti3 rfl (Cel.of_blk (b := b10) (by repeat (first | exact Ext.here | apply Ext.there)) rfl)) rfl ?_
                refine OG.yield (Yield.fieldAddr fa51_2 rfl) rfl ?_
                refine OG.yield (Yield.load (v := .int .i64 Chn) ti3 rfl (Cel.of_blk (b := b10) (by repeat (first | exact Ext.here | apply Ext.there)) rfl)) rfl ?_
                refine OG.callo call25 rfl ((by repeat (first | exact Imp.refl _ | exact Imp.none _ | apply Imp.pull (by repeat (first | exact Ext.here | apply Ext.there)) | apply Imp.trans Imp.drop))) (recv_any W _ (p := p) (acs := acs1) Part Chn) rfl ?_
                rintro ⟨q2, acs2⟩ -
                refine OG.nil ?_
                refine QG.then ?_
                refine CG.region ?_
                refine OG.yield (Yield.move rfl) rfl ?_
                refine OG.yield (Yield.assign rfl) rfl ?_
                refine OG.nil ?_
                refine QG.block_normal ?_
                exact QG.mid (acs, u) hsm (by repeat (first | exact Env.sub_nil _ | refine Env.sub_cons rfl ?_)) (by repeat (first | exact Imp.refl _ | exact Imp.none _ | apply Imp.pull (by repeat (first | exact Ext.here | apply Ext.there)) | apply Imp.trans Imp.drop))
        rintro ⟨acs', p'⟩ hsm'
        dsimp only at hsm' ⊢
        refine CG.seq ?_
        refine CG.region ?_
        refine OG.yield (Yield.move rfl) rfl ?_
        refine OG.yield (Yield.not rfl) rfl ?_
        refine OG.yield (Yield.move rfl) rfl ?_
        refine OG.guard_yes rfl rfl rfl (by decide) ?_
        refine OG.yield (Yield.move rfl) rfl ?_
        refine OG.guard_yes rfl rfl rfl (by decide) ?_
        refine OG.yield (Yield.move rfl) rfl ?_
        refine OG.guard_yes rfl rfl rfl (by decide) ?_
        refine OG.callo call41 rfl ((by repeat (first | exact Imp.refl _ | exact Imp.none _ | apply Imp.pull (by repeat (first | exact Ext.here | apply Ext.there)) | apply Imp.trans Imp.drop))) (same_spec W _ (p := p') (r := r) (acs := acs')) rfl ?_
        rintro ⟨⟩ -
        refine OG.guard_yes rfl rfl rfl (by decide) ?_
        refine OG.yield (Yield.not rfl) rfl ?_
        refine OG.yield (by first | exact Yield.pick_t rfl rfl | exact Yield.pick_f rfl rfl | exact Yield.pick rfl (fun _ => rfl) (fun _ => rfl)) rfl ?_
        refine OG.nil ?_
        refine QG.then ?_
        refine CG.cond_f rfl ?_
        refine CG.skip ?_
        refine QG.block_normal ?_
        refine QG.then ?_
        refine CG.region ?_
        refine OG.yield (Yield.move rfl) rfl ?_
        refine OG.yield (Yield.add rfl rfl (w64 (by omega) (by omega))) rfl ?_
        refine OG.yield (Yield.assign rfl) rfl ?_
        refine OG.nil ?_
        exact QG.next (i + 1, acs', p') ⟨hsm', by simp only; omega, by simp only; omega⟩ (by simp only; omega) (by repeat (first | exact Env.sub_nil _ | refine Env.sub_cons rfl ?_)) (by repeat (first | exact Imp.refl _ | exact Imp.none _ | apply Imp.pull (by repeat (first | exact Ext.here | apply Ext.there)) | apply Imp.trans Imp.drop))
      · skip
        refine CG.region ?_
        refine OG.yield (Yield.move rfl) rfl ?_
        refine OG.yield (Yield.move rfl) rfl ?_
        refine OG.yield (Yield.len_slice Try.underlying43 rfl rfl) rfl ?_
        refine OG.yield (by first | exact Yield.as (Yield.lss rfl rfl) (bT (by omega)) | exact Yield.as (Yield.lss rfl rfl) (bF (by omega)) | exact Yield.lss rfl rfl) rfl ?_
        refine OG.yield (Yield.move rfl) rfl ?_
        refine OG.guard_yes rfl rfl rfl (by decide) ?_
        refine OG.yield (Yield.move rfl) rfl ?_
        refine OG.guard_yes rfl rfl rfl (by decide) ?_
        refine OG.yield (by first | exact Yield.as (Yield.lss rfl rfl) (bT (by omega)) | exact Yield.as (Yield.lss rfl rfl) (bF (by omega)) | exact Yield.lss rfl rfl) rfl ?_
        refine OG.yield (by first | exact Yield.pick_t rfl rfl | exact Yield.pick_f rfl rfl | exact Yield.pick rfl (fun _ => rfl) (fun _ => rfl)) rfl ?_
        refine OG.nil ?_
        refine QG.then ?_
        refine CG.cond_f rfl ?_
        refine CG.exit ?_
        refine QG.pass_exit ?_
        refine QG.pass_exit ?_
        refine QG.block_exit ?_
        refine QG.then ?_
        refine CG.seq ?_
        refine CG.region ?_
        refine OG.yield (Yield.move rfl) rfl ?_
        refine OG.yield (Yield.move rfl) rfl ?_
        refine OG.callo call41 rfl ((by repeat (first | exact Imp.refl _ | exact Imp.none _ | apply Imp.pull (by repeat (first | exact Ext.here | apply Ext.there)) | apply Imp.trans Imp.drop))) (same_spec W _ (p := p) (r := r) (acs := acs)) rfl ?_
        rintro ⟨⟩ -
        refine OG.yield (Yield.assign rfl) rfl ?_
        refine OG.nil ?_
        refine QG.then ?_
        refine CG.ret ?_
        exact QG.ret1 rfl rfl () trivial rfl (by repeat (first | exact Imp.refl _ | exact Imp.none _ | apply Imp.pull (by repeat (first | exact Ext.here | apply Ext.there)) | apply Imp.trans Imp.drop))
      · skip
        refine CG.region ?_
        refine OG.yield (Yield.move rfl) rfl ?_
        refine OG.yield (Yield.move rfl) rfl ?_
        refine OG.yield (Yield.len_slice Try.underlying43 rfl rfl) rfl ?_
        refine OG.yield (by first | exact Yield.as (Yield.lss rfl rfl) (bT (by omega)) | exact Yield.as (Yield.lss rfl rfl) (bF (by omega)) | exact Yield.lss rfl rfl) rfl ?_
        refine OG.yield (Yield.move rfl) rfl ?_
        refine OG.guard_no rfl rfl rfl rfl rfl (by decide) (by decide) ?_
        refine OG.guard_no rfl rfl rfl rfl rfl (by decide) (by decide) ?_
        refine OG.yield (by first | exact Yield.pick_t rfl rfl | exact Yield.pick_f rfl rfl | exact Yield.pick rfl (fun _ => rfl) (fun _ => rfl)) rfl ?_
        refine OG.nil ?_
        refine QG.then ?_
        refine CG.cond_f rfl ?_
        refine CG.exit ?_
        refine QG.pass_exit ?_
        refine QG.pass_exit ?_
        refine QG.block_exit ?_
        refine QG.then ?_
        refine CG.seq ?_
        refine CG.region ?_
        refine OG.yield (Yield.move rfl) rfl ?_
        refine OG.yield (Yield.move rfl) rfl ?_
        refine OG.callo call41 rfl ((by repeat (first | exact Imp.refl _ | exact Imp.none _ | apply Imp.pull (by repeat (first | exact Ext.here | apply Ext.there)) | apply Imp.trans Imp.drop))) (same_spec W _ (p := p) (r := r) (acs := acs)) rfl ?_
        rintro ⟨⟩ -
        refine OG.yield (Yield.assign rfl) rfl ?_
        refine OG.nil ?_
        refine QG.then ?_
        refine CG.ret ?_
        exact QG.ret1 rfl rfl () trivial rfl (by repeat (first | exact Imp.refl _ | exact Imp.none _ | apply Imp.pull (by repeat (first | exact Ext.here | apply Ext.there)) | apply Imp.trans Imp.drop))
  · skip
    refine CG.region ?_
    refine OG.yield (Yield.move rfl) rfl ?_
    refine OG.yield (Yield.len_slice Try.underlying48 rfl rfl) rfl ?_
    refine OG.yield (by first | exact Yield.as (Yield.gtr rfl rfl) (bT (by omega)) | exact Yield.as (Yield.gtr rfl rfl) (bF (by omega)) | exact Yield.gtr rfl rfl) rfl ?_
    refine OG.nil ?_
    refine QG.then ?_
    refine CG.cond_t rfl ?_
    refine CG.seq ?_
    refine CG.region ?_
    refine OG.yield (Yield.assign rfl) rfl ?_
    refine OG.nil ?_
    refine QG.then ?_
    refine CG.ret ?_
    refine QG.pass_ret ?_
    exact QG.ret1 rfl rfl () trivial rfl (by repeat (first | exact Imp.refl _ | exact Imp.none _ | apply Imp.pull (by repeat (first | exact Ext.here | apply Ext.there)) | apply Imp.trans Imp.drop))
open Go.ChangeShapes Go.WideShapes Go.ChangeAt
theorem own : ownKnob Try.prog.godebug = none := by kernel_rfl
theorem laid : laidOutB Try.prog = true := by kernel_rfl
set_option maxRecDepth 100000 in
theorem lifted (os : Os) (started : os.Started) (H : Type) (enc : TypeId × Value → H) :
    ReturnsInHanded {} Try.checked os 11 .any (Rows.portsPlaysSpec.pre6 enc Try.prog Try.f11 Rows.portsPlaysRow.domain false) (Rows.portsPlaysSpec.post enc Try.prog Try.f11 false true false false) := by
  refine returnsInHanded_of_change_sized (C := Try.checked) own started (by kernel_rfl) Try.func11
    (ChangeSpec.witness6 (enc := enc) (C := Try.checked) false ⟨#[], #[.slice none 0 0, .slice none 0 0], []⟩ 8 (by kernel_rfl) (by kernel_rfl) (by kernel_rfl) (by kernel_rfl)) ?_
  intro W base args ds gs before hval0 hW hcnd hsz0 _
  have hsz : (DataW.weightsEach Try.prog (Try.f11.params.toList ++ Rows.portsPlaysSpec.plain.varTypes Try.prog) (ds ++ gs)).all (· ≤ reachBytes) = true := hsz0
  have hval : ∀ (j : Nat) t v, Try.f11.params[j]? = some t → args[j]? = some v → Value.okWide Try.prog W .any base t v := hval0
  have hW' := hW
  obtain ⟨p, q, hA0, hV, rfl, hfz, hnd⟩ := hW
  have hA : DataW.TrodAll enc Try.prog W 0 (fun _ => true) true Try.f11.params.toList args.toList ds p := hA0
  rw [Try.params11] at hA hval hsz
  obtain ⟨v0, vs0, d0, ds0, p0, q0, hargs, rfl, rfl, h0, r0⟩ := trodAll_cons hA
  obtain ⟨v1, vs1, d1, ds1, p1, q1, rfl, rfl, rfl, h1, r1⟩ := trodAll_cons r0
  obtain ⟨rfl, rfl, rfl⟩ := trodAll_nil r1
  obtain rfl : args = #[v0, v1] := by cases args; simp_all
  obtain ⟨rfl, rfl⟩ := trodVars_none hV
  have k0 := weights_le hsz 0 (t := 48) (d := d0) rfl rfl
  have s0 := Opn.param Try.underlying48 (Cf.list W) (hval 0 48 v0 rfl rfl) h0 k0
  obtain ⟨x0, c0, l, e0, l0, ok0, s0, m0⟩ := s0
  cases e0
  have k1 := weights_le hsz 1 (t := 43) (d := d1) rfl rfl
  have s1 := Opn.param Try.underlying43 (POp.list W) (hval 1 43 v1 rfl rfl) h1 k1
  obtain ⟨x1, c1, ops, e1, l1, ok1, s1, m1⟩ := s1
  cases e1
  clear hA0 hval0 hsz0 hsz
  refine ((walk W s0 s1 ok1) W (Sat.start W)).mono fun e W' he => ?_
  obtain ⟨_, _, he, hs⟩ := he
  subst he
  exact ⟨_, rfl, law_post laid (params_ok (by kernel_rfl)) rfl Try.underlying4 hW' rfl rfl (Sat.below (by repeat (first | exact Ext.here | apply Ext.there)) hs)⟩
theorem over : Rows.portsPlaysRow.holds Try.pinned (OpenSpec.ofChange Rows.portsPlaysSpec) :=
  OpenClaim.holds_of_wide 11 Try.f11 rfl rfl rfl rfl rfl rfl rfl ⟨rfl, rfl, rfl, rfl, rfl⟩ rfl rfl rfl rfl rfl (by kernel_rfl) Try.func11 (by kernel_rfl)
    (of_decide_eq_true (by kernel_rfl)) (by unfold Func.isWrapper; first | (rw [if_pos (by decide +kernel)]; kernel_rfl) | (rw [if_neg (by decide +kernel)]; exact ⟨rfl, rfl⟩))
    (fun os started H enc _ => lifted os started H enc)
theorem proved : Rows.PortsPlaysSaid := over
#print axioms proved
end Go.Proofs.Ytjigjbcdopmeeaa.portsPlays
