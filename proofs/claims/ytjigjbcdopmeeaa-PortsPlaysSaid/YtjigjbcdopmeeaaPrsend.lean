/- The document's ports: Send, Receive, Held. -/
import Derived.Test.YtjigjbcdopmeeaaPref
namespace Go.Proofs.Ytjigjbcdopmeeaa.Po
open Go Go.Sl Go.RowKit Go.Proofs Go.Proofs.Ytjigjbcdopmeeaa.T
set_option linter.unusedVariables false
set_option linter.unusedSimpArgs false
set_option maxRecDepth 100000
section
variable (W0 : World) (Fr : List HProp)
theorem shape_rl {W0 : World} {G R : List HProp} {l : List Cf} {x : RC} {n : Nat} (h : n < l.length) (e : Ext G (RL l x) R) (w : World) (hw : Sat W0 G w) : ∃ b o, x.ca = some ⟨b, o, none⟩ :=
  (SlR.of_osl e).elem_shape (i := n) Cf.len (by decide) h w hw
theorem shape_os {W0 : World} {G R : List HProp} {E c m : Nat} {a : Option Addr} {xs : List End} (h : 0 < xs.length) (e : Ext G (osl E 1 a c m (xs.map End.cell)) R) (w : World) (hw : Sat W0 G w) : ∃ b o, a = some ⟨b, o, none⟩ :=
  SlR.shape (SlR.of_osl e) (by intro q; have := congrArg List.length q; simp only [List.length_map, List.length_nil] at this; omega) w hw
theorem rsend_out {r c : Nat} {acs : List AC} (part n : Int) {a : Option Addr} {m : Nat} (hn : n < 0 ∨ (acs.length : Int) ≤ n) : Ctr Try.prog W0 35 [.pointer (some ⟨r, 0, none⟩), .int .i64 part, .int .i64 n, .slice a m c] (Rp r acs :: Fr) (fun _ : Unit => True) (fun _ => .int .i64 210) (fun _ => Rp r acs :: Fr) := by
  refine Ctr.ex Ext.here rp_open0 ?_
  intro x hx
  refine Ctr.imp star_open ?_
  have hlen : (acs.map AC.cf).length = acs.length := List.length_map _
  have hback := rp_close0 (r := r) (G := Fr) x hx
  generalize acs.map AC.cf = l at hlen hback ⊢
  dsimp only [RO, List.cons_append, List.nil_append] at hback ⊢
  refine Ctr.of_body Try.func35 rfl Try.ntmps35 rfl ?_
  refine CG.seq ?_
  refine CG.region ?_
  refine OG.yield (Yield.assign rfl) rfl ?_
  refine OG.nil ?_
  refine QG.then ?_
  refine CG.seq ?_
  refine CG.seq ?_
  refine CG.region ?_
  refine OG.yield (Yield.move rfl) rfl ?_
  refine OG.yield (Yield.move rfl) rfl ?_
  refine OG.callo call55 rfl (Imp.refl _) (has_spec W0 _ (r := r) (m := l.length) (cc := x.cc) (ca := x.ca) n (Cel.of_blk (b := r) (by repeat (first | exact Ext.here | apply Ext.there)) rfl)) rfl ?_
  rintro ⟨⟩ -
  rw [show decide (0 ≤ n ∧ n < (l.length : Int)) = false from decide_eq_false (by omega)]
  refine OG.yield (Yield.not rfl) rfl ?_
  refine OG.yield (Yield.move rfl) rfl ?_
  refine OG.guard_no rfl rfl rfl rfl rfl (by decide) (by decide) ?_
  refine OG.guard_no rfl rfl rfl rfl rfl (by decide) (by decide) ?_
  refine OG.guard_no rfl rfl rfl rfl rfl (by decide) (by decide) ?_
  refine OG.guard_no rfl rfl rfl rfl rfl (by decide) (by decide) ?_
  refine OG.guard_no rfl rfl rfl rfl rfl (by decide) (by decide) ?_
  refine OG.guard_no rfl rfl rfl rfl rfl (by decide) (by decide) ?_
  refine OG.guard_no rfl rfl rfl rfl rfl (by decide) (by decide) ?_
  refine OG.guard_no rfl rfl rfl rfl rfl (by decide) (by decide) ?_
  refine OG.guard_no rfl rfl rfl rfl rfl (by decide) (by decide) ?_
  refine OG.guard_no rfl rfl rfl rfl rfl (by decide) (by decide) ?_
  refine OG.yield (by first | exact Yield.pick_t rfl rfl | exact Yield.pick_f rfl rfl | exact Yield.pick rfl (fun _ => rfl) (fun _ => rfl)) rfl ?_
  refine OG.nil ?_
  refine QG.then ?_
  refine CG.cond_t rfl ?_
  refine CG.seq ?_
  refine CG.region ?_
  refine OG.yield (Yield.assign rfl) rfl ?_
  refine OG.nil ?_
  refine QG.then ?_
  refine CG.ret ?_
  refine QG.pass_ret ?_
  exact QG.ret1 rfl rfl () trivial rfl (Imp.trans (by repeat (first | exact Imp.refl _ | exact Imp.none _ | apply Imp.pull (by repeat (first | exact Ext.here | apply Ext.there)) | apply Imp.trans Imp.drop)) hback)
set_option maxHeartbeats 1000000 in
theorem rsend_in {r c n : Nat} {acs : List AC} (part : Int) {a : Option Addr} {bs : B} {ac : AC} (hr : SlR W0 Fr 1 a bs.length (bytesV bs)) (hb : bs.length ≤ 2 ^ 47) (hac : acs[n]? = some ac) :
    Ctr Try.prog W0 35 [.pointer (some ⟨r, 0, none⟩), .int .i64 part, .int .i64 n, .slice a bs.length c] (Rp r acs :: Fr) (fun _ : Unit => True) (fun _ => .int .i64 (sendR ac part bs).1) (fun _ => Rp r (acs.set n (sendR ac part bs).2) :: Fr) := by
  refine Ctr.ex Ext.here rp_open0 ?_
  intro x hx
  refine Ctr.imp star_open ?_
  obtain ⟨y, z, hy, hz, hyb, hzb⟩ := hx.gx hac
  have hnl : n < acs.length := (List.getElem?_eq_some_iff.1 hac).1
  have hlx := hx.lx
  have hok := hx.ok _ (List.mem_of_getElem? hac)
  have hmy := hx.mem y (.inl (List.mem_of_getElem? hy))
  have hmz := hx.mem z (.inr (List.mem_of_getElem? hz))
  have hsl : y.ms.length ≤ 8 := by have := hok.s; rw [← hyb] at this; simpa [End.bs] using this
  have hget : (acs.map AC.cf)[n]? = some ac.cf := by rw [List.getElem?_map, hac]; rfl
  have hys : (x.xs.set n y)[n]? = some y := by rw [set_self hy]; exact hy
  have hlen : (acs.map AC.cf).length = acs.length := List.length_map _
  refine Ctr.imp (rp_open hy hz) ?_
  have hcl := @rp_close r n acs x y z
  have hback := rp_back (r := r) (G := Fr) hy hz hx hac
  generalize acs.map AC.cf = l at hget hlen hcl hback ⊢
  refine Ctr.pure (fun w hw => shape_rl (n := n) (x := x) (l := l) (by omega) (Ext.there Ext.here) w hw) ?_
  rintro ⟨b0, o0, hca⟩
  refine Ctr.pure (fun w hw => shape_os (xs := x.xs.set n y) (by rw [List.length_set]; omega) (Ext.there (Ext.there Ext.here)) w hw) ?_
  rintro ⟨b1, o1, hsa⟩
  dsimp only [RP, RH, RL, List.cons_append, List.nil_append] at hcl hback ⊢
  rw [hca, hsa] at hcl hback ⊢
  refine Ctr.of_body Try.func35 rfl Try.ntmps35 rfl ?_
  refine CG.seq ?_
  refine CG.region ?_
  refine OG.yield (Yield.assign rfl) rfl ?_
  refine OG.nil ?_
  refine QG.then ?_
  refine CG.seq ?_
  refine CG.seq ?_
  rcases (show ac.from_ ≠ part ∨ (ac.from_ = part ∧ max 0 (min ac.size 64) < (bs.length : Int)) ∨ (ac.from_ = part ∧ (bs.length : Int) ≤ max 0 (min ac.size 64) ∧ ac.kind ≠ 2) ∨ (ac.from_ = part ∧ (bs.length : Int) ≤ max 0 (min ac.size 64) ∧ ac.kind = 2 ∧ dep ac.kind ac.depth ≤ (y.ms.length : Int)) ∨ (ac.from_ = part ∧ (bs.length : Int) ≤ max 0 (min ac.size 64) ∧ ac.kind = 2 ∧ (y.ms.length : Int) < dep ac.kind ac.depth) by omega) with hh | hh | hh | hh | hh
  · skip
    refine CG.region ?_
    refine OG.yield (Yield.move rfl) rfl ?_
    refine OG.yield (Yield.move rfl) rfl ?_
    refine OG.callo call55 rfl (Imp.refl _) (has_spec W0 _ (r := r) (m := l.length) (cc := x.cc) (ca := some ⟨b0, o0, none⟩) n (Cel.of_blk (b := r) (by repeat (first | exact Ext.here | apply Ext.there)) rfl)) rfl ?_
    rintro ⟨⟩ -
    rw [show decide (0 ≤ (n : Int) ∧ (n : Int) < (l.length : Int)) = true from decide_eq_true (by omega)]
    refine OG.yield (Yield.not rfl) rfl ?_
    refine OG.yield (Yield.move rfl) rfl ?_
    refine OG.guard_yes rfl rfl rfl (by decide) ?_
    refine OG.yield (Yield.move rfl) rfl ?_
    refine OG.guard_yes rfl rfl rfl (by decide) ?_
    refine OG.yield (Yield.nilCheck rfl) rfl ?_
    refine OG.guard_yes rfl rfl rfl (by decide) ?_
    refine OG.yield (Yield.fieldAddr fa94_0 rfl) rfl ?_
    refine OG.guard_yes rfl rfl rfl (by decide) ?_
    refine OG.yield (Yield.load ti48 rfl (by first | exact Cel.of_blk (by repeat (first | exact Ext.here | apply Ext.there)) rfl | exact (hrow (by repeat (first | exact Ext.here | apply Ext.there))) _ _ rfl)) rfl ?_
    refine OG.guard_yes rfl rfl rfl (by decide) ?_
    refine OG.yield (Yield.move rfl) rfl ?_
    refine OG.guard_yes rfl rfl rfl (by decide) ?_
    refine OG.yield (Yield.index_slice Try.underlying48 ti47 rfl rfl (by omega) (by omega)) rfl ?_
    refine OG.guard_yes rfl rfl rfl (by decide) ?_
    refine OG.yield (Yield.fieldAddr fa47_1 rfl) rfl ?_
    refine OG.guard_yes rfl rfl rfl (by decide) ?_
    refine OG.yield (Yield.load (v := .int .i64 ac.from_) ti3 rfl (((SlR.of_osl (E := 47) (a := some ⟨b0, o0, none⟩) (by repeat (first | exact Ext.here | apply Ext.there))).elem Cf.len hget) 1 _ rfl)) rfl ?_
    refine OG.guard_yes rfl rfl rfl (by decide) ?_
    refine OG.yield (Yield.move rfl) rfl ?_
    refine OG.guard_yes rfl rfl rfl (by decide) ?_
    refine OG.yield (by first | exact Yield.as (Yield.neq rfl rfl) (bT (by omega)) | exact Yield.as (Yield.neq rfl rfl) (bF (by omega)) | exact Yield.neq rfl rfl) rfl ?_
    refine OG.yield (by first | exact Yield.pick_t rfl rfl | exact Yield.pick_f rfl rfl | exact Yield.pick rfl (fun _ => rfl) (fun _ => rfl)) rfl ?_
    refine OG.nil ?_
    refine QG.then ?_
    refine CG.cond_t rfl ?_
    refine CG.seq ?_
    refine CG.region ?_
    refine OG.yield (Yield.assign rfl) rfl ?_
    refine OG.nil ?_
    refine QG.then ?_
    refine CG.ret ?_
    refine QG.pass_ret ?_
    rw [show sendR ac part bs = (210, ac) by unfold sendR; rw [if_pos (by exact hh)], set_self hac]
    exact QG.ret1 rfl rfl () trivial rfl (Imp.trans (by repeat (first | exact Imp.refl _ | exact Imp.none _ | apply Imp.pull (by repeat (first | exact Ext.here | apply Ext.there)) | apply Imp.trans Imp.drop)) hback)
  · skip
    refine CG.region ?_
    refine OG.yield (Yield.move rfl) rfl ?_
    refine OG.yield (Yield.move rfl) rfl ?_
    refine OG.callo call55 rfl (Imp.refl _) (has_spec W0 _ (r := r) (m := l.length) (cc := x.cc) (ca := some ⟨b0, o0, none⟩) n (Cel.of_blk (b := r) (by repeat (first | exact Ext.here | apply Ext.there)) rfl)) rfl ?_
    rintro ⟨⟩ -
    rw [show decide (0 ≤ (n : Int) ∧ (n : Int) < (l.length : Int)) = true from decide_eq_true (by omega)]
    refine OG.yield (Yield.not rfl) rfl ?_
    refine OG.yield (Yield.move rfl) rfl ?_
    refine OG.guard_yes rfl rfl rfl (by decide) ?_
    refine OG.yield (Yield.move rfl) rfl ?_
    refine OG.guard_yes rfl rfl rfl (by decide) ?_
    refine OG.yield (Yield.nilCheck rfl) rfl ?_
    refine OG.guard_yes rfl rfl rfl (by decide) ?_
    refine OG.yield (Yield.fieldAddr fa94_0 rfl) rfl ?_
    refine OG.guard_yes rfl rfl rfl (by decide) ?_
    refine OG.yield (Yield.load ti48 rfl (by first | exact Cel.of_blk (by repeat (first | exact Ext.here | apply Ext.there)) rfl | exact (hrow (by repeat (first | exact Ext.here | apply Ext.there))) _ _ rfl)) rfl ?_
    refine OG.guard_yes rfl rfl rfl (by decide) ?_
    refine OG.yield (Yield.move rfl) rfl ?_
    refine OG.guard_yes rfl rfl rfl (by decide) ?_
    refine OG.yield (Yield.index_slice Try.underlying48 ti47 rfl rfl (by omega) (by omega)) rfl ?_
    refine OG.guard_yes rfl rfl rfl (by decide) ?_
    refine OG.yield (Yield.fieldAddr fa47_1 rfl) rfl ?_
    refine OG.guard_yes rfl rfl rfl (by decide) ?_
    refine OG.yield (Yield.load (v := .int .i64 ac.from_) ti3 rfl (((SlR.of_osl (E := 47) (a := some ⟨b0, o0, none⟩) (by repeat (first | exact Ext.here | apply Ext.there))).elem Cf.len hget) 1 _ rfl)) rfl ?_
    refine OG.guard_yes rfl rfl rfl (by decide) ?_
    refine OG.yield (Yield.move rfl) rfl ?_
    refine OG.guard_yes rfl rfl rfl (by decide) ?_
    refine OG.yield (by first | exact Yield.as (Yield.neq rfl rfl) (bT (by omega)) | exact Yield.as (Yield.neq rfl rfl) (bF (by omega)) | exact Yield.neq rfl rfl) rfl ?_
    refine OG.yield (by first | exact Yield.pick_t rfl rfl | exact Yield.pick_f rfl rfl | exact Yield.pick rfl (fun _ => rfl) (fun _ => rfl)) rfl ?_
    refine OG.nil ?_
    refine QG.then ?_
    refine CG.cond_f rfl ?_
    refine CG.skip ?_
    refine QG.then ?_
    refine CG.seq ?_
    refine CG.seq ?_
    refine CG.region ?_
    refine OG.yield (Yield.move rfl) rfl ?_
    refine OG.yield (Yield.len_slice Try.underlying49 rfl rfl) rfl ?_
    refine OG.yield (Yield.move rfl) rfl ?_
    refine OG.yield (Yield.move rfl) rfl ?_
    refine OG.callo call56 rfl (Imp.refl _) (rsize_spec W0 _ (r := r) (n := n) (a := some ⟨b0, o0, none⟩) (c := x.cc) (l := l) (f := ac.cf) (by exact Cel.of_blk (b := r) (by repeat (first | exact Ext.here | apply Ext.there)) rfl) (by exact SlR.of_osl (E := 47) (by repeat (first | exact Ext.here | apply Ext.there))) hget) rfl ?_
    rintro ⟨⟩ -
    rw [show (Cf.Size ac.cf) = ac.size from rfl]
    refine OG.yield (by first | exact Yield.as (Yield.gtr rfl rfl) (bT (by omega)) | exact Yield.as (Yield.gtr rfl rfl) (bF (by omega)) | exact Yield.gtr rfl rfl) rfl ?_
    refine OG.nil ?_
    refine QG.then ?_
    refine CG.cond_t rfl ?_
    refine CG.seq ?_
    refine CG.region ?_
    refine OG.yield (Yield.assign rfl) rfl ?_
    refine OG.nil ?_
    refine QG.then ?_
    refine CG.ret ?_
    refine QG.pass_ret ?_
    rw [show sendR ac part bs = (9, ac) by unfold sendR; rw [if_neg (by exact not_not_intro hh.1), if_pos (by exact hh.2)], set_self hac]
    exact QG.ret1 rfl rfl () trivial rfl (Imp.trans (by repeat (first | exact Imp.refl _ | exact Imp.none _ | apply Imp.pull (by repeat (first | exact Ext.here | apply Ext.there)) | apply Imp.trans Imp.drop)) hback)
  · skip
    refine CG.region ?_
    refine OG.yield (Yield.move rfl) rfl ?_
    refine OG.yield (Yield.move rfl) rfl ?_
    refine OG.callo call55 rfl (Imp.refl _) (has_spec W0 _ (r := r) (m := l.length) (cc := x.cc) (ca := some ⟨b0, o0, none⟩) n (Cel.of_blk (b := r) (by repeat (first | exact Ext.here | apply Ext.there)) rfl)) rfl ?_
    rintro ⟨⟩ -
    rw [show decide (0 ≤ (n : Int) ∧ (n : Int) < (l.length : Int)) = true from decide_eq_true (by omega)]
    refine OG.yield (Yield.not rfl) rfl ?_
    refine OG.yield (Yield.move rfl) rfl ?_
    refine OG.guard_yes rfl rfl rfl (by decide) ?_
    refine OG.yield (Yield.move rfl) rfl ?_
    refine OG.guard_yes rfl rfl rfl (by decide) ?_
    refine OG.yield (Yield.nilCheck rfl) rfl ?_
    refine OG.guard_yes rfl rfl rfl (by decide) ?_
    refine OG.yield (Yield.fieldAddr fa94_0 rfl) rfl ?_
    refine OG.guard_yes rfl rfl rfl (by decide) ?_
    refine OG.yield (Yield.load ti48 rfl (by first | exact Cel.of_blk (by repeat (first | exact Ext.here | apply Ext.there)) rfl | exact (hrow (by repeat (first | exact Ext.here | apply Ext.there))) _ _ rfl)) rfl ?_
    refine OG.guard_yes rfl rfl rfl (by decide) ?_
    refine OG.yield (Yield.move rfl) rfl ?_
    refine OG.guard_yes rfl rfl rfl (by decide) ?_
    refine OG.yield (Yield.index_slice Try.underlying48 ti47 rfl rfl (by omega) (by omega)) rfl ?_
    refine OG.guard_yes rfl rfl rfl (by decide) ?_
    refine OG.yield (Yield.fieldAddr fa47_1 rfl) rfl ?_
    refine OG.guard_yes rfl rfl rfl (by decide) ?_
    refine OG.yield (Yield.load (v := .int .i64 ac.from_) ti3 rfl (((SlR.of_osl (E := 47) (a := some ⟨b0, o0, none⟩) (by repeat (first | exact Ext.here | apply Ext.there))).elem Cf.len hget) 1 _ rfl)) rfl ?_
    refine OG.guard_yes rfl rfl rfl (by decide) ?_
    refine OG.yield (Yield.move rfl) rfl ?_
    refine OG.guard_yes rfl rfl rfl (by decide) ?_
    refine OG.yield (by first | exact Yield.as (Yield.neq rfl rfl) (bT (by omega)) | exact Yield.as (Yield.neq rfl rfl) (bF (by omega)) | exact Yield.neq rfl rfl) rfl ?_
    refine OG.yield (by first | exact Yield.pick_t rfl rfl | exact Yield.pick_f rfl rfl | exact Yield.pick rfl (fun _ => rfl) (fun _ => rfl)) rfl ?_
    refine OG.nil ?_
    refine QG.then ?_
    refine CG.cond_f rfl ?_
    refine CG.skip ?_
    refine QG.then ?_
    refine CG.seq ?_
    refine CG.seq ?_
    refine CG.region ?_
    refine OG.yield (Yield.move rfl) rfl ?_
    refine OG.yield (Yield.len_slice Try.underlying49 rfl rfl) rfl ?_
    refine OG.yield (Yield.move rfl) rfl ?_
    refine OG.yield (Yield.move rfl) rfl ?_
    refine OG.callo call56 rfl (Imp.refl _) (rsize_spec W0 _ (r := r) (n := n) (a := some ⟨b0, o0, none⟩) (c := x.cc) (l := l) (f := ac.cf) (by exact Cel.of_blk (b := r) (by repeat (first | exact Ext.here | apply Ext.there)) rfl) (by exact SlR.of_osl (E := 47) (by repeat (first | exact Ext.here | apply Ext.there))) hget) rfl ?_
    rintro ⟨⟩ -
    rw [show (Cf.Size ac.cf) = ac.size from rfl]
    refine OG.yield (by first | exact Yield.as (Yield.gtr rfl rfl) (bT (by omega)) | exact Yield.as (Yield.gtr rfl rfl) (bF (by omega)) | exact Yield.gtr rfl rfl) rfl ?_
    refine OG.nil ?_
    refine QG.then ?_
    refine CG.cond_f rfl ?_
    refine CG.skip ?_
    refine QG.then ?_
    refine CG.seq ?_
    refine CG.region ?_
    refine OG.effd (Eff.lit0 Try.underlying49 ti5 rfl) rfl ?_
    rintro b32 -
    refine OG.yield (Yield.move rfl) rfl ?_
    refine OG.effd (Eff.appendB (bs := []) (ys := bs) rfl rfl rfl Try.underlying49 Try.underlying49 ti5 (by decide) (by repeat (first | exact Foc.here | apply Foc.there)) (hr.imp (by repeat (first | exact Imp.refl _ | exact Imp.none _ | apply Imp.pull (by repeat (first | exact Ext.here | apply Ext.there)) | apply Imp.trans Imp.drop))) (by simp only [List.length_nil]; omega)) rfl ?_
    rintro ⟨am, cm⟩ -
    rw [List.nil_append]
    refine OG.yield (Yield.assign rfl) rfl ?_
    refine OG.nil ?_
    refine QG.then ?_
    refine CG.seq ?_
    refine CG.seq ?_
    refine CG.region ?_
    refine OG.yield (Yield.move rfl) rfl ?_
    refine OG.yield (Yield.nilCheck rfl) rfl ?_
    refine OG.yield (Yield.fieldAddr fa94_0 rfl) rfl ?_
    refine OG.yield (Yield.load ti48 rfl (by first | exact Cel.of_blk (by repeat (first | exact Ext.here | apply Ext.there)) rfl | exact (hrow (by repeat (first | exact Ext.here | apply Ext.there))) _ _ rfl)) rfl ?_
    refine OG.yield (Yield.move rfl) rfl ?_
    refine OG.yield (Yield.index_slice Try.underlying48 ti47 rfl rfl (by omega) (by omega)) rfl ?_
    refine OG.yield (Yield.fieldAddr fa47_0 rfl) rfl ?_
    refine OG.yield (Yield.load (v := .int .i64 ac.kind) ti3 rfl (((SlR.of_osl (E := 47) (a := some ⟨b0, o0, none⟩) (by repeat (first | exact Ext.here | apply Ext.there))).elem Cf.len hget) 0 _ rfl)) rfl ?_
    refine OG.yield (by first | exact Yield.as (Yield.neq rfl rfl) (bT (by omega)) | exact Yield.as (Yield.neq rfl rfl) (bF (by omega)) | exact Yield.neq rfl rfl) rfl ?_
    refine OG.nil ?_
    refine QG.then ?_
    refine CG.cond_t rfl ?_
    refine CG.seq ?_
    refine CG.region ?_
    refine OG.yield (Yield.move rfl) rfl ?_
    refine OG.yield (Yield.nilCheck rfl) rfl ?_
    refine OG.yield (Yield.fieldAddr fa94_1 rfl) rfl ?_
    refine OG.yield (Yield.load ti69 rfl (by first | exact Cel.of_blk (by repeat (first | exact Ext.here | apply Ext.there)) rfl | exact (hrow (by repeat (first | exact Ext.here | apply Ext.there))) _ _ rfl)) rfl ?_
    refine OG.yield (Yield.move rfl) rfl ?_
    refine OG.yield (Yield.move rfl) rfl ?_
    refine OG.effd (Eff.lit1 Try.underlying65 ti49 rfl rfl rfl) rfl ?_
    rintro b50 -
    refine OG.yield (Yield.index_slice Try.underlying69 ti65 rfl rfl (by omega) (by omega)) rfl ?_
    refine OG.eff (Eff.storeElem (i := n) ti65 (by rw [show o1 + (n : Int).toNat * 1 = o1 + n by omega]; rfl) rfl (by repeat (first | exact Foc.here | apply Foc.there)) rfl (by omega)) rfl ?_
    rintro ⟨⟩ -
    rw [show Value.slice (some ⟨b50, 0, none⟩) 1 1 = End.cell ⟨some ⟨b50, 0, none⟩, 1, [⟨am, cm, bs⟩]⟩ from rfl, ← List.map_set (f := End.cell), List.set_set]
    refine OG.nil ?_
    refine QG.then ?_
    refine CG.seq ?_
    refine CG.region ?_
    refine OG.yield (Yield.assign rfl) rfl ?_
    refine OG.nil ?_
    refine QG.then ?_
    refine CG.ret ?_
    refine QG.pass_ret ?_
    rw [show sendR ac part bs = (0, { ac with s := [bs] }) by unfold sendR; rw [if_neg (by exact not_not_intro hh.1), if_neg (by have := hh.2.1; exact Int.not_lt.2 this), if_pos (by exact hh.2.2)]]
    refine QG.ret1 rfl rfl () trivial rfl (Imp.trans ?_ (@hcl ⟨some ⟨b50, 0, none⟩, 1, [⟨am, cm, bs⟩]⟩ z ac { ac with s := [bs] } [⟨am, cm, bs⟩] Fr hy hz hx hac rfl ⟨by simp, hok.r, fun m hm => by simp only [List.mem_cons, List.not_mem_nil, or_false] at hm; subst hm; omega, hok.rl⟩ rfl hzb (fun m hm => by rcases hm with hm | hm; exact List.mem_append.2 (.inl hm); exact List.mem_append.2 (.inr (hmz m hm)))))
    refine Imp.trans ?_ (Imp.cons (Imp.cons (Imp.cons (Imp.cons (Imp.cons (Imp.cons (Imp.cons (Imp.cons (pool_one (m := ⟨am, cm, bs⟩))))))))))
    exact (by repeat (first | exact Imp.refl _ | exact Imp.none _ | apply Imp.pull (by repeat (first | exact Ext.here | apply Ext.there)) | apply Imp.trans Imp.drop))
  · skip
    refine CG.region ?_
    refine OG.yield (Yield.move rfl) rfl ?_
    refine OG.yield (Yield.move rfl) rfl ?_
    refine OG.callo call55 rfl (Imp.refl _) (has_spec W0 _ (r := r) (m := l.length) (cc := x.cc) (ca := some ⟨b0, o0, none⟩) n (Cel.of_blk (b := r) (by repeat (first | exact Ext.here | apply Ext.there)) rfl)) rfl ?_
    rintro ⟨⟩ -
    rw [show decide (0 ≤ (n : Int) ∧ (n : Int) < (l.length : Int)) = true from decide_eq_true (by omega)]
    refine OG.yield (Yield.not rfl) rfl ?_
    refine OG.yield (Yield.move rfl) rfl ?_
    refine OG.guard_yes rfl rfl rfl (by decide) ?_
    refine OG.yield (Yield.move rfl) rfl ?_
    refine OG.guard_yes rfl rfl rfl (by decide) ?_
    refine OG.yield (Yield.nilCheck rfl) rfl ?_
    refine OG.guard_yes rfl rfl rfl (by decide) ?_
    refine OG.yield (Yield.fieldAddr fa94_0 rfl) rfl ?_
    refine OG.guard_yes rfl rfl rfl (by decide) ?_
    refine OG.yield (Yield.load ti48 rfl (by first | exact Cel.of_blk (by repeat (first | exact Ext.here | apply Ext.there)) rfl | exact (hrow (by repeat (first | exact Ext.here | apply Ext.there))) _ _ rfl)) rfl ?_
    refine OG.guard_yes rfl rfl rfl (by decide) ?_
    refine OG.yield (Yield.move rfl) rfl ?_
    refine OG.guard_yes rfl rfl rfl (by decide) ?_
    refine OG.yield (Yield.index_slice Try.underlying48 ti47 rfl rfl (by omega) (by omega)) rfl ?_
    refine OG.guard_yes rfl rfl rfl (by decide) ?_
    refine OG.yield (Yield.fieldAddr fa47_1 rfl) rfl ?_
    refine OG.guard_yes rfl rfl rfl (by decide) ?_
    refine OG.yield (Yield.load (v := .int .i64 ac.from_) ti3 rfl (((SlR.of_osl (E := 47) (a := some ⟨b0, o0, none⟩) (by repeat (first | exact Ext.here | apply Ext.there))).elem Cf.len hget) 1 _ rfl)) rfl ?_
    refine OG.guard_yes rfl rfl rfl (by decide) ?_
    refine OG.yield (Yield.move rfl) rfl ?_
    refine OG.guard_yes rfl rfl rfl (by decide) ?_
    refine OG.yield (by first | exact Yield.as (Yield.neq rfl rfl) (bT (by omega)) | exact Yield.as (Yield.neq rfl rfl) (bF (by omega)) | exact Yield.neq rfl rfl) rfl ?_
    refine OG.yield (by first | exact Yield.pick_t rfl rfl | exact Yield.pick_f rfl rfl | exact Yield.pick rfl (fun _ => rfl) (fun _ => rfl)) rfl ?_
    refine OG.nil ?_
    refine QG.then ?_
    refine CG.cond_f rfl ?_
    refine CG.skip ?_
    refine QG.then ?_
    refine CG.seq ?_
    refine CG.seq ?_
    refine CG.region ?_
    refine OG.yield (Yield.move rfl) rfl ?_
    refine OG.yield (Yield.len_slice Try.underlying49 rfl rfl) rfl ?_
    refine OG.yield (Yield.move rfl) rfl ?_
    refine OG.yield (Yield.move rfl) rfl ?_
    refine OG.callo call56 rfl (Imp.refl _) (rsize_spec W0 _ (r := r) (n := n) (a := some ⟨b0, o0, none⟩) (c := x.cc) (l := l) (f := ac.cf) (by exact Cel.of_blk (b := r) (by repeat (first | exact Ext.here | apply Ext.there)) rfl) (by exact SlR.of_osl (E := 47) (by repeat (first | exact Ext.here | apply Ext.there))) hget) rfl ?_
    rintro ⟨⟩ -
    rw [show (Cf.Size ac.cf) = ac.size from rfl]
    refine OG.yield (by first | exact Yield.as (Yield.gtr rfl rfl) (bT (by omega)) | exact Yield.as (Yield.gtr rfl rfl) (bF (by omega)) | exact Yield.gtr rfl rfl) rfl ?_
    refine OG.nil ?_
    refine QG.then ?_
    refine CG.cond_f rfl ?_
    refine CG.skip ?_
    refine QG.then ?_
    refine CG.seq ?_
    refine CG.region ?_
    refine OG.effd (Eff.lit0 Try.underlying49 ti5 rfl) rfl ?_
    rintro b32 -
    refine OG.yield (Yield.move rfl) rfl ?_
    refine OG.effd (Eff.appendB (bs := []) (ys := bs) rfl rfl rfl Try.underlying49 Try.underlying49 ti5 (by decide) (by repeat (first | exact Foc.here | apply Foc.there)) (hr.imp (by repeat (first | exact Imp.refl _ | exact Imp.none _ | apply Imp.pull (by repeat (first | exact Ext.here | apply Ext.there)) | apply Imp.trans Imp.drop))) (by simp only [List.length_nil]; omega)) rfl ?_
    rintro ⟨am, cm⟩ -
    rw [List.nil_append]
    refine OG.yield (Yield.assign rfl) rfl ?_
    refine OG.nil ?_
    refine QG.then ?_
    refine CG.seq ?_
    refine CG.seq ?_
    refine CG.region ?_
    refine OG.yield (Yield.move rfl) rfl ?_
    refine OG.yield (Yield.nilCheck rfl) rfl ?_
    refine OG.yield (Yield.fieldAddr fa94_0 rfl) rfl ?_
    refine OG.yield (Yield.load ti48 rfl (by first | exact Cel.of_blk (by repeat (first | exact Ext.here | apply Ext.there)) rfl | exact (hrow (by repeat (first | exact Ext.here | apply Ext.there))) _ _ rfl)) rfl ?_
    refine OG.yield (Yield.move rfl) rfl ?_
    refine OG.yield (Yield.index_slice Try.underlying48 ti47 rfl rfl (by omega) (by omega)) rfl ?_
    refine OG.yield (Yield.fieldAddr fa47_0 rfl) rfl ?_
    refine OG.yield (Yield.load (v := .int .i64 ac.kind) ti3 rfl (((SlR.of_osl (E := 47) (a := some ⟨b0, o0, none⟩) (by repeat (first | exact Ext.here | apply Ext.there))).elem Cf.len hget) 0 _ rfl)) rfl ?_
    refine OG.yield (by first | exact Yield.as (Yield.neq rfl rfl) (bT (by omega)) | exact Yield.as (Yield.neq rfl rfl) (bF (by omega)) | exact Yield.neq rfl rfl) rfl ?_
    refine OG.nil ?_
    refine QG.then ?_
    refine CG.cond_f rfl ?_
    refine CG.skip ?_
    refine QG.then ?_
    refine CG.seq ?_
    refine CG.seq ?_
    refine CG.draw (.look 0 0 (.look 1 0 (.look 2 0 (.look 3 0 (.look 4 0 (.look 5 0 (.look 6 0 (.look 7 0 (.look 8 1 (.look 9 1 (.eff1 10 false (.look 11 1 (.done))))))))))))) [10] [] ([blk r [.slice (some ⟨b0, o0, none⟩) l.length x.cc, .slice (some ⟨b1, o1, none⟩) x.xs.length x.sc, .slice x.ra x.ys.length x.rc] 94, osl 65 1 (some ⟨b1, o1, none⟩) x.sc x.xs.length ((x.xs.set n y).map End.cell)]) ([]) mixed (by kernel_rfl) ((by repeat (first | exact Imp.refl _ | exact Imp.none _ | apply Imp.pull (by repeat (first | exact Ext.here | apply Ext.there)) | apply Imp.trans Imp.drop))) (Imp.none _) ?_
    refine DG.look rfl rfl (Yield.move rfl) rfl ?_
    refine DG.look rfl rfl (Yield.nilCheck rfl) rfl ?_
    refine DG.look rfl rfl (Yield.fieldAddr fa94_1 rfl) rfl ?_
    refine DG.look rfl rfl (Yield.load (v := .slice (some ⟨b1, o1, none⟩) x.xs.length x.sc) ti69 rfl (Cel.of_blk (b := r) (by repeat (first | exact Ext.here | apply Ext.there)) rfl)) rfl ?_
    refine DG.look rfl rfl (Yield.move rfl) rfl ?_
    refine DG.look rfl rfl (Yield.index_slice (b := b1) (o := o1) (m := x.xs.length) (c := x.sc) Try.underlying69 ti65 rfl rfl (by omega) (by omega)) rfl ?_
    refine DG.look rfl rfl (Yield.load (v := y.cell) ti65 rfl (by rw [show o1 + (n : Int).toNat * 1 = o1 + n by omega]; exact SlR.cel (SlR.of_osl (E := 65) (a := some ⟨b1, o1, none⟩) (by repeat (first | exact Ext.here | apply Ext.there))) (by rw [List.getElem?_map, hys]; rfl))) rfl ?_
    refine DG.look rfl rfl (Yield.len_slice (a := y.a) (m := y.ms.length) (c := y.c) Try.underlying65 rfl rfl) rfl ?_
    refine DG.look rfl rfl (Yield.move rfl) rfl ?_
    refine DG.look rfl rfl (Yield.move rfl) rfl ?_
    refine DG.eff1 ?_
    refine Chg.callo rfl rfl call57 rfl (Imp.refl _) (rdepth_spec W0 _ (r := r) (n := n) (a := some ⟨b0, o0, none⟩) (c := x.cc) (l := l) (f := ac.cf) (by exact Cel.of_blk (b := r) (by repeat (first | exact Ext.here | apply Ext.there)) rfl) (by exact SlR.of_osl (E := 47) (by repeat (first | exact Ext.here | apply Ext.there))) hget) rfl (fun _ => (by repeat (first | exact Imp.refl _ | exact Imp.none _ | apply Imp.pull (by repeat (first | exact Ext.here | apply Ext.there)) | apply Imp.trans Imp.drop))) (fun _ => Imp.refl _) (fun _ => (by repeat (first | exact Imp.refl _ | exact Imp.none _ | apply Imp.pull (by repeat (first | exact Ext.here | apply Ext.there)) | apply Imp.trans Imp.drop))) ?_
    rintro ⟨⟩ -
    rw [show dep (Cf.Kind ac.cf) (Cf.Depth ac.cf) = dep ac.kind ac.depth from rfl]
    refine DG.look rfl rfl (by first | exact Yield.as (Yield.geq rfl rfl) (bT (by omega)) | exact Yield.as (Yield.geq rfl rfl) (bF (by omega)) | exact Yield.geq rfl rfl) rfl ?_
    refine DG.done ?_
    refine QG.then ?_
    refine CG.cond_t rfl ?_
    refine CG.seq ?_
    refine CG.region ?_
    refine OG.yield (Yield.assign rfl) rfl ?_
    refine OG.nil ?_
    refine QG.then ?_
    refine CG.ret ?_
    refine QG.pass_ret ?_
    rw [show sendR ac part bs = (4, ac) by unfold sendR; rw [if_neg (by exact not_not_intro hh.1), if_neg (by have := hh.2.1; exact Int.not_lt.2 this), if_neg (by exact not_not_intro hh.2.2.1), if_pos (by rw [← hyb]; simp only [End.bs, List.length_map]; exact hh.2.2.2)], set_self hac]
    exact QG.ret1 rfl rfl () trivial rfl (Imp.trans (by repeat (first | exact Imp.refl _ | exact Imp.none _ | apply Imp.pull (by repeat (first | exact Ext.here | apply Ext.there)) | apply Imp.trans Imp.drop)) hback)
  · skip
    refine CG.region ?_
    refine OG.yield (Yield.move rfl) rfl ?_
    refine OG.yield (Yield.move rfl) rfl ?_
    refine OG.callo call55 rfl (Imp.refl _) (has_spec W0 _ (r := r) (m := l.length) (cc := x.cc) (ca := some ⟨b0, o0, none⟩) n (Cel.of_blk (b := r) (by repeat (first | exact Ext.here | apply Ext.there)) rfl)) rfl ?_
    rintro ⟨⟩ -
    rw [show decide (0 ≤ (n : Int) ∧ (n : Int) < (l.length : Int)) = true from decide_eq_true (by omega)]
    refine OG.yield (Yield.not rfl) rfl ?_
    refine OG.yield (Yield.move rfl) rfl ?_
    refine OG.guard_yes rfl rfl rfl (by decide) ?_
    refine OG.yield (Yield.move rfl) rfl ?_
    refine OG.guard_yes rfl rfl rfl (by decide) ?_
    refine OG.yield (Yield.nilCheck rfl) rfl ?_
    refine OG.guard_yes rfl rfl rfl (by decide) ?_
    refine OG.yield (Yield.fieldAddr fa94_0 rfl) rfl ?_
    refine OG.guard_yes rfl rfl rfl (by decide) ?_
    refine OG.yield (Yield.load ti48 rfl (by first | exact Cel.of_blk (by repeat (first | exact Ext.here | apply Ext.there)) rfl | exact (hrow (by repeat (first | exact Ext.here | apply Ext.there))) _ _ rfl)) rfl ?_
    refine OG.guard_yes rfl rfl rfl (by decide) ?_
    refine OG.yield (Yield.move rfl) rfl ?_
    refine OG.guard_yes rfl rfl rfl (by decide) ?_
    refine OG.yield (Yield.index_slice Try.underlying48 ti47 rfl rfl (by omega) (by omega)) rfl ?_
    refine OG.guard_yes rfl rfl rfl (by decide) ?_
    refine OG.yield (Yield.fieldAddr fa47_1 rfl) rfl ?_
    refine OG.guard_yes rfl rfl rfl (by decide) ?_
    refine OG.yield (Yield.load (v := .int .i64 ac.from_) ti3 rfl (((SlR.of_osl (E := 47) (a := some ⟨b0, o0, none⟩) (by repeat (first | exact Ext.here | apply Ext.there))).elem Cf.len hget) 1 _ rfl)) rfl ?_
    refine OG.guard_yes rfl rfl rfl (by decide) ?_
    refine OG.yield (Yield.move rfl) rfl ?_
    refine OG.guard_yes rfl rfl rfl (by decide) ?_
    refine OG.yield (by first | exact Yield.as (Yield.neq rfl rfl) (bT (by omega)) | exact Yield.as (Yield.neq rfl rfl) (bF (by omega)) | exact Yield.neq rfl rfl) rfl ?_
    refine OG.yield (by first | exact Yield.pick_t rfl rfl | exact Yield.pick_f rfl rfl | exact Yield.pick rfl (fun _ => rfl) (fun _ => rfl)) rfl ?_
    refine OG.nil ?_
    refine QG.then ?_
    refine CG.cond_f rfl ?_
    refine CG.skip ?_
    refine QG.then ?_
    refine CG.seq ?_
    refine CG.seq ?_
    refine CG.region ?_
    refine OG.yield (Yield.move rfl) rfl ?_
    refine OG.yield (Yield.len_slice Try.underlying49 rfl rfl) rfl ?_
    refine OG.yield (Yield.move rfl) rfl ?_
    refine OG.yield (Yield.move rfl) rfl ?_
    refine OG.callo call56 rfl (Imp.refl _) (rsize_spec W0 _ (r := r) (n := n) (a := some ⟨b0, o0, none⟩) (c := x.cc) (l := l) (f := ac.cf) (by exact Cel.of_blk (b := r) (by repeat (first | exact Ext.here | apply Ext.there)) rfl) (by exact SlR.of_osl (E := 47) (by repeat (first | exact Ext.here | apply Ext.there))) hget) rfl ?_
    rintro ⟨⟩ -
    rw [show (Cf.Size ac.cf) = ac.size from rfl]
    refine OG.yield (by first | exact Yield.as (Yield.gtr rfl rfl) (bT (by omega)) | exact Yield.as (Yield.gtr rfl rfl) (bF (by omega)) | exact Yield.gtr rfl rfl) rfl ?_
    refine OG.nil ?_
    refine QG.then ?_
    refine CG.cond_f rfl ?_
    refine CG.skip ?_
    refine QG.then ?_
    refine CG.seq ?_
    refine CG.region ?_
    refine OG.effd (Eff.lit0 Try.underlying49 ti5 rfl) rfl ?_
    rintro b32 -
    refine OG.yield (Yield.move rfl) rfl ?_
    refine OG.effd (Eff.appendB (bs := []) (ys := bs) rfl rfl rfl Try.underlying49 Try.underlying49 ti5 (by decide) (by repeat (first | exact Foc.here | apply Foc.there)) (hr.imp (by repeat (first | exact Imp.refl _ | exact Imp.none _ | apply Imp.pull (by repeat (first | exact Ext.here | apply Ext.there)) | apply Imp.trans Imp.drop))) (by simp only [List.length_nil]; omega)) rfl ?_
    rintro ⟨am, cm⟩ -
    rw [List.nil_append]
    refine OG.yield (Yield.assign rfl) rfl ?_
    refine OG.nil ?_
    refine QG.then ?_
    refine CG.seq ?_
    refine CG.seq ?_
    refine CG.region ?_
    refine OG.yield (Yield.move rfl) rfl ?_
    refine OG.yield (Yield.nilCheck rfl) rfl ?_
    refine OG.yield (Yield.fieldAddr fa94_0 rfl) rfl ?_
    refine OG.yield (Yield.load ti48 rfl (by first | exact Cel.of_blk (by repeat (first | exact Ext.here | apply Ext.there)) rfl | exact (hrow (by repeat (first | exact Ext.here | apply Ext.there))) _ _ rfl)) rfl ?_
    refine OG.yield (Yield.move rfl) rfl ?_
    refine OG.yield (Yield.index_slice Try.underlying48 ti47 rfl rfl (by omega) (by omega)) rfl ?_
    refine OG.yield (Yield.fieldAddr fa47_0 rfl) rfl ?_
    refine OG.yield (Yield.load (v := .int .i64 ac.kind) ti3 rfl (((SlR.of_osl (E := 47) (a := some ⟨b0, o0, none⟩) (by repeat (first | exact Ext.here | apply Ext.there))).elem Cf.len hget) 0 _ rfl)) rfl ?_
    refine OG.yield (by first | exact Yield.as (Yield.neq rfl rfl) (bT (by omega)) | exact Yield.as (Yield.neq rfl rfl) (bF (by omega)) | exact Yield.neq rfl rfl) rfl ?_
    refine OG.nil ?_
    refine QG.then ?_
    refine CG.cond_f rfl ?_
    refine CG.skip ?_
    refine QG.then ?_
    refine CG.seq ?_
    refine CG.seq ?_
    refine CG.draw (.look 0 0 (.look 1 0 (.look 2 0 (.look 3 0 (.look 4 0 (.look 5 0 (.look 6 0 (.look 7 0 (.look 8 1 (.look 9 1 (.eff1 10 false (.look 11 1 (.done))))))))))))) [10] [] ([blk r [.slice (some ⟨b0, o0, none⟩) l.length x.cc, .slice (some ⟨b1, o1, none⟩) x.xs.length x.sc, .slice x.ra x.ys.length x.rc] 94, osl 65 1 (some ⟨b1, o1, none⟩) x.sc x.xs.length ((x.xs.set n y).map End.cell)]) ([]) mixed (by kernel_rfl) ((by repeat (first | exact Imp.refl _ | exact Imp.none _ | apply Imp.pull (by repeat (first | exact Ext.here | apply Ext.there)) | apply Imp.trans Imp.drop))) (Imp.none _) ?_
    refine DG.look rfl rfl (Yield.move rfl) rfl ?_
    refine DG.look rfl rfl (Yield.nilCheck rfl) rfl ?_
    refine DG.look rfl rfl (Yield.fieldAddr fa94_1 rfl) rfl ?_
    refine DG.look rfl rfl (Yield.load (v := .slice (some ⟨b1, o1, none⟩) x.xs.length x.sc) ti69 rfl (Cel.of_blk (b := r) (by repeat (first | exact Ext.here | apply Ext.there)) rfl)) rfl ?_
    refine DG.look rfl rfl (Yield.move rfl) rfl ?_
    refine DG.look rfl rfl (Yield.index_slice (b := b1) (o := o1) (m := x.xs.length) (c := x.sc) Try.underlying69 ti65 rfl rfl (by omega) (by omega)) rfl ?_
    refine DG.look rfl rfl (Yield.load (v := y.cell) ti65 rfl (by rw [show o1 + (n : Int).toNat * 1 = o1 + n by omega]; exact SlR.cel (SlR.of_osl (E := 65) (a := some ⟨b1, o1, none⟩) (by repeat (first | exact Ext.here | apply Ext.there))) (by rw [List.getElem?_map, hys]; rfl))) rfl ?_
    refine DG.look rfl rfl (Yield.len_slice (a := y.a) (m := y.ms.length) (c := y.c) Try.underlying65 rfl rfl) rfl ?_
    refine DG.look rfl rfl (Yield.move rfl) rfl ?_
    refine DG.look rfl rfl (Yield.move rfl) rfl ?_
    refine DG.eff1 ?_
    refine Chg.callo rfl rfl call57 rfl (Imp.refl _) (rdepth_spec W0 _ (r := r) (n := n) (a := some ⟨b0, o0, none⟩) (c := x.cc) (l := l) (f := ac.cf) (by exact Cel.of_blk (b := r) (by repeat (first | exact Ext.here | apply Ext.there)) rfl) (by exact SlR.of_osl (E := 47) (by repeat (first | exact Ext.here | apply Ext.there))) hget) rfl (fun _ => (by repeat (first | exact Imp.refl _ | exact Imp.none _ | apply Imp.pull (by repeat (first | exact Ext.here | apply Ext.there)) | apply Imp.trans Imp.drop))) (fun _ => Imp.refl _) (fun _ => (by repeat (first | exact Imp.refl _ | exact Imp.none _ | apply Imp.pull (by repeat (first | exact Ext.here | apply Ext.there)) | apply Imp.trans Imp.drop))) ?_
    rintro ⟨⟩ -
    rw [show dep (Cf.Kind ac.cf) (Cf.Depth ac.cf) = dep ac.kind ac.depth from rfl]
    refine DG.look rfl rfl (by first | exact Yield.as (Yield.geq rfl rfl) (bT (by omega)) | exact Yield.as (Yield.geq rfl rfl) (bF (by omega)) | exact Yield.geq rfl rfl) rfl ?_
    refine DG.done ?_
    refine QG.then ?_
    refine CG.cond_f rfl ?_
    refine CG.skip ?_
    refine QG.then ?_
    refine CG.seq ?_
    refine CG.draw (.look 0 0 (.look 1 0 (.look 2 0 (.look 3 0 (.look 4 0 (.look 5 0 (.look 6 0 (.look 7 0 (.look 8 0 (.look 9 0 (.look 10 0 (.look 11 2 (.look 12 1 (.eff1 13 false (.eff1 14 false (.look 15 1 (.eff1 16 true (.done)))))))))))))))))) [13, 14, 16] [11] ([blk r [.slice (some ⟨b0, o0, none⟩) l.length x.cc, .slice (some ⟨b1, o1, none⟩) x.xs.length x.sc, .slice x.ra x.ys.length x.rc] 94]) ([osl 65 1 (some ⟨b1, o1, none⟩) x.sc x.xs.length ((x.xs.set n y).map End.cell)]) mixed (by kernel_rfl) ((by repeat (first | exact Imp.refl _ | exact Imp.none _ | apply Imp.pull (by repeat (first | exact Ext.here | apply Ext.there)) | apply Imp.trans Imp.drop))) ((by repeat (first | exact Imp.refl _ | exact Imp.none _ | apply Imp.pull (by repeat (first | exact Ext.here | apply Ext.there)) | apply Imp.trans Imp.drop))) ?_
    refine DG.look rfl rfl (Yield.move rfl) rfl ?_
    refine DG.look rfl rfl (Yield.nilCheck rfl) rfl ?_
    refine DG.look rfl rfl (Yield.fieldAddr fa94_1 rfl) rfl ?_
    refine DG.look rfl rfl (Yield.load (v := .slice (some ⟨b1, o1, none⟩) x.xs.length x.sc) ti69 rfl (Cel.of_blk (b := r) (by repeat (first | exact Ext.here | apply Ext.there)) rfl)) rfl ?_
    refine DG.look rfl rfl (Yield.move rfl) rfl ?_
    refine DG.look rfl rfl (Yield.move rfl) rfl ?_
    refine DG.look rfl rfl (Yield.nilCheck rfl) rfl ?_
    refine DG.look rfl rfl (Yield.fieldAddr fa94_1 rfl) rfl ?_
    refine DG.look rfl rfl (Yield.load (v := .slice (some ⟨b1, o1, none⟩) x.xs.length x.sc) ti69 rfl (Cel.of_blk (b := r) (by repeat (first | exact Ext.here | apply Ext.there)) rfl)) rfl ?_
    refine DG.look rfl rfl (Yield.move rfl) rfl ?_
    refine DG.look rfl rfl (Yield.index_slice (b := b1) (o := o1) (m := x.xs.length) (c := x.sc) Try.underlying69 ti65 rfl rfl (by omega) (by omega)) rfl ?_
    refine DG.look rfl rfl (Yield.load (v := y.cell) ti65 rfl (by rw [show o1 + (n : Int).toNat * 1 = o1 + n by omega]; exact SlR.cel (SlR.of_osl (E := 65) (a := some ⟨b1, o1, none⟩) (by repeat (first | exact Ext.here | apply Ext.there))) (by rw [List.getElem?_map, hys]; rfl))) rfl ?_
    refine DG.look rfl rfl (Yield.move rfl) rfl ?_
    refine DG.eff1 ?_
    refine Chg.eff rfl rfl (Eff.lit1 Try.underlying65 ti49 rfl rfl rfl) rfl (fun _ => (by repeat (first | exact Imp.refl _ | exact Imp.none _ | apply Imp.pull (by repeat (first | exact Ext.here | apply Ext.there)) | apply Imp.trans Imp.drop))) (fun _ => Imp.refl _) (fun _ => (by repeat (first | exact Imp.refl _ | exact Imp.none _ | apply Imp.pull (by repeat (first | exact Ext.here | apply Ext.there)) | apply Imp.trans Imp.drop))) ?_
    rintro b77 -
    refine DG.eff1 ?_
    refine Chg.eff rfl rfl (Eff.append (a := y.a) (c := y.c) (k := 1) (ys := [Msg.cell ⟨am, cm, bs⟩]) rfl rfl rfl Try.underlying65 Try.underlying65 ti49 rfl (by decide) (by repeat (first | exact Foc.here | apply Foc.there)) (SlR.of_osl (a := some ⟨b77, 0, none⟩) (by repeat (first | exact Ext.here | apply Ext.there))) (by simp [one, Msg.cell]) (by omega)) rfl (fun _ => (by repeat (first | exact Imp.refl _ | exact Imp.none _ | apply Imp.pull (by repeat (first | exact Ext.here | apply Ext.there)) | apply Imp.trans Imp.drop))) (fun _ => Imp.refl _) (fun _ => (by repeat (first | exact Imp.refl _ | exact Imp.none _ | apply Imp.pull (by repeat (first | exact Ext.here | apply Ext.there)) | apply Imp.trans Imp.drop))) ?_
    rintro ⟨a78, c78⟩ -
    refine DG.look rfl rfl (Yield.index_slice (b := b1) (o := o1) (m := x.xs.length) (c := x.sc) Try.underlying69 ti65 rfl rfl (by omega) (by omega)) rfl ?_
    refine DG.eff1 ?_
    refine Chg.eff rfl rfl (Eff.storeElem (i := n) ti65 (by rw [show o1 + (n : Int).toNat * 1 = o1 + n by omega]; rfl) rfl (by repeat (first | exact Foc.here | apply Foc.there)) rfl (by omega)) rfl (fun _ => (by repeat (first | exact Imp.refl _ | exact Imp.none _ | apply Imp.pull (by repeat (first | exact Ext.here | apply Ext.there)) | apply Imp.trans Imp.drop))) (fun _ => Imp.refl _) (fun _ => (by repeat (first | exact Imp.refl _ | exact Imp.none _ | apply Imp.pull (by repeat (first | exact Ext.here | apply Ext.there)) | apply Imp.trans Imp.drop))) ?_
    rintro ⟨⟩ -
    rw [show Value.slice a78 (y.ms.length + 1) c78 = End.cell ⟨a78, c78, y.ms ++ [⟨am, cm, bs⟩]⟩ by unfold End.cell; rw [List.length_append]; rfl, ← List.map_set (f := End.cell), List.set_set]
    refine DG.done ?_
    refine QG.then ?_
    refine CG.seq ?_
    refine CG.region ?_
    refine OG.yield (Yield.assign rfl) rfl ?_
    refine OG.nil ?_
    refine QG.then ?_
    refine CG.ret ?_
    rw [show sendR ac part bs = (0, { ac with s := ac.s ++ [bs] }) by unfold sendR; rw [if_neg (by exact not_not_intro hh.1), if_neg (by have := hh.2.1; exact Int.not_lt.2 this), if_neg (by exact not_not_intro hh.2.2.1), if_neg (by rw [← hyb]; simp only [End.bs, List.length_map]; exact Int.not_le.2 hh.2.2.2)]]
    have hd8 : dep ac.kind ac.depth ≤ 8 := by unfold dep; split <;> omega
    have hsl2 : ac.s.length = y.ms.length := by rw [← hyb]; simp [End.bs]
    refine QG.ret1 rfl rfl () trivial rfl (Imp.trans ?_ (@hcl ⟨a78, c78, y.ms ++ [⟨am, cm, bs⟩]⟩ z ac { ac with s := ac.s ++ [bs] } [⟨am, cm, bs⟩] Fr hy hz hx hac rfl ⟨by simp only [List.length_append, List.length_cons, List.length_nil]; omega, hok.r, fun m hm => by simp only [List.mem_append, List.mem_cons, List.not_mem_nil, or_false] at hm; rcases hm with hm | rfl; exact hok.sl m hm; omega, hok.rl⟩ (by rw [← hyb]; unfold End.bs; rw [List.map_append]; rfl) hzb (fun m hm => by rcases hm with hm | hm; (rcases List.mem_append.1 hm with hm | hm; exact List.mem_append.2 (.inr (hmy m hm)); exact List.mem_append.2 (.inl hm)); exact List.mem_append.2 (.inr (hmz m hm)))))
    refine Imp.trans ?_ (Imp.cons (Imp.cons (Imp.cons (Imp.cons (Imp.cons (Imp.cons (Imp.cons (Imp.cons (pool_one (m := ⟨am, cm, bs⟩))))))))))
    rw [oend_snoc]
    exact (by repeat (first | exact Imp.refl _ | exact Imp.none _ | apply Imp.pull (by repeat (first | exact Ext.here | apply Ext.there)) | apply Imp.trans Imp.drop))
end
end Go.Proofs.Ytjigjbcdopmeeaa.Po
