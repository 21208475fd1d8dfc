/- ports: New, Receive, Transfer, Held. -/
import Derived.Test.YtjigjbcdopmeeaaPorts
namespace Go.Proofs.Ytjigjbcdopmeeaa.Po
open Go Go.Sl Go.RowKit Go.Proofs Go.Proofs.Ytjigjbcdopmeeaa.T
set_option linter.unusedVariables false
set_option linter.unusedSimpArgs false
set_option maxRecDepth 100000
def End.tail (y : End) : End := ⟨y.a.map fun a => cutAt a 1 y.c 1, y.c - 1, y.ms.tail⟩
def nilE : End := ⟨none, 0, []⟩
theorem oend_nil {G : List HProp} : Imp G (oend nilE :: G) := osl_nil (E := 49) (sz := 1)
theorem oend_tail {y : End} (h : 1 ≤ y.ms.length) (x : Heaplet) (o : oend y x) : oend y.tail x := by
  have hc := o.2.1
  have := osl_cut (l := 1) (h := y.ms.length) (ys := y.ms.tail.map Msg.cell) h hc (Nat.le_refl _) (by rw [List.map_tail, ← List.drop_one, Nat.mul_one, List.take_of_length_le (by simp)]) x o
  unfold End.tail
  dsimp only [oend]
  rw [List.length_tail]; exact this
theorem End.tail_bs (y : End) : y.tail.bs = y.bs.tail := by unfold End.tail End.bs; rw [List.map_tail]
theorem Yield.tail {P : Program} {W0 : World} {e : Env} {G : List HProp} {ty t el : TypeId} {x : Operand} {y : End} {by' z ag} (hu : P.underlying t = some (.slice el)) (ht : TI P el 1 by' z ag) (hx : e.ev x = some y.cell) (h : 1 ≤ y.ms.length) (hc : y.ms.length ≤ y.c) : Yield P W0 (.slice t x (some (.const (.int .i64 1))) none none) ty e G y.tail.cell := by
  have := Yield.slice (W0 := W0) (G := G) (ty := ty) (lo := some (.const (.int .i64 1))) (hi := none) (l := 1) (h := (y.ms.length : Int)) hu ht hx (Bound.some rfl) Bound.none (by omega) (by omega) (by omega)
  refine Yield.as this ?_
  unfold End.cell End.tail
  dsimp only
  rw [List.length_tail]; rfl
section
variable (W0 : World) (Fr : List HProp)
def recvE (ac : AC) (part : Int) : Int := if ac.to ≠ part then 210 else if ac.r = [] then 110 else 0
theorem recv_out {p : Nat} {acs : List AC} (part n : Int) (hn : n < 0 ∨ (acs.length : Int) ≤ n) : Ctr Try.prog W0 25 [.pointer (some ⟨p, 0, none⟩), .int .i64 part, .int .i64 n] (Po p acs :: Fr) (fun _ : Unit => True) (fun _ => .tuple #[.slice none 0 0, .int .i64 210]) (fun _ => Po p acs :: Fr) := by
  refine Ctr.ex Ext.here po_open ?_
  intro x hx
  refine Ctr.imp star_open ?_
  have hln := hx.lens
  dsimp only [CO, List.cons_append, List.nil_append]
  refine Ctr.of_body Try.func25 rfl Try.ntmps25 rfl ?_
  refine CG.seq ?_
  refine CG.region ?_
  refine OG.yield (Yield.assign rfl) rfl ?_
  refine OG.yield (Yield.assign rfl) rfl ?_
  refine OG.nil ?_
  refine QG.then ?_
  refine CG.seq ?_
  refine CG.region ?_
  refine OG.yield (Yield.move rfl) rfl ?_
  refine OG.yield (Yield.move rfl) rfl ?_
  refine OG.callo call45 rfl ((by repeat (first | exact Imp.refl _ | exact Imp.none _ | apply Imp.pull (by repeat (first | exact Ext.here | apply Ext.there)) | apply Imp.trans Imp.drop))) (at_out W0 _ (p := p) (n := n) (by omega)) rfl ?_
  rintro ⟨⟩ -
  refine OG.yield (Yield.assign rfl) rfl ?_
  refine OG.nil ?_
  refine QG.then ?_
  refine CG.seq ?_
  refine CG.block ?_
  refine CG.seq ?_
  refine CG.region ?_
  refine OG.yield (Yield.move rfl) rfl ?_
  refine OG.yield (by first | exact Yield.ptr_nil Try.underlying87 rfl rfl | exact Yield.nil_nil Try.underlying87 rfl rfl) rfl ?_
  refine OG.yield (Yield.move rfl) rfl ?_
  refine OG.guard_no rfl rfl rfl rfl rfl (by decide) (by decide) ?_
  refine OG.guard_no rfl rfl rfl rfl rfl (by decide) (by decide) ?_
  refine OG.guard_no rfl rfl rfl rfl rfl (by decide) (by decide) ?_
  refine OG.guard_no rfl rfl rfl rfl rfl (by decide) (by decide) ?_
  refine OG.guard_no rfl rfl rfl rfl rfl (by decide) (by decide) ?_
  refine OG.guard_no rfl rfl rfl rfl rfl (by decide) (by decide) ?_
  refine OG.guard_no rfl rfl rfl rfl rfl (by decide) (by decide) ?_
  refine OG.yield (by first | exact Yield.pick_t rfl rfl | exact Yield.pick_f rfl rfl | exact Yield.pick rfl (fun _ => rfl) (fun _ => rfl)) rfl ?_
  refine OG.yield (Yield.assign rfl) rfl ?_
  refine OG.nil ?_
  refine QG.then ?_
  refine CG.cond_t rfl ?_
  refine CG.seq ?_
  refine CG.region ?_
  refine OG.yield (Yield.assign rfl) rfl ?_
  refine OG.yield (Yield.assign rfl) rfl ?_
  refine OG.nil ?_
  refine QG.then ?_
  refine CG.ret ?_
  refine QG.block_ret ?_
  refine QG.pass_ret ?_
  exact QG.ret2 rfl rfl rfl () trivial rfl (Imp.trans (by repeat (first | exact Imp.refl _ | exact Imp.none _ | apply Imp.pull (by repeat (first | exact Ext.here | apply Ext.there)) | apply Imp.trans Imp.drop)) (po_close x hx))
theorem recv_bad {p n : Nat} {acs : List AC} (part : Int) {ac : AC} (hac : acs[n]? = some ac) (he : recvE ac part ≠ 0) :
    Ctr Try.prog W0 25 [.pointer (some ⟨p, 0, none⟩), .int .i64 part, .int .i64 n] (Po p acs :: Fr) (fun _ : Unit => True) (fun _ => .tuple #[.slice none 0 0, .int .i64 (recvE ac part)]) (fun _ => Po p acs :: Fr) := by
  refine Ctr.ex Ext.here po_open ?_
  intro x hx
  refine Ctr.imp star_open ?_
  have hln := hx.lens
  obtain ⟨ch, hch, rfl⟩ := hx.get hac
  have hnl : n < x.chs.length := (List.getElem?_eq_some_iff.1 hch).1
  refine Ctr.imp (cp_open hch) ?_
  have hcs : (x.chs.set n ch)[n]? = some ch := by rw [set_self hch]; exact hch
  refine Ctr.pure (fun w hw => shape_chs (cs := x.chs.set n ch) hch (by rw [List.length_set]) (Ext.there Ext.here) w hw) ?_
  rintro ⟨b, o, hxa⟩
  unfold CP
  rw [hxa]
  dsimp only [List.cons_append, List.nil_append]
  have hcase : ch.to ≠ part ∨ (ch.to = part ∧ ch.r.ms.length = 0) := by
    by_cases h : ch.to = part
    · refine .inr ⟨h, ?_⟩
      unfold recvE at he
      rw [if_neg (by exact not_not_intro h)] at he
      split at he
      · rename_i h2; simp only [Chan.abs, End.bs, List.map_eq_nil_iff] at h2; rw [h2]; rfl
      · exact absurd rfl he
    · exact .inl h
  refine Ctr.of_body Try.func25 rfl Try.ntmps25 rfl ?_
  refine CG.seq ?_
  refine CG.region ?_
  refine OG.yield (Yield.assign rfl) rfl ?_
  refine OG.yield (Yield.assign rfl) rfl ?_
  refine OG.nil ?_
  refine QG.then ?_
  refine CG.seq ?_
  refine CG.region ?_
  refine OG.yield (Yield.move rfl) rfl ?_
  refine OG.yield (Yield.move rfl) rfl ?_
  refine OG.callo call45 rfl ((by repeat (first | exact Imp.refl _ | exact Imp.none _ | apply Imp.pull (by repeat (first | exact Ext.here | apply Ext.there)) | apply Imp.trans Imp.drop))) (at_in W0 _ (p := p) (b := b) (o := o) (c := x.c) (n := n) hnl) rfl ?_
  rintro ⟨⟩ -
  refine OG.yield (Yield.assign rfl) rfl ?_
  refine OG.nil ?_
  refine QG.then ?_
  refine CG.seq ?_
  refine CG.block ?_
  refine CG.seq ?_
  rcases hcase with hh | hh
  · skip
    refine CG.region ?_
    refine OG.yield (Yield.move rfl) rfl ?_
    refine OG.yield (by first | exact Yield.ptr_nil Try.underlying87 rfl rfl | exact Yield.nil_nil Try.underlying87 rfl rfl) rfl ?_
    refine OG.yield (Yield.move rfl) rfl ?_
    refine OG.guard_yes rfl rfl rfl (by decide) ?_
    refine OG.yield (Yield.move rfl) rfl ?_
    refine OG.guard_yes rfl rfl rfl (by decide) ?_
    refine OG.yield (Yield.nilCheck rfl) rfl ?_
    refine OG.guard_yes rfl rfl rfl (by decide) ?_
    refine OG.yield (Yield.fieldAddr fa86_0 rfl) rfl ?_
    refine OG.guard_yes rfl rfl rfl (by decide) ?_
    refine OG.yield (Yield.fieldAddr fa47_2 rfl) rfl ?_
    refine OG.guard_yes rfl rfl rfl (by decide) ?_
    refine OG.yield (Yield.load (v := .int .i64 ch.to) ti3 rfl (((SlR.of_osl (by repeat (first | exact Ext.here | apply Ext.there))).elem Chan.len hcs) 2 _ rfl)) rfl ?_
    refine OG.guard_yes rfl rfl rfl (by decide) ?_
    refine OG.yield (Yield.move rfl) rfl ?_
    refine OG.guard_yes rfl rfl rfl (by decide) ?_
    refine OG.yield (by first | exact Yield.as (Yield.neq rfl rfl) (bT (by omega)) | exact Yield.as (Yield.neq rfl rfl) (bF (by omega)) | exact Yield.neq rfl rfl) rfl ?_
    refine OG.yield (by first | exact Yield.pick_t rfl rfl | exact Yield.pick_f rfl rfl | exact Yield.pick rfl (fun _ => rfl) (fun _ => rfl)) rfl ?_
    refine OG.yield (Yield.assign rfl) rfl ?_
    refine OG.nil ?_
    refine QG.then ?_
    refine CG.cond_t rfl ?_
    refine CG.seq ?_
    refine CG.region ?_
    refine OG.yield (Yield.assign rfl) rfl ?_
    refine OG.yield (Yield.assign rfl) rfl ?_
    refine OG.nil ?_
    refine QG.then ?_
    refine CG.ret ?_
    refine QG.block_ret ?_
    refine QG.pass_ret ?_
    rw [show recvE ch.abs part = 210 by unfold recvE; rw [if_pos (by exact hh)]]
    exact QG.ret2 rfl rfl rfl () trivial rfl (Imp.trans (by repeat (first | exact Imp.refl _ | exact Imp.none _ | apply Imp.pull (by repeat (first | exact Ext.here | apply Ext.there)) | apply Imp.trans Imp.drop)) (Imp.trans (by unfold CP; rw [hxa]; exact Imp.refl _) (cp_back hch hx)))
  · skip
    refine CG.region ?_
    refine OG.yield (Yield.move rfl) rfl ?_
    refine OG.yield (by first | exact Yield.ptr_nil Try.underlying87 rfl rfl | exact Yield.nil_nil Try.underlying87 rfl rfl) rfl ?_
    refine OG.yield (Yield.move rfl) rfl ?_
    refine OG.guard_yes rfl rfl rfl (by decide) ?_
    refine OG.yield (Yield.move rfl) rfl ?_
    refine OG.guard_yes rfl rfl rfl (by decide) ?_
    refine OG.yield (Yield.nilCheck rfl) rfl ?_
    refine OG.guard_yes rfl rfl rfl (by decide) ?_
    refine OG.yield (Yield.fieldAddr fa86_0 rfl) rfl ?_
    refine OG.guard_yes rfl rfl rfl (by decide) ?_
    refine OG.yield (Yield.fieldAddr fa47_2 rfl) rfl ?_
    refine OG.guard_yes rfl rfl rfl (by decide) ?_
    refine OG.yield (Yield.load (v := .int .i64 ch.to) ti3 rfl (((SlR.of_osl (by repeat (first | exact Ext.here | apply Ext.there))).elem Chan.len hcs) 2 _ rfl)) rfl ?_
    refine OG.guard_yes rfl rfl rfl (by decide) ?_
    refine OG.yield (Yield.move rfl) rfl ?_
    refine OG.guard_yes rfl rfl rfl (by decide) ?_
    refine OG.yield (by first | exact Yield.as (Yield.neq rfl rfl) (bT (by omega)) | exact Yield.as (Yield.neq rfl rfl) (bF (by omega)) | exact Yield.neq rfl rfl) rfl ?_
    refine OG.yield (by first | exact Yield.pick_t rfl rfl | exact Yield.pick_f rfl rfl | exact Yield.pick rfl (fun _ => rfl) (fun _ => rfl)) rfl ?_
    refine OG.yield (Yield.assign rfl) rfl ?_
    refine OG.nil ?_
    refine QG.then ?_
    refine CG.cond_f rfl ?_
    refine CG.seq ?_
    refine CG.region ?_
    refine OG.yield (Yield.move rfl) rfl ?_
    refine OG.yield (Yield.nilCheck rfl) rfl ?_
    refine OG.yield (Yield.fieldAddr fa86_2 rfl) rfl ?_
    refine OG.yield (Yield.fieldAddr fa84_0 rfl) rfl ?_
    refine OG.yield (Yield.load (v := ch.r.cell) ti65 rfl (((SlR.of_osl (by repeat (first | exact Ext.here | apply Ext.there))).elem Chan.len hcs) 6 _ rfl)) rfl ?_
    refine OG.yield (Yield.len_slice (a := ch.r.a) (m := ch.r.ms.length) (c := ch.r.c) Try.underlying65 rfl rfl) rfl ?_
    refine OG.yield (by first | exact Yield.as (Yield.eql rfl rfl) (bT (by omega)) | exact Yield.as (Yield.eql rfl rfl) (bF (by omega)) | exact Yield.eql rfl rfl) rfl ?_
    refine OG.yield (Yield.assign rfl) rfl ?_
    refine OG.nil ?_
    refine QG.then ?_
    refine CG.cond_t rfl ?_
    refine CG.seq ?_
    refine CG.region ?_
    refine OG.yield (Yield.assign rfl) rfl ?_
    refine OG.yield (Yield.assign rfl) rfl ?_
    refine OG.nil ?_
    refine QG.then ?_
    refine CG.ret ?_
    refine QG.block_ret ?_
    refine QG.pass_ret ?_
    rw [show recvE ch.abs part = 110 by unfold recvE; rw [if_neg (by exact not_not_intro hh.1), if_pos (by simp only [Chan.abs, End.bs, List.map_eq_nil_iff]; exact List.length_eq_zero_iff.1 hh.2)]]
    exact QG.ret2 rfl rfl rfl () trivial rfl (Imp.trans (by repeat (first | exact Imp.refl _ | exact Imp.none _ | apply Imp.pull (by repeat (first | exact Ext.here | apply Ext.there)) | apply Imp.trans Imp.drop)) (Imp.trans (by unfold CP; rw [hxa]; exact Imp.refl _) (cp_back hch hx)))
set_option maxHeartbeats 1000000 in
theorem recv_ok {p n : Nat} {acs : List AC} (part : Int) {ac : AC} {m : B} {rest : List B} (hac : acs[n]? = some ac) (hto : ac.to = part) (hr : ac.r = m :: rest) :
    Ctr Try.prog W0 25 [.pointer (some ⟨p, 0, none⟩), .int .i64 part, .int .i64 n] (Po p acs :: Fr) (fun _ : Nat => True) (fun z => .tuple #[.slice (some ⟨z, 0, none⟩) m.length m.length, .int .i64 0]) (fun z => oby 5 (some ⟨z, 0, none⟩) m.length m :: Po p (acs.set n (if ac.kind = 2 then { ac with r := rest } else ac)) :: Fr) := by
  refine Ctr.ex Ext.here po_open ?_
  intro x hx
  refine Ctr.imp star_open ?_
  have hln := hx.lens
  obtain ⟨ch, hch, rfl⟩ := hx.get hac
  have hnl : n < x.chs.length := (List.getElem?_eq_some_iff.1 hch).1
  have hok := hx.ok _ (List.mem_of_getElem? hac)
  have hmem := hx.mem ch (List.mem_of_getElem? hch)
  obtain ⟨m0, ms', hrm, hm0, hms⟩ : ∃ m0 ms', ch.r.ms = m0 :: ms' ∧ m0.b = m ∧ ms'.map Msg.b = rest := by
    have hr2 : ch.r.ms.map Msg.b = m :: rest := hr
    cases hq : ch.r.ms with
    | nil => rw [hq] at hr2; cases hr2
    | cons m0 ms' => rw [hq] at hr2; simp only [List.map_cons, List.cons.injEq] at hr2; exact ⟨m0, ms', rfl, hr2.1, hr2.2⟩
  have hrl : ch.r.ms.length ≤ 8 := by have := hok.r; simp only [Chan.abs, End.bs, List.length_map] at this; exact this
  have hr1 : 1 ≤ ch.r.ms.length := by rw [hrm]; simp
  have hml : m.length ≤ 64 := hok.rl m (by rw [hr]; simp)
  have hto2 : ch.to = part := hto
  refine Ctr.imp (cp_open hch) ?_
  have hcs : (x.chs.set n ch)[n]? = some ch := by rw [set_self hch]; exact hch
  refine Ctr.pure (fun w hw => shape_chs (cs := x.chs.set n ch) hch (by rw [List.length_set]) (Ext.there Ext.here) w hw) ?_
  rintro ⟨b, o, hxa⟩
  unfold CP
  rw [hxa]
  dsimp only [List.cons_append, List.nil_append]
  refine Ctr.pure (fun w hw => SlR.shape (SlR.of_osl (W0 := W0) (E := 49) (sz := 1) (a := ch.r.a) (c := ch.r.c) (m := ch.r.ms.length) (xs := ch.r.ms.map Msg.cell) (by repeat (first | exact Ext.here | apply Ext.there))) (by rw [hrm]; simp) w hw) ?_
  rintro ⟨br, or', hra⟩
  subst hm0
  refine Ctr.of_body Try.func25 rfl Try.ntmps25 rfl ?_
  refine CG.seq ?_
  refine CG.region ?_
  refine OG.yield (Yield.assign rfl) rfl ?_
  refine OG.yield (Yield.assign rfl) rfl ?_
  refine OG.nil ?_
  refine QG.then ?_
  refine CG.seq ?_
  refine CG.region ?_
  refine OG.yield (Yield.move rfl) rfl ?_
  refine OG.yield (Yield.move rfl) rfl ?_
  refine OG.callo call45 rfl ((by repeat (first | exact Imp.refl _ | exact Imp.none _ | apply Imp.pull (by repeat (first | exact Ext.here | apply Ext.there)) | apply Imp.trans Imp.drop))) (at_in W0 _ (p := p) (b := b) (o := o) (c := x.c) (n := n) hnl) rfl ?_
  rintro ⟨⟩ -
  refine OG.yield (Yield.assign rfl) rfl ?_
  refine OG.nil ?_
  refine QG.then ?_
  refine CG.seq ?_
  refine CG.block ?_
  refine CG.seq ?_
  refine CG.region ?_
  refine OG.yield (Yield.move rfl) rfl ?_
  refine OG.yield (by first | exact Yield.ptr_nil Try.underlying87 rfl rfl | exact Yield.nil_nil Try.underlying87 rfl rfl) rfl ?_
  refine OG.yield (Yield.move rfl) rfl ?_
  refine OG.guard_yes rfl rfl rfl (by decide) ?_
  refine OG.yield (Yield.move rfl) rfl ?_
  refine OG.guard_yes rfl rfl rfl (by decide) ?_
  refine OG.yield (Yield.nilCheck rfl) rfl ?_
  refine OG.guard_yes rfl rfl rfl (by decide) ?_
  refine OG.yield (Yield.fieldAddr fa86_0 rfl) rfl ?_
  refine OG.guard_yes rfl rfl rfl (by decide) ?_
  refine OG.yield (Yield.fieldAddr fa47_2 rfl) rfl ?_
  refine OG.guard_yes rfl rfl rfl (by decide) ?_
  refine OG.yield (Yield.load (v := .int .i64 ch.to) ti3 rfl (((SlR.of_osl (by repeat (first | exact Ext.here | apply Ext.there))).elem Chan.len hcs) 2 _ rfl)) rfl ?_
  refine OG.guard_yes rfl rfl rfl (by decide) ?_
  refine OG.yield (Yield.move rfl) rfl ?_
  refine OG.guard_yes rfl rfl rfl (by decide) ?_
  refine OG.yield (by first | exact Yield.as (Yield.neq rfl rfl) (bT (by omega)) | exact Yield.as (Yield.neq rfl rfl) (bF (by omega)) | exact Yield.neq rfl rfl) rfl ?_
  refine OG.yield (by first | exact Yield.pick_t rfl rfl | exact Yield.pick_f rfl rfl | exact Yield.pick rfl (fun _ => rfl) (fun _ => rfl)) rfl ?_
  refine OG.yield (Yield.assign rfl) rfl ?_
  refine OG.nil ?_
  refine QG.then ?_
  refine CG.cond_f rfl ?_
  refine CG.seq ?_
  refine CG.region ?_
  refine OG.yield (Yield.move rfl) rfl ?_
  refine OG.yield (Yield.nilCheck rfl) rfl ?_
  refine OG.yield (Yield.fieldAddr fa86_2 rfl) rfl ?_
  refine OG.yield (Yield.fieldAddr fa84_0 rfl) rfl ?_
  refine OG.yield (Yield.load (v := ch.r.cell) ti65 rfl (((SlR.of_osl (by repeat (first | exact Ext.here | apply Ext.there))).elem Chan.len hcs) 6 _ rfl)) rfl ?_
  refine OG.yield (Yield.len_slice (a := ch.r.a) (m := ch.r.ms.length) (c := ch.r.c) Try.underlying65 rfl rfl) rfl ?_
  refine OG.yield (by first | exact Yield.as (Yield.eql rfl rfl) (bT (by omega)) | exact Yield.as (Yield.eql rfl rfl) (bF (by omega)) | exact Yield.eql rfl rfl) rfl ?_
  refine OG.yield (Yield.assign rfl) rfl ?_
  refine OG.nil ?_
  refine QG.then ?_
  refine CG.cond_f rfl ?_
  refine CG.skip ?_
  refine QG.block_normal ?_
  refine QG.then ?_
  refine CG.seq ?_
  refine CG.region ?_
  refine OG.yield (Yield.move rfl) rfl ?_
  refine OG.yield (Yield.nilCheck rfl) rfl ?_
  refine OG.yield (Yield.fieldAddr fa86_2 rfl) rfl ?_
  refine OG.yield (Yield.fieldAddr fa84_0 rfl) rfl ?_
  refine OG.yield (Yield.load (v := ch.r.cell) ti65 rfl (((SlR.of_osl (by repeat (first | exact Ext.here | apply Ext.there))).elem Chan.len hcs) 6 _ rfl)) rfl ?_
  refine OG.yield (Yield.index_slice (b := br) (o := or') (m := ch.r.ms.length) (c := ch.r.c) Try.underlying65 ti49 (by unfold End.cell; rw [← hra]; rfl) rfl (by omega) (by omega)) rfl ?_
  refine OG.yield (Yield.load (v := m0.cell) ti49 rfl (by rw [show or' + (0 : Int).toNat * 1 = or' + 0 from rfl]; exact SlR.cel (by rw [← hra]; exact SlR.of_osl (E := 49) (a := ch.r.a) (c := ch.r.c) (m := ch.r.ms.length) (xs := ch.r.ms.map Msg.cell) (by repeat (first | exact Ext.here | apply Ext.there))) (by rw [hrm]; rfl))) rfl ?_
  refine OG.callo call47 rfl (Imp.refl _) (own_spec W0 _ (a := m0.a) (c := m0.c) (bs := m0.b) (by exact (pool_rd (by repeat (first | exact Ext.here | apply Ext.there)) (hmem m0 (.inr (by rw [hrm]; simp)))).slR) (by omega)) rfl ?_
  rintro bz -
  refine OG.yield (Yield.assign rfl) rfl ?_
  refine OG.nil ?_
  refine QG.then ?_
  refine CG.seq ?_
  refine CG.seq ?_
  refine CG.region ?_
  refine OG.yield (Yield.move rfl) rfl ?_
  refine OG.yield (Yield.nilCheck rfl) rfl ?_
  refine OG.yield (Yield.fieldAddr fa86_0 rfl) rfl ?_
  refine OG.yield (Yield.fieldAddr fa47_0 rfl) rfl ?_
  refine OG.yield (Yield.load (v := .int .i64 ch.kind) ti3 rfl (((SlR.of_osl (by repeat (first | exact Ext.here | apply Ext.there))).elem Chan.len hcs) 0 _ rfl)) rfl ?_
  refine OG.yield (Yield.eql rfl rfl) rfl ?_
  refine OG.nil ?_
  refine QG.then ?_
  refine CG.cond rfl (fun hc => ?_) (fun hc => ?_)
  · try replace hc := of_decide_eq_true hc
    refine CG.region ?_
    refine OG.yield (Yield.move rfl) rfl ?_
    refine OG.yield (Yield.move rfl) rfl ?_
    refine OG.yield (Yield.nilCheck rfl) rfl ?_
    refine OG.yield (Yield.fieldAddr fa86_2 rfl) rfl ?_
    refine OG.callo call49 rfl (Imp.refl _) (all_spec W0 _ (b := b) (o := o + n * 7 + 6) (x := ch.r) (by exact ((SlR.of_osl (by repeat (first | exact Ext.here | apply Ext.there))).elem Chan.len hcs) 6 _ rfl) (by exact SlR.of_osl (E := 49) (by repeat (first | exact Ext.here | apply Ext.there))) (by intro m hm; exact pool_rd (by repeat (first | exact Ext.here | apply Ext.there)) (hmem m (.inr hm))) (by omega) (by intro m hm; have := hok.rl m.b (List.mem_map_of_mem hm); omega)) rfl ?_
    rintro y hy
    have hyl : y.ms.length = ch.r.ms.length := by have := congrArg List.length hy; unfold End.bs at this; simpa using this
    refine OG.pure (fun w hw => osl_facts (W0 := W0) (E := 49) (sz := 1) (a := y.a) (c := y.c) (m := y.ms.length) (xs := y.ms.map Msg.cell) (by repeat (first | exact Ext.here | apply Ext.there)) w hw) ?_
    rintro ⟨-, hyc⟩
    refine OG.yield (Yield.tail (y := y) Try.underlying65 ti49 rfl (by omega) hyc) rfl ?_
    refine OG.yield (Yield.nilCheck rfl) rfl ?_
    refine OG.yield (Yield.fieldAddr fa86_2 rfl) rfl ?_
    refine OG.yield (Yield.fieldAddr fa84_0 rfl) rfl ?_
    refine OG.eff (Eff.storeFld (i := n) 6 (r := ch) (r' := { ch with r := y.tail }) (rs := x.chs.set n ch) Chan.len hcs rfl (by decide) ti65 rfl rfl (by repeat (first | exact Foc.here | apply Foc.there)) rfl (by rw [List.length_set])) rfl ?_
    rintro ⟨⟩ -
    refine OG.nil ?_
    refine QG.then ?_
    refine CG.seq ?_
    refine CG.region ?_
    refine OG.yield (Yield.move rfl) rfl ?_
    refine OG.yield (Yield.assign rfl) rfl ?_
    refine OG.yield (Yield.assign rfl) rfl ?_
    refine OG.nil ?_
    refine QG.then ?_
    refine CG.ret ?_
    rw [if_pos (by exact hc)]
    have hyt : y.tail.bs = rest := by rw [End.tail_bs, hy]; show (ch.r.ms.map Msg.b).tail = rest; rw [hrm]; exact hms
    have hcl := cp_close (p := p) (ms := y.ms) (ch := { ch with r := y.tail }) (G := Fr) hch hx ⟨hok.s, by show y.tail.bs.length ≤ 8; rw [hyt, ← hms, List.length_map]; rw [hrm] at hrl; simp only [List.length_cons] at hrl; omega, hok.sl, fun m hm => hok.rl m (by rw [hr]; have hm2 : m ∈ y.tail.bs := hm; rw [hyt] at hm2; simp [hm2])⟩ (fun m hm => by rcases hm with hm | hm; exact List.mem_append.2 (.inr (hmem m (.inl hm))); exact List.mem_append.2 (.inl (List.mem_of_mem_tail hm)))
    rw [show Chan.abs { ch with r := y.tail } = { ch.abs with r := rest } by simp only [Chan.abs]; rw [hyt]] at hcl
    unfold CP at hcl
    rw [hxa, List.set_set] at *
    refine QG.ret2 rfl rfl rfl bz trivial rfl (Imp.trans ?_ (Imp.cons hcl))
    refine Imp.trans ?_ (Imp.cons (Imp.cons (Imp.cons (Imp.cons (Imp.head (fun h hh => oend_tail (by omega) h hh))))))
    dsimp only
    exact (by repeat (first | exact Imp.refl _ | exact Imp.none _ | apply Imp.pull (by repeat (first | exact Ext.here | apply Ext.there)) | apply Imp.trans Imp.drop))
  · try replace hc := of_decide_eq_false hc
    refine CG.skip ?_
    refine QG.then ?_
    refine CG.seq ?_
    refine CG.region ?_
    refine OG.yield (Yield.move rfl) rfl ?_
    refine OG.yield (Yield.assign rfl) rfl ?_
    refine OG.yield (Yield.assign rfl) rfl ?_
    refine OG.nil ?_
    refine QG.then ?_
    refine CG.ret ?_
    rw [if_neg (by exact hc), set_self hac]
    exact QG.ret2 rfl rfl rfl bz trivial rfl (Imp.trans (Imp.pull (by repeat (first | exact Ext.here | apply Ext.there)) (by repeat (first | exact Imp.refl _ | exact Imp.none _ | apply Imp.pull (by repeat (first | exact Ext.here | apply Ext.there)) | apply Imp.trans Imp.drop))) (Imp.cons (Imp.trans (by unfold CP; rw [hxa]; exact Imp.refl _) (cp_back hch hx))))
theorem held_out {p : Nat} {acs : List AC} (n : Int) (sd : Bool) (hn : n < 0 ∨ (acs.length : Int) ≤ n) : Ctr Try.prog W0 32 [.pointer (some ⟨p, 0, none⟩), .int .i64 n, .bool sd] (Po p acs :: Fr) (fun _ : Unit => True) (fun _ => .slice none 0 0) (fun _ => Po p acs :: Fr) := by
  refine Ctr.ex Ext.here po_open ?_
  intro x hx
  refine Ctr.imp star_open ?_
  have hln := hx.lens
  dsimp only [CO, List.cons_append, List.nil_append]
  refine Ctr.of_body Try.func32 rfl Try.ntmps32 rfl ?_
  refine CG.seq ?_
  refine CG.region ?_
  refine OG.yield (Yield.assign rfl) rfl ?_
  refine OG.nil ?_
  refine QG.then ?_
  refine CG.seq ?_
  refine CG.region ?_
  refine OG.yield (Yield.move rfl) rfl ?_
  refine OG.yield (Yield.move rfl) rfl ?_
  refine OG.callo call45 rfl ((by repeat (first | exact Imp.refl _ | exact Imp.none _ | apply Imp.pull (by repeat (first | exact Ext.here | apply Ext.there)) | apply Imp.trans Imp.drop))) (at_out W0 _ (p := p) (n := n) (by omega)) rfl ?_
  rintro ⟨⟩ -
  refine OG.yield (Yield.assign rfl) rfl ?_
  refine OG.nil ?_
  refine QG.then ?_
  refine CG.seq ?_
  refine CG.block ?_
  refine CG.seq ?_
  refine CG.region ?_
  refine OG.yield (Yield.move rfl) rfl ?_
  refine OG.yield (by first | exact Yield.ptr_nil Try.underlying87 rfl rfl | exact Yield.nil_nil Try.underlying87 rfl rfl) rfl ?_
  refine OG.yield (Yield.assign rfl) rfl ?_
  refine OG.nil ?_
  refine QG.then ?_
  refine CG.cond_t rfl ?_
  refine CG.seq ?_
  refine CG.region ?_
  refine OG.yield (Yield.assign rfl) rfl ?_
  refine OG.nil ?_
  refine QG.then ?_
  refine CG.ret ?_
  refine QG.block_ret ?_
  refine QG.pass_ret ?_
  exact QG.ret1 rfl rfl () trivial rfl (Imp.trans (by repeat (first | exact Imp.refl _ | exact Imp.none _ | apply Imp.pull (by repeat (first | exact Ext.here | apply Ext.there)) | apply Imp.trans Imp.drop)) (po_close x hx))
theorem held_in {p n : Nat} {acs : List AC} (sd : Bool) {ac : AC} (hac : acs[n]? = some ac) :
    Ctr Try.prog W0 32 [.pointer (some ⟨p, 0, none⟩), .int .i64 n, .bool sd] (Po p acs :: Fr) (fun y : End => y.bs = if sd then ac.s else ac.r) (fun y => y.cell) (fun y => oend y :: pool y.ms :: Po p acs :: Fr) := by
  refine Ctr.ex Ext.here po_open ?_
  intro x hx
  refine Ctr.imp star_open ?_
  have hln := hx.lens
  obtain ⟨ch, hch, rfl⟩ := hx.get hac
  have hnl : n < x.chs.length := (List.getElem?_eq_some_iff.1 hch).1
  have hok := hx.ok _ (List.mem_of_getElem? hac)
  have hmem := hx.mem ch (List.mem_of_getElem? hch)
  have hrl : ch.r.ms.length ≤ 8 := by have := hok.r; simp only [Chan.abs, End.bs, List.length_map] at this; exact this
  have hsl : ch.s.ms.length ≤ 8 := by have := hok.s; simp only [Chan.abs, End.bs, List.length_map] at this; exact this
  refine Ctr.imp (cp_open hch) ?_
  have hcs : (x.chs.set n ch)[n]? = some ch := by rw [set_self hch]; exact hch
  refine Ctr.pure (fun w hw => shape_chs (cs := x.chs.set n ch) hch (by rw [List.length_set]) (Ext.there Ext.here) w hw) ?_
  rintro ⟨b, o, hxa⟩
  unfold CP
  rw [hxa]
  dsimp only [List.cons_append, List.nil_append]
  refine Ctr.of_body Try.func32 rfl Try.ntmps32 rfl ?_
  refine CG.seq ?_
  refine CG.region ?_
  refine OG.yield (Yield.assign rfl) rfl ?_
  refine OG.nil ?_
  refine QG.then ?_
  refine CG.seq ?_
  refine CG.region ?_
  refine OG.yield (Yield.move rfl) rfl ?_
  refine OG.yield (Yield.move rfl) rfl ?_
  refine OG.callo call45 rfl ((by repeat (first | exact Imp.refl _ | exact Imp.none _ | apply Imp.pull (by repeat (first | exact Ext.here | apply Ext.there)) | apply Imp.trans Imp.drop))) (at_in W0 _ (p := p) (b := b) (o := o) (c := x.c) (n := n) hnl) rfl ?_
  rintro ⟨⟩ -
  refine OG.yield (Yield.assign rfl) rfl ?_
  refine OG.nil ?_
  refine QG.then ?_
  refine CG.seq ?_
  refine CG.block ?_
  refine CG.seq ?_
  refine CG.region ?_
  refine OG.yield (Yield.move rfl) rfl ?_
  refine OG.yield (by first | exact Yield.ptr_nil Try.underlying87 rfl rfl | exact Yield.nil_nil Try.underlying87 rfl rfl) rfl ?_
  refine OG.yield (Yield.assign rfl) rfl ?_
  refine OG.nil ?_
  refine QG.then ?_
  refine CG.cond_f rfl ?_
  refine CG.seq ?_
  refine CG.region ?_
  refine OG.yield (Yield.move rfl) rfl ?_
  refine OG.yield (Yield.assign rfl) rfl ?_
  refine OG.nil ?_
  refine QG.then ?_
  refine CG.cond rfl (fun hc => ?_) (fun hc => ?_)
  · try replace hc := of_decide_eq_true hc
    refine CG.seq ?_
    refine CG.region ?_
    refine OG.yield (Yield.move rfl) rfl ?_
    refine OG.yield (Yield.nilCheck rfl) rfl ?_
    refine OG.yield (Yield.fieldAddr fa86_1 rfl) rfl ?_
    refine OG.callo call49 rfl (Imp.refl _) (all_spec W0 _ (b := b) (o := o + n * 7 + 5) (x := ch.s) (by exact ((SlR.of_osl (by repeat (first | exact Ext.here | apply Ext.there))).elem Chan.len hcs) 5 _ rfl) (by exact SlR.of_osl (E := 49) (by repeat (first | exact Ext.here | apply Ext.there))) (by intro m hm; exact pool_rd (by repeat (first | exact Ext.here | apply Ext.there)) (hmem m (.inl hm))) (by omega) (by intro m hm; have := hok.sl m.b (List.mem_map_of_mem hm); omega)) rfl ?_
    rintro y hy
    refine OG.yield (Yield.assign rfl) rfl ?_
    refine OG.nil ?_
    refine QG.then ?_
    refine CG.ret ?_
    refine QG.block_ret ?_
    refine QG.pass_ret ?_
    exact QG.ret1 rfl rfl y (by rw [if_pos hc]; exact hy) rfl (Imp.cons (Imp.cons (Imp.trans (by unfold CP; rw [hxa]; exact Imp.refl _) (cp_back hch hx))))
  · try replace hc := of_decide_eq_false hc
    refine CG.skip ?_
    refine QG.block_normal ?_
    refine QG.then ?_
    refine CG.seq ?_
    refine CG.region ?_
    refine OG.yield (Yield.move rfl) rfl ?_
    refine OG.yield (Yield.nilCheck rfl) rfl ?_
    refine OG.yield (Yield.fieldAddr fa86_2 rfl) rfl ?_
    refine OG.callo call49 rfl (Imp.refl _) (all_spec W0 _ (b := b) (o := o + n * 7 + 6) (x := ch.r) (by exact ((SlR.of_osl (by repeat (first | exact Ext.here | apply Ext.there))).elem Chan.len hcs) 6 _ rfl) (by exact SlR.of_osl (E := 49) (by repeat (first | exact Ext.here | apply Ext.there))) (by intro m hm; exact pool_rd (by repeat (first | exact Ext.here | apply Ext.there)) (hmem m (.inr hm))) (by omega) (by intro m hm; have := hok.rl m.b (List.mem_map_of_mem hm); omega)) rfl ?_
    rintro y hy
    refine OG.yield (Yield.assign rfl) rfl ?_
    refine OG.nil ?_
    refine QG.then ?_
    refine CG.ret ?_
    exact QG.ret1 rfl rfl y (by rw [if_neg (by rw [hc]; decide)]; exact hy) rfl (Imp.cons (Imp.cons (Imp.trans (by unfold CP; rw [hxa]; exact Imp.refl _) (cp_back hch hx))))
end
end Go.Proofs.Ytjigjbcdopmeeaa.Po
