/- block.Block as bytes and a queue of jobs: New, and the queue. -/
import Derived.Test.YtoejnhfcegchhaaVd3
import Derived.Test.YtoejnhfcegchhaaInp
namespace Go.Proofs.Ytoejnhfcegchhaa.Bk
open Go Go.Sl Go.RowKit Go.Proofs Go.Proofs.Ytoejnhfcegchhaa.T Go.Proofs.Ytoejnhfcegchhaa.Ms Go.Proofs.Ytoejnhfcegchhaa.Vd
set_option linter.unusedVariables false
set_option linter.unusedSimpArgs false
set_option maxRecDepth 100000
/-- A job: a request, and when it is done. -/
structure Jb where
  r : Rq
  done : Int
structure CJ where
  r : CR
  done : Int
def CJ.cells (j : CJ) : List Value := [.int .i64 j.r.part, .int .u32 j.r.tag, .bool j.r.write, .int .i64 j.r.sector, j.r.m.cell, .int .i64 j.done]
def CJ.abs (j : CJ) : Jb := ⟨j.r.abs, j.done⟩
def CJ.m (j : CJ) : Msg := j.r.m
theorem CJ.len (j : CJ) : j.cells.length = 6 := rfl
theorem CJ.ones (j : CJ) : ∀ v ∈ j.cells, one v = true := by simp [CJ.cells, one, Msg.cell]
structure Bs where
  bytes : B
  delays : List Int
  taken : Int
  free : Int
  q : List Jb
def Bs.n (s : Bs) : Nat := s.bytes.length / 64
def dmax : Nat := 140737488351232
structure Bs.OK (s : Bs) : Prop where
  len : ∃ n, s.bytes.length = 64 * n ∧ n ≤ 1024
  dls : s.delays.length ≤ 17592186043904
  del : ∀ x ∈ s.delays, 0 ≤ x ∧ x ≤ 1048576
  taken : 0 ≤ s.taken
  free : 0 ≤ s.free ∧ s.free ≤ 281474976710656 + s.taken * 1048576
  ql : s.q.length ≤ 32
  sec : ∀ j ∈ s.q, 0 ≤ j.r.sector ∧ j.r.sector < s.n
  dat : ∀ j ∈ s.q, j.r.data.length ≤ dmax ∧ (j.r.write = true → j.r.data.length = 64)
structure BX where
  js : List CJ
  ba : Option Addr
  bc : Nat
  da : Option Addr
  dc : Nat
  qa : Option Addr
  qc : Nat
abbrev BH (b : Nat) (ba : Option Addr) (bm bc : Nat) (da : Option Addr) (dm dc : Nat) (taken free : Int) (qa : Option Addr) (qm qc : Nat) : HProp :=
  blk b [.slice ba bm bc, .slice da dm dc, .int .i64 taken, .int .i64 free, .slice qa qm qc] 100
abbrev ojobs (a : Option Addr) (c : Nat) (l : List CJ) : HProp := osl 102 6 a c l.length ((l.map CJ.cells).flatten)
abbrev jpool (l : List CJ) : HProp := pool (l.map CJ.m)
abbrev BO (b : Nat) (s : Bs) (x : BX) : List HProp :=
  [BH b x.ba s.bytes.length x.bc x.da s.delays.length x.dc s.taken s.free x.qa x.js.length x.qc, oby 5 x.ba x.bc s.bytes, onum 3 .i64 x.da x.dc s.delays, ojobs x.qa x.qc x.js, jpool x.js]
structure BX.OK (x : BX) (s : Bs) : Prop where
  abs : x.js.map CJ.abs = s.q
  ok : s.OK
/-- At block b lies a disk. -/
def Bl (b : Nat) (s : Bs) : HProp := fun h => ∃ x : BX, x.OK s ∧ Star (BO b s x) h
theorem bl_open {b : Nat} {s : Bs} (y : Heaplet) (h : Bl b s y) : ∃ x : BX, x.OK s ∧ Star (BO b s x) y := h
theorem bl_close {b : Nat} {s : Bs} {G : List HProp} (x : BX) (hx : x.OK s) : Imp (BO b s x ++ G) (Bl b s :: G) := Imp.trans star_close (Imp.head fun y hy => ⟨x, hx, hy⟩)
theorem bl_facts {W0 : World} {G R : List HProp} {b : Nat} {s : Bs} (x : Ext G (Bl b s) R) (w : World) (hw : Sat W0 G w) : s.OK := by
  obtain ⟨_, _, y, hy, _⟩ := Sat.ext x hw
  exact hy.ok
theorem BX.OK.len {x : BX} {s : Bs} (h : x.OK s) : x.js.length = s.q.length := by rw [← h.abs]; simp
theorem shape_js {W0 : World} {G R : List HProp} {a : Option Addr} {c n : Nat} {l : List CJ} (h : n < l.length) (e : Ext G (ojobs a c l) R) (w : World) (hw : Sat W0 G w) : ∃ b o, a = some ⟨b, o, none⟩ :=
  (SlR.of_osl e).elem_shape (i := n) CJ.len (by decide) h w hw
theorem bytes_shape {W0 : World} {G R : List HProp} {a : Option Addr} {c : Nat} {bs : B} (h : 0 < bs.length) (e : Ext G (oby 5 a c bs) R) (w : World) (hw : Sat W0 G w) : ∃ b o, a = some ⟨b, o, none⟩ :=
  SlR.shape (SlR.of_osl e) (by intro q; have := congrArg List.length q; rw [bytesV_length] at this; simp only [List.length_nil] at this; omega) w hw
def jz : CJ := ⟨⟨0, 0, false, 0, Msg.nil⟩, 0⟩
theorem Jb.ext {a b : Jb} (h1 : a.r = b.r) (h2 : a.done = b.done) : a = b := by cases a; cases b; simp only at h1 h2; subst h1 h2; rfl
section
variable (W0 : World) (Fr : List HProp)
theorem cloneI_spec {a : Option Addr} {c : Nat} {l : List Int} (hr : SlR W0 Fr 1 a l.length (intsV .i64 l)) (hb : l.length ≤ 17592186043904) : Ctr Try.prog W0 44 [.slice a l.length c] Fr (fun _ : Option Addr × Nat => True) (fun q => .slice q.1 l.length q.2) (fun q => onum 3 .i64 q.1 q.2 l :: Fr) := by
  refine Ctr.pure (ψ := a = none → l = []) (fun w hw h => by
    subst h
    obtain ⟨_, h2 | ⟨_, _, h2, _⟩⟩ := hr w hw
    · have := congrArg List.length h2; rw [intsV_len] at this; exact List.length_eq_zero_iff.1 this
    · cases h2) fun hn => ?_
  refine Ctr.of_body Try.func44 rfl Try.ntmps44 rfl ?_
  refine CG.seq ?_
  refine CG.region ?_
  refine OG.yield (Yield.assign rfl) rfl ?_
  refine OG.nil ?_
  refine QG.then ?_
  refine CG.seq ?_
  refine CG.seq ?_
  rcases a with _ | ad
  · skip
    refine CG.region ?_
    refine OG.yield (Yield.move rfl) rfl ?_
    refine OG.yield (Yield.sl_nil Try.underlying23 rfl rfl) rfl ?_
    refine OG.nil ?_
    refine QG.then ?_
    refine CG.cond_t rfl ?_
    refine CG.seq ?_
    refine CG.region ?_
    refine OG.yield (Yield.assign rfl) rfl ?_
    refine OG.nil ?_
    refine QG.then ?_
    refine CG.ret ?_
    refine QG.pass_ret ?_
    have hb0 := hn rfl
    subst hb0
    exact QG.ret1 rfl rfl (none, 0) trivial rfl osl_nil
  · skip
    refine CG.region ?_
    refine OG.yield (Yield.move rfl) rfl ?_
    refine OG.yield (Yield.sl_nil Try.underlying23 rfl rfl) rfl ?_
    refine OG.nil ?_
    refine QG.then ?_
    refine CG.cond_f rfl ?_
    refine CG.skip ?_
    refine QG.then ?_
    refine CG.seq ?_
    refine CG.region ?_
    refine OG.effd (Eff.lit0 Try.underlying23 ti3 rfl) rfl ?_
    rintro b5 -
    refine OG.yield (Yield.move rfl) rfl ?_
    refine OG.effd (Eff.append (a := some ⟨b5, 0, none⟩) (c := 0) (m := 0) (xs := []) (k := l.length) (ys := intsV .i64 l) rfl rfl rfl Try.underlying23 Try.underlying23 ti3 rfl (by decide) (by repeat (first | exact Foc.here | apply Foc.there)) (hr.imp (by repeat (first | exact Imp.refl _ | exact Imp.none _ | apply Imp.pull (by repeat (first | exact Ext.here | apply Ext.there)) | apply Imp.trans Imp.drop))) (intsV_ones _ _) (by omega)) rfl ?_
    rintro ⟨am, cm⟩ -
    rw [Nat.zero_add, List.nil_append]
    refine OG.yield (Yield.assign rfl) rfl ?_
    refine OG.nil ?_
    refine QG.then ?_
    refine CG.ret ?_
    exact QG.ret1 rfl rfl (am, cm) trivial rfl (by repeat (first | exact Imp.refl _ | exact Imp.none _ | apply Imp.pull (by repeat (first | exact Ext.here | apply Ext.there)) | apply Imp.trans Imp.drop))
/-- Is a delay wrong? -/
def badD (d : Int) : Bool := decide (d < 0) || decide (1048576 < d)
theorem wrong_spec (d : Int) : Ctr Try.prog W0 42 [.int .i64 d] Fr (fun _ : Unit => True) (fun _ => .bool (badD d)) (fun _ => Fr) := by
  refine Ctr.of_body Try.func42 rfl Try.ntmps42 rfl ?_
  refine CG.seq ?_
  refine CG.region ?_
  refine OG.yield (Yield.assign rfl) rfl ?_
  refine OG.nil ?_
  refine QG.then ?_
  refine CG.seq ?_
  rcases (show d < 0 ∨ 0 ≤ d by omega) with hh | hh
  · skip
    refine CG.region ?_
    refine OG.yield (Yield.move rfl) rfl ?_
    refine OG.yield (by first | exact Yield.as (Yield.lss rfl rfl) (bT (by omega)) | exact Yield.as (Yield.lss rfl rfl) (bF (by omega)) | exact Yield.lss rfl rfl) rfl ?_
    refine OG.yield (Yield.move rfl) rfl ?_
    refine OG.guard_no rfl rfl rfl rfl rfl (by decide) (by decide) ?_
    refine OG.guard_no rfl rfl rfl rfl rfl (by decide) (by decide) ?_
    refine OG.yield (by first | exact Yield.pick_t rfl rfl | exact Yield.pick_f rfl rfl | exact Yield.pick rfl (fun _ => rfl) (fun _ => rfl)) rfl ?_
    refine OG.yield (Yield.assign rfl) rfl ?_
    refine OG.nil ?_
    refine QG.then ?_
    refine CG.ret ?_
    exact QG.ret1 rfl rfl () trivial (by unfold badD; rw [decide_eq_true hh]; rfl) (Imp.refl _)
  · skip
    refine CG.region ?_
    refine OG.yield (Yield.move rfl) rfl ?_
    refine OG.yield (by first | exact Yield.as (Yield.lss rfl rfl) (bT (by omega)) | exact Yield.as (Yield.lss rfl rfl) (bF (by omega)) | exact Yield.lss rfl rfl) rfl ?_
    refine OG.yield (Yield.move rfl) rfl ?_
    refine OG.guard_yes rfl rfl rfl (by decide) ?_
    refine OG.yield (Yield.move rfl) rfl ?_
    refine OG.guard_yes rfl rfl rfl (by decide) ?_
    refine OG.yield (Yield.gtr rfl rfl) rfl ?_
    refine OG.yield (by first | exact Yield.pick_t rfl rfl | exact Yield.pick_f rfl rfl | exact Yield.pick rfl (fun _ => rfl) (fun _ => rfl)) rfl ?_
    refine OG.yield (Yield.assign rfl) rfl ?_
    refine OG.nil ?_
    refine QG.then ?_
    refine CG.ret ?_
    exact QG.ret1 rfl rfl () trivial (by unfold badD; rw [decide_eq_false (p := d < 0) (by omega)]; rfl) (Imp.refl _)
theorem indexI_spec {c : Nat} {a : Option Addr} {l : List Int} (hs : SlR W0 Fr 1 a l.length (intsV .i64 l)) (hl : l.length ≤ 17592186043904) :
    Ctr Try.prog W0 66 [.slice a l.length c, .func (.func 42) [].toArray [].toArray] Fr (fun _ : Unit => True) (fun _ => .int .i64 (oi (l.findIdx? badD))) (fun _ => Fr) := by
  have hol := intsV_len .i64 l
  refine Ctr.of_body Try.func66 rfl Try.ntmps66 rfl ?_
  refine CG.seq ?_
  refine CG.region ?_
  refine OG.yield (Yield.assign rfl) rfl ?_
  refine OG.nil ?_
  refine QG.then ?_
  refine CG.seq ?_
  refine CG.seq ?_
  refine CG.region ?_
  refine OG.yield (Yield.move rfl) rfl ?_
  refine OG.yield (Yield.len_slice Try.underlying23 rfl rfl) rfl ?_
  refine OG.yield (Yield.move rfl) rfl ?_
  refine OG.nil ?_
  refine QG.then ?_
  refine CG.block ?_
  refine CG.loop (fun i : Nat => i ≤ l.length ∧ ∀ y ∈ l.take i, badD y = false) (fun i => [(0, .slice a l.length c), (1, .func (.func 42) [].toArray [].toArray), (7, .int .i64 l.length), (8, .int .i64 i)]) (fun _ => Fr) (fun i => l.length - i) 0 ⟨Nat.zero_le _, fun y h => absurd h (by simp)⟩ (by repeat (first | exact Env.sub_nil _ | refine Env.sub_cons rfl ?_)) (Imp.refl _) ?_
  rintro i ⟨hi, hno⟩
  refine CG.seq ?_
  refine CG.region ?_
  refine OG.yield (by first | exact Yield.as (Yield.lss rfl rfl) (bT (by omega)) | exact Yield.as (Yield.lss rfl rfl) (bF (by omega)) | exact Yield.lss rfl rfl) rfl ?_
  refine OG.nil ?_
  refine QG.then ?_
  refine CG.seq ?_
  refine CG.cond rfl (fun hc => ?_) (fun hc => ?_)
  · try replace hc := of_decide_eq_true hc
    have hi' : i < l.length := by omega
    have hget : l[i]? = some l[i] := by simp [hi']
    generalize l[i] = d at hget
    refine CG.pure (fun w hw => SlR.shape hs (by intro h; rw [h] at hol; simp only [List.length_nil] at hol; omega) w hw) ?_
    rintro ⟨ba, oa, rfl⟩
    refine CG.skip ?_
    refine QG.then ?_
    refine CG.seq ?_
    refine CG.block ?_
    refine CG.seq ?_
    refine CG.region ?_
    refine OG.yield (Yield.move rfl) rfl ?_
    refine OG.yield (Yield.assign rfl) rfl ?_
    refine OG.nil ?_
    refine QG.then ?_
    refine CG.seq ?_
    refine CG.region ?_
    refine OG.yield (Yield.move rfl) rfl ?_
    refine OG.yield (Yield.move rfl) rfl ?_
    refine OG.yield (Yield.move rfl) rfl ?_
    refine OG.yield (Yield.index_slice Try.underlying23 ti3 rfl rfl (by omega) (by omega)) rfl ?_
    refine OG.yield (Yield.load (v := .int .i64 d) ti3 rfl (by rw [show oa + (i : Int).toNat * 1 = oa + i by omega]; exact hs.cel (intsV_get hget))) rfl ?_
    refine OG.callv call42 rfl rfl (Imp.refl _) (wrong_spec W0 _ d) rfl ?_
    rintro ⟨⟩ -
    refine OG.nil ?_
    refine QG.then ?_
    refine CG.cond rfl (fun hc => ?_) (fun hc => ?_)
    · try replace hc := of_decide_eq_true hc
      refine CG.seq ?_
      refine CG.region ?_
      refine OG.yield (Yield.move rfl) rfl ?_
      refine OG.yield (Yield.assign rfl) rfl ?_
      refine OG.nil ?_
      refine QG.then ?_
      refine CG.ret ?_
      refine QG.block_ret ?_
      refine QG.pass_ret ?_
      refine QG.pass_ret ?_
      refine QG.block_ret ?_
      refine QG.pass_ret ?_
      exact QG.ret1 rfl rfl () trivial (by rw [find_take hno hget hc]; rfl) (by repeat (first | exact Imp.refl _ | exact Imp.none _ | apply Imp.pull (by repeat (first | exact Ext.here | apply Ext.there)) | apply Imp.trans Imp.drop))
    · try replace hc := of_decide_eq_false hc
      refine CG.skip ?_
      refine QG.block_normal ?_
      refine QG.then ?_
      refine CG.region ?_
      refine OG.yield (Yield.add rfl rfl (w64 (by omega) (by omega))) rfl ?_
      refine OG.yield (Yield.move rfl) rfl ?_
      refine OG.nil ?_
      refine QG.next (i + 1) ⟨by omega, ?_⟩ (by omega) (by repeat (first | exact Env.sub_nil _ | refine Env.sub_cons rfl ?_)) (by repeat (first | exact Imp.refl _ | exact Imp.none _ | apply Imp.pull (by repeat (first | exact Ext.here | apply Ext.there)) | apply Imp.trans Imp.drop))
      intro y hy
      obtain ⟨hlt, hq⟩ := List.getElem?_eq_some_iff.1 hget
      rw [List.take_succ_eq_append_getElem hlt, hq] at hy
      rcases List.mem_append.1 hy with hy | hy
      · exact hno y hy
      · simp only [List.mem_cons, List.not_mem_nil, or_false] at hy; subst hy; exact hc
  · try replace hc := of_decide_eq_false hc
    refine CG.exit ?_
    refine QG.pass_exit ?_
    refine QG.pass_exit ?_
    refine QG.block_exit ?_
    refine QG.then ?_
    refine CG.seq ?_
    refine CG.region ?_
    refine OG.yield (Yield.assign rfl) rfl ?_
    refine OG.nil ?_
    refine QG.then ?_
    refine CG.ret ?_
    have hie : i = l.length := by omega
    subst hie
    refine QG.ret1 rfl rfl () trivial ?_ (by repeat (first | exact Imp.refl _ | exact Imp.none _ | apply Imp.pull (by repeat (first | exact Ext.here | apply Ext.there)) | apply Imp.trans Imp.drop))
    rw [show l.findIdx? badD = none by rw [List.findIdx?_eq_none_iff]; intro y hy; exact hno y (by rw [List.take_length]; exact hy)]
    rfl
theorem oi_pos {α : Type} {p : α → Bool} {l : List α} : decide (0 ≤ oi (l.findIdx? p)) = l.any p := by
  cases h : l.findIdx? p with
  | none =>
    rw [List.findIdx?_eq_none_iff] at h
    have : l.any p = false := by rw [List.any_eq_false]; intro x hx; rw [h x hx]; decide
    rw [this]; rfl
  | some i =>
    obtain ⟨hi, hp, _⟩ := List.findIdx?_eq_some_iff_getElem.1 h
    have : l.any p = true := List.any_eq_true.2 ⟨l[i], List.getElem_mem hi, hp⟩
    rw [this]; unfold oi; simp
theorem contains_spec {c : Nat} {a : Option Addr} {l : List Int} (hs : SlR W0 Fr 1 a l.length (intsV .i64 l)) (hl : l.length ≤ 17592186043904) :
    Ctr Try.prog W0 43 [.slice a l.length c, .func (.func 42) [].toArray [].toArray] Fr (fun _ : Unit => True) (fun _ => .bool (l.any badD)) (fun _ => Fr) := by
  refine Ctr.of_body Try.func43 rfl Try.ntmps43 rfl ?_
  refine CG.seq ?_
  refine CG.region ?_
  refine OG.yield (Yield.assign rfl) rfl ?_
  refine OG.nil ?_
  refine QG.then ?_
  refine CG.seq ?_
  refine CG.region ?_
  refine OG.yield (Yield.move rfl) rfl ?_
  refine OG.yield (Yield.move rfl) rfl ?_
  refine OG.callo call66 rfl (Imp.refl _) (indexI_spec W0 _ (a := a) (c := c) hs hl) rfl ?_
  rintro ⟨⟩ -
  refine OG.yield (Yield.as (Yield.geq rfl rfl) (v' := .bool (l.any badD)) (by rw [oi_pos])) rfl ?_
  refine OG.yield (Yield.assign rfl) rfl ?_
  refine OG.nil ?_
  refine QG.then ?_
  refine CG.ret ?_
  exact QG.ret1 rfl rfl () trivial rfl (Imp.refl _)
/-- What a new disk is answered. -/
def newE (sectors : Int) (len : Nat) (delays : List Int) : Int := if sectors < 0 ∨ 1024 < sectors ∨ delays.any badD = true then 2 else if sectors * 64 < (len : Int) then 9 else 0
theorem newE_bad {sectors : Int} {len : Nat} {delays : List Int} (he : newE sectors len delays ≠ 0) : sectors < 0 ∨ (0 ≤ sectors ∧ 1024 < sectors) ∨ (0 ≤ sectors ∧ sectors ≤ 1024 ∧ delays.any badD = true) ∨ (0 ≤ sectors ∧ sectors ≤ 1024 ∧ delays.any badD = false ∧ sectors * 64 < (len : Int)) := by
  by_cases a1 : sectors < 0
  · exact .inl a1
  by_cases a2 : 1024 < sectors
  · exact .inr (.inl ⟨by omega, a2⟩)
  cases hd : delays.any badD with
  | true => exact .inr (.inr (.inl ⟨by omega, by omega, rfl⟩))
  | false =>
    refine .inr (.inr (.inr ⟨by omega, by omega, rfl, ?_⟩))
    by_cases a3 : sectors * 64 < (len : Int)
    · exact a3
    · exfalso; apply he; unfold newE; rw [if_neg (by rw [hd]; simp; omega), if_neg a3]
theorem newE_ok {n len : Nat} {delays : List Int} (he : newE n len delays = 0) : n ≤ 1024 ∧ delays.any badD = false ∧ len ≤ 64 * n := by
  unfold newE at he
  split at he
  · exact absurd he (by decide)
  · rename_i h
    split at he
    · exact absurd he (by decide)
    · rename_i h2
      simp only [not_or] at h
      exact ⟨by omega, by simpa using h.2.2, by omega⟩
theorem any_bad {l : List Int} (h : l.any badD = false) : ∀ x ∈ l, 0 ≤ x ∧ x ≤ 1048576 := fun x hx => by
  have := (List.any_eq_false.1 h) x hx
  unfold badD at this
  simp only [Bool.or_eq_true, decide_eq_true_eq, not_or] at this
  omega
theorem bnew_bad {a da : Option Addr} {c dc m : Nat} {delays : List Int} {sectors : Int} (hs : SlR W0 Fr 1 da delays.length (intsV .i64 delays)) (hl : delays.length ≤ 17592186043904) (he : newE sectors m delays ≠ 0) :
    Ctr Try.prog W0 18 [.int .i64 sectors, .slice a m c, .slice da delays.length dc] Fr (fun _ : Unit => True) (fun _ => .tuple #[.pointer none, .int .i64 (newE sectors m delays)]) (fun _ => Fr) := by
  refine Ctr.of_body Try.func18 rfl Try.ntmps18 rfl ?_
  refine CG.seq ?_
  refine CG.region ?_
  refine OG.yield (Yield.assign rfl) rfl ?_
  refine OG.yield (Yield.assign rfl) rfl ?_
  refine OG.nil ?_
  refine QG.then ?_
  refine CG.seq ?_
  refine CG.region ?_
  refine OG.yield (Yield.assign rfl) rfl ?_
  refine OG.nil ?_
  refine QG.then ?_
  refine CG.seq ?_
  refine CG.seq ?_
  rcases newE_bad he with hh | hh | hh | hh
  · skip
    refine CG.region ?_
    refine OG.yield (Yield.move rfl) rfl ?_
    refine OG.yield (by first | exact Yield.as (Yield.lss rfl rfl) (bT (by omega)) | exact Yield.as (Yield.lss rfl rfl) (bF (by omega)) | exact Yield.lss rfl rfl) rfl ?_
    refine OG.yield (Yield.move rfl) rfl ?_
    refine OG.guard_no rfl rfl rfl rfl rfl (by decide) (by decide) ?_
    refine OG.guard_no rfl rfl rfl rfl rfl (by decide) (by decide) ?_
    refine OG.yield (by first | exact Yield.pick_t rfl rfl | exact Yield.pick_f rfl rfl | exact Yield.pick rfl (fun _ => rfl) (fun _ => rfl)) rfl ?_
    refine OG.yield (Yield.move rfl) rfl ?_
    refine OG.guard_no rfl rfl rfl rfl rfl (by decide) (by decide) ?_
    refine OG.guard_no rfl rfl rfl rfl rfl (by decide) (by decide) ?_
    refine OG.guard_no rfl rfl rfl rfl rfl (by decide) (by decide) ?_
    refine OG.yield (by first | exact Yield.pick_t rfl rfl | exact Yield.pick_f rfl rfl | exact Yield.pick rfl (fun _ => rfl) (fun _ => rfl)) rfl ?_
    refine OG.nil ?_
    refine QG.then ?_
    refine CG.cond_t rfl ?_
    refine CG.seq ?_
    refine CG.region ?_
    refine OG.yield (Yield.assign rfl) rfl ?_
    refine OG.yield (Yield.assign rfl) rfl ?_
    refine OG.nil ?_
    refine QG.then ?_
    refine CG.ret ?_
    refine QG.pass_ret ?_
    exact QG.ret2 rfl rfl rfl () trivial (by unfold newE; rw [if_pos (by omega)]) (Imp.refl _)
  · skip
    refine CG.region ?_
    refine OG.yield (Yield.move rfl) rfl ?_
    refine OG.yield (by first | exact Yield.as (Yield.lss rfl rfl) (bT (by omega)) | exact Yield.as (Yield.lss rfl rfl) (bF (by omega)) | exact Yield.lss rfl rfl) rfl ?_
    refine OG.yield (Yield.move rfl) rfl ?_
    refine OG.guard_yes rfl rfl rfl (by decide) ?_
    refine OG.yield (Yield.move rfl) rfl ?_
    refine OG.guard_yes rfl rfl rfl (by decide) ?_
    refine OG.yield (by first | exact Yield.as (Yield.gtr rfl rfl) (bT (by omega)) | exact Yield.as (Yield.gtr rfl rfl) (bF (by omega)) | exact Yield.gtr rfl rfl) rfl ?_
    refine OG.yield (by first | exact Yield.pick_t rfl rfl | exact Yield.pick_f rfl rfl | exact Yield.pick rfl (fun _ => rfl) (fun _ => rfl)) rfl ?_
    refine OG.yield (Yield.move rfl) rfl ?_
    refine OG.guard_no rfl rfl rfl rfl rfl (by decide) (by decide) ?_
    refine OG.guard_no rfl rfl rfl rfl rfl (by decide) (by decide) ?_
    refine OG.guard_no rfl rfl rfl rfl rfl (by decide) (by decide) ?_
    refine OG.yield (by first | exact Yield.pick_t rfl rfl | exact Yield.pick_f rfl rfl | exact Yield.pick rfl (fun _ => rfl) (fun _ => rfl)) rfl ?_
    refine OG.nil ?_
    refine QG.then ?_
    refine CG.cond_t rfl ?_
    refine CG.seq ?_
    refine CG.region ?_
    refine OG.yield (Yield.assign rfl) rfl ?_
    refine OG.yield (Yield.assign rfl) rfl ?_
    refine OG.nil ?_
    refine QG.then ?_
    refine CG.ret ?_
    refine QG.pass_ret ?_
    exact QG.ret2 rfl rfl rfl () trivial (by unfold newE; rw [if_pos (by omega)]) (Imp.refl _)
  · skip
    refine CG.region ?_
    refine OG.yield (Yield.move rfl) rfl ?_
    refine OG.yield (by first | exact Yield.as (Yield.lss rfl rfl) (bT (by omega)) | exact Yield.as (Yield.lss rfl rfl) (bF (by omega)) | exact Yield.lss rfl rfl) rfl ?_
    refine OG.yield (Yield.move rfl) rfl ?_
    refine OG.guard_yes rfl rfl rfl (by decide) ?_
    refine OG.yield (Yield.move rfl) rfl ?_
    refine OG.guard_yes rfl rfl rfl (by decide) ?_
    refine OG.yield (by first | exact Yield.as (Yield.gtr rfl rfl) (bT (by omega)) | exact Yield.as (Yield.gtr rfl rfl) (bF (by omega)) | exact Yield.gtr rfl rfl) rfl ?_
    refine OG.yield (by first | exact Yield.pick_t rfl rfl | exact Yield.pick_f rfl rfl | exact Yield.pick rfl (fun _ => rfl) (fun _ => rfl)) rfl ?_
    refine OG.yield (Yield.move rfl) rfl ?_
    refine OG.guard_yes rfl rfl rfl (by decide) ?_
    refine OG.yield (Yield.move rfl) rfl ?_
    refine OG.guard_yes rfl rfl rfl (by decide) ?_
    refine OG.yield (Yield.move rfl) rfl ?_
    refine OG.guard_yes rfl rfl rfl (by decide) ?_
    refine OG.callo call43 rfl (Imp.refl _) (contains_spec W0 _ (a := da) (c := dc) hs hl) rfl ?_
    rintro ⟨⟩ -
    rw [hh.2.2]
    refine OG.yield (by first | exact Yield.pick_t rfl rfl | exact Yield.pick_f rfl rfl | exact Yield.pick rfl (fun _ => rfl) (fun _ => rfl)) rfl ?_
    refine OG.nil ?_
    refine QG.then ?_
    refine CG.cond_t rfl ?_
    refine CG.seq ?_
    refine CG.region ?_
    refine OG.yield (Yield.assign rfl) rfl ?_
    refine OG.yield (Yield.assign rfl) rfl ?_
    refine OG.nil ?_
    refine QG.then ?_
    refine CG.ret ?_
    refine QG.pass_ret ?_
    exact QG.ret2 rfl rfl rfl () trivial (by unfold newE; rw [if_pos (.inr (.inr hh.2.2))]) (Imp.refl _)
  · skip
    refine CG.region ?_
    refine OG.yield (Yield.move rfl) rfl ?_
    refine OG.yield (by first | exact Yield.as (Yield.lss rfl rfl) (bT (by omega)) | exact Yield.as (Yield.lss rfl rfl) (bF (by omega)) | exact Yield.lss rfl rfl) rfl ?_
    refine OG.yield (Yield.move rfl) rfl ?_
    refine OG.guard_yes rfl rfl rfl (by decide) ?_
    refine OG.yield (Yield.move rfl) rfl ?_
    refine OG.guard_yes rfl rfl rfl (by decide) ?_
    refine OG.yield (by first | exact Yield.as (Yield.gtr rfl rfl) (bT (by omega)) | exact Yield.as (Yield.gtr rfl rfl) (bF (by omega)) | exact Yield.gtr rfl rfl) rfl ?_
    refine OG.yield (by first | exact Yield.pick_t rfl rfl | exact Yield.pick_f rfl rfl | exact Yield.pick rfl (fun _ => rfl) (fun _ => rfl)) rfl ?_
    refine OG.yield (Yield.move rfl) rfl ?_
    refine OG.guard_yes rfl rfl rfl (by decide) ?_
    refine OG.yield (Yield.move rfl) rfl ?_
    refine OG.guard_yes rfl rfl rfl (by decide) ?_
    refine OG.yield (Yield.move rfl) rfl ?_
    refine OG.guard_yes rfl rfl rfl (by decide) ?_
    refine OG.callo call43 rfl (Imp.refl _) (contains_spec W0 _ (a := da) (c := dc) hs hl) rfl ?_
    rintro ⟨⟩ -
    rw [hh.2.2.1]
    refine OG.yield (by first | exact Yield.pick_t rfl rfl | exact Yield.pick_f rfl rfl | exact Yield.pick rfl (fun _ => rfl) (fun _ => rfl)) rfl ?_
    refine OG.nil ?_
    refine QG.then ?_
    refine CG.cond_f rfl ?_
    refine CG.skip ?_
    refine QG.then ?_
    refine CG.seq ?_
    refine CG.seq ?_
    refine CG.region ?_
    refine OG.yield (Yield.move rfl) rfl ?_
    refine OG.yield (Yield.len_slice Try.underlying36 rfl rfl) rfl ?_
    refine OG.yield (Yield.move rfl) rfl ?_
    refine OG.yield (Yield.mul rfl rfl (w64 (by omega) (by omega))) rfl ?_
    refine OG.yield (by first | exact Yield.as (Yield.gtr rfl rfl) (bT (by omega)) | exact Yield.as (Yield.gtr rfl rfl) (bF (by omega)) | exact Yield.gtr rfl rfl) rfl ?_
    refine OG.nil ?_
    refine QG.then ?_
    refine CG.cond_t rfl ?_
    refine CG.seq ?_
    refine CG.region ?_
    refine OG.yield (Yield.assign rfl) rfl ?_
    refine OG.yield (Yield.assign rfl) rfl ?_
    refine OG.nil ?_
    refine QG.then ?_
    refine CG.ret ?_
    refine QG.pass_ret ?_
    exact QG.ret2 rfl rfl rfl () trivial (by unfold newE; rw [if_neg (by rw [hh.2.2.1]; simp; omega), if_pos hh.2.2.2]) (Imp.refl _)
/-- The bytes of a new disk. -/
def newB (n : Nat) (img : B) : B := img ++ List.replicate (64 * n - img.length) 0
theorem over_bytes (bs : B) (a : Nat) (ys : B) : Sl.over (bytesV bs) a (bytesV ys) = bytesV (bs.take a ++ ys ++ bs.drop (a + ys.length)) := by
  unfold Sl.over; rw [bytesV_append, bytesV_append, bytesV_take, bytesV_drop, bytesV_length]
theorem newB_eq {n : Nat} {img : B} (h : img.length ≤ 64 * n) : Sl.over (bytesV (List.replicate (64 * n) 0)) 0 ((bytesV img).take (min img.length (64 * n))) = bytesV (newB n img) := by
  rw [bytesV_take, List.take_of_length_le (by omega), over_bytes]
  unfold newB; simp
theorem newB_len {n : Nat} {img : B} (h : img.length ≤ 64 * n) : (newB n img).length = 64 * n := by unfold newB; simp; omega
theorem bnew_ok {a da : Option Addr} {c dc n : Nat} {delays : List Int} {img : B} (hi : SlR W0 Fr 1 a img.length (bytesV img)) (hs : SlR W0 Fr 1 da delays.length (intsV .i64 delays)) (hl : delays.length ≤ 17592186043904) (he : newE n img.length delays = 0) :
    Ctr Try.prog W0 18 [.int .i64 n, .slice a img.length c, .slice da delays.length dc] Fr (fun _ : Nat => True) (fun b => .tuple #[.pointer (some ⟨b, 0, none⟩), .int .i64 0]) (fun b => Bl b ⟨newB n img, delays, 0, 0, []⟩ :: Fr) := by
  obtain ⟨h1, h2, h3⟩ : n ≤ 1024 ∧ delays.any badD = false ∧ img.length ≤ 64 * n := newE_ok he
  refine Ctr.of_body Try.func18 rfl Try.ntmps18 rfl ?_
  refine CG.seq ?_
  refine CG.region ?_
  refine OG.yield (Yield.assign rfl) rfl ?_
  refine OG.yield (Yield.assign rfl) rfl ?_
  refine OG.nil ?_
  refine QG.then ?_
  refine CG.seq ?_
  refine CG.region ?_
  refine OG.yield (Yield.assign rfl) rfl ?_
  refine OG.nil ?_
  refine QG.then ?_
  refine CG.seq ?_
  refine CG.seq ?_
  refine CG.region ?_
  refine OG.yield (Yield.move rfl) rfl ?_
  refine OG.yield (by first | exact Yield.as (Yield.lss rfl rfl) (bT (by omega)) | exact Yield.as (Yield.lss rfl rfl) (bF (by omega)) | exact Yield.lss rfl rfl) rfl ?_
  refine OG.yield (Yield.move rfl) rfl ?_
  refine OG.guard_yes rfl rfl rfl (by decide) ?_
  refine OG.yield (Yield.move rfl) rfl ?_
  refine OG.guard_yes rfl rfl rfl (by decide) ?_
  refine OG.yield (by first | exact Yield.as (Yield.gtr rfl rfl) (bT (by omega)) | exact Yield.as (Yield.gtr rfl rfl) (bF (by omega)) | exact Yield.gtr rfl rfl) rfl ?_
  refine OG.yield (by first | exact Yield.pick_t rfl rfl | exact Yield.pick_f rfl rfl | exact Yield.pick rfl (fun _ => rfl) (fun _ => rfl)) rfl ?_
  refine OG.yield (Yield.move rfl) rfl ?_
  refine OG.guard_yes rfl rfl rfl (by decide) ?_
  refine OG.yield (Yield.move rfl) rfl ?_
  refine OG.guard_yes rfl rfl rfl (by decide) ?_
  refine OG.yield (Yield.move rfl) rfl ?_
  refine OG.guard_yes rfl rfl rfl (by decide) ?_
  refine OG.callo call43 rfl (Imp.refl _) (contains_spec W0 _ (a := da) (c := dc) hs hl) rfl ?_
  rintro ⟨⟩ -
  rw [h2]
  refine OG.yield (by first | exact Yield.pick_t rfl rfl | exact Yield.pick_f rfl rfl | exact Yield.pick rfl (fun _ => rfl) (fun _ => rfl)) rfl ?_
  refine OG.nil ?_
  refine QG.then ?_
  refine CG.cond_f rfl ?_
  refine CG.skip ?_
  refine QG.then ?_
  refine CG.seq ?_
  refine CG.seq ?_
  refine CG.region ?_
  refine OG.yield (Yield.move rfl) rfl ?_
  refine OG.yield (Yield.len_slice Try.underlying36 rfl rfl) rfl ?_
  refine OG.yield (Yield.move rfl) rfl ?_
  refine OG.yield (Yield.mul rfl rfl (w64 (by omega) (by omega))) rfl ?_
  refine OG.yield (by first | exact Yield.as (Yield.gtr rfl rfl) (bT (by omega)) | exact Yield.as (Yield.gtr rfl rfl) (bF (by omega)) | exact Yield.gtr rfl rfl) rfl ?_
  refine OG.nil ?_
  refine QG.then ?_
  refine CG.cond_f rfl ?_
  refine CG.skip ?_
  refine QG.then ?_
  refine CG.seq ?_
  refine CG.draw (.look 0 0 (.look 1 0 (.look 3 0 (.eff2 2 false (.eff1 4 false (.look 5 1 (.eff1 6 false (.look 7 1 (.done))))) 4 false (.eff1 2 false (.look 5 1 (.eff1 6 false (.look 7 1 (.done))))))))) [2, 4, 6] [] ([]) ([]) mixed (by kernel_rfl) (Imp.none _) (Imp.none _) ?_
  refine DG.look rfl rfl (Yield.move rfl) rfl ?_
  refine DG.look rfl rfl (Yield.mul rfl rfl (w64 (by omega) (by omega))) rfl ?_
  refine DG.look rfl rfl (Yield.move rfl) rfl ?_
  refine DG.eff2 ?_ ?_
  · skip
    refine Chg.eff rfl rfl (Eff.makeB (64 * n) Try.underlying36 ti5 rfl (by omega) (by omega)) rfl (fun _ => (by repeat (first | exact Imp.refl _ | exact Imp.none _ | apply Imp.pull (by repeat (first | exact Ext.here | apply Ext.there)) | apply Imp.trans Imp.drop))) (fun _ => Imp.refl _) (fun _ => (by repeat (first | exact Imp.refl _ | exact Imp.none _ | apply Imp.pull (by repeat (first | exact Ext.here | apply Ext.there)) | apply Imp.trans Imp.drop))) ?_
    rintro b28 -
    rw [List.length_replicate]
    refine DG.eff1 ?_
    refine Chg.callo rfl rfl call44 rfl ((by repeat (first | exact Imp.refl _ | exact Imp.none _ | apply Imp.pull (by repeat (first | exact Ext.here | apply Ext.there)) | apply Imp.trans Imp.drop))) (cloneI_spec W0 _ (a := da) (c := dc) (l := delays) (by exact hs.imp (by repeat (first | exact Imp.refl _ | exact Imp.none _ | apply Imp.pull (by repeat (first | exact Ext.here | apply Ext.there)) | apply Imp.trans Imp.drop))) hl) rfl (fun _ => (by repeat (first | exact Imp.refl _ | exact Imp.none _ | apply Imp.pull (by repeat (first | exact Ext.here | apply Ext.there)) | apply Imp.trans Imp.drop))) (fun _ => Imp.refl _) (fun _ => (by repeat (first | exact Imp.refl _ | exact Imp.none _ | apply Imp.pull (by repeat (first | exact Ext.here | apply Ext.there)) | apply Imp.trans Imp.drop))) ?_
    rintro ⟨a30, c30⟩ -
    refine DG.look rfl rfl (Yield.build (pvs := [(0, .slice (some ⟨b28, 0, none⟩) (64 * n) (64 * n)), (1, .slice a30 delays.length c30)]) bu100 ti100 rfl (cells := [.slice (some ⟨b28, 0, none⟩) (64 * n) (64 * n), .slice a30 delays.length c30, .int .i64 0, .int .i64 0, .slice none 0 0]) rfl) rfl ?_
    refine DG.eff1 ?_
    refine Chg.eff rfl rfl (Eff.box rfl) rfl (fun _ => (by repeat (first | exact Imp.refl _ | exact Imp.none _ | apply Imp.pull (by repeat (first | exact Ext.here | apply Ext.there)) | apply Imp.trans Imp.drop))) (fun _ => Imp.refl _) (fun _ => (by repeat (first | exact Imp.refl _ | exact Imp.none _ | apply Imp.pull (by repeat (first | exact Ext.here | apply Ext.there)) | apply Imp.trans Imp.drop))) ?_
    rintro b32 -
    refine DG.look rfl rfl (Yield.assign rfl) rfl ?_
    refine DG.done ?_
    refine QG.then ?_
    refine CG.seq ?_
    refine CG.region ?_
    refine OG.yield (Yield.move rfl) rfl ?_
    refine OG.yield (Yield.nilCheck rfl) rfl ?_
    refine OG.yield (Yield.fieldAddr fa100_0 rfl) rfl ?_
    refine OG.yield (Yield.load (v := .slice (some ⟨b28, 0, none⟩) (64 * n) (64 * n)) ti36 rfl (Cel.of_blk (b := b32) (by repeat (first | exact Ext.here | apply Ext.there)) rfl)) rfl ?_
    refine OG.yield (Yield.move rfl) rfl ?_
    refine OG.effd (Eff.copyIn (b := b28) (o := 0) (j := 0) (n := 64 * n) (cn := 64 * n) (k := img.length) (ys := bytesV img) rfl rfl rfl Try.underlying36 ti5 (by repeat (first | exact Foc.here | apply Foc.there)) (by first | omega | (rw [List.length_replicate]; omega)) (hi.imp (by repeat (first | exact Imp.refl _ | exact Imp.none _ | apply Imp.pull (by repeat (first | exact Ext.here | apply Ext.there)) | apply Imp.trans Imp.drop))) bytesV_one) rfl ?_
    rintro ⟨⟩ -
    rw [newB_eq h3, List.length_replicate]
    refine OG.nil ?_
    refine QG.then ?_
    refine CG.seq ?_
    refine CG.region ?_
    refine OG.yield (Yield.move rfl) rfl ?_
    refine OG.yield (Yield.assign rfl) rfl ?_
    refine OG.yield (Yield.assign rfl) rfl ?_
    refine OG.nil ?_
    refine QG.then ?_
    refine CG.ret ?_
    have hlb := newB_len h3
    have hcl := bl_close (b := b32) (G := Fr) (s := ⟨newB n img, delays, 0, 0, []⟩) ⟨[], some ⟨b28, 0, none⟩, 64 * n, a30, c30, none, 0⟩ ⟨rfl, ⟨⟨n, hlb, h1⟩, hl, any_bad h2, Int.le_refl _, ⟨Int.le_refl _, by show (0 : Int) ≤ 281474976710656 + 0 * 1048576; decide⟩, Nat.zero_le _, fun j h => absurd h List.not_mem_nil, fun j h => absurd h List.not_mem_nil⟩⟩
    dsimp only [BO, oby, List.cons_append, List.nil_append] at hcl
    rw [hlb] at hcl
    exact QG.ret2 rfl rfl rfl b32 trivial rfl (Imp.trans (Imp.trans pool_nil (Imp.trans (osl_nil (E := 102) (sz := 6)) (by repeat (first | exact Imp.refl _ | exact Imp.none _ | apply Imp.pull (by repeat (first | exact Ext.here | apply Ext.there)) | apply Imp.trans Imp.drop)))) hcl)
  · skip
    refine Chg.callo rfl rfl call44 rfl ((by repeat (first | exact Imp.refl _ | exact Imp.none _ | apply Imp.pull (by repeat (first | exact Ext.here | apply Ext.there)) | apply Imp.trans Imp.drop))) (cloneI_spec W0 _ (a := da) (c := dc) (l := delays) (by exact hs.imp (by repeat (first | exact Imp.refl _ | exact Imp.none _ | apply Imp.pull (by repeat (first | exact Ext.here | apply Ext.there)) | apply Imp.trans Imp.drop))) hl) rfl (fun _ => (by repeat (first | exact Imp.refl _ | exact Imp.none _ | apply Imp.pull (by repeat (first | exact Ext.here | apply Ext.there)) | apply Imp.trans Imp.drop))) (fun _ => Imp.refl _) (fun _ => (by repeat (first | exact Imp.refl _ | exact Imp.none _ | apply Imp.pull (by repeat (first | exact Ext.here | apply Ext.there)) | apply Imp.trans Imp.drop))) ?_
    rintro ⟨a30, c30⟩ -
    refine DG.eff1 ?_
    refine Chg.eff rfl rfl (Eff.makeB (64 * n) Try.underlying36 ti5 rfl (by omega) (by omega)) rfl (fun _ => (by repeat (first | exact Imp.refl _ | exact Imp.none _ | apply Imp.pull (by repeat (first | exact Ext.here | apply Ext.there)) | apply Imp.trans Imp.drop))) (fun _ => Imp.refl _) (fun _ => (by repeat (first | exact Imp.refl _ | exact Imp.none _ | apply Imp.pull (by repeat (first | exact Ext.here | apply Ext.there)) | apply Imp.trans Imp.drop))) ?_
    rintro b28 -
    rw [List.length_replicate]
    refine DG.look rfl rfl (Yield.build (pvs := [(0, .slice (some ⟨b28, 0, none⟩) (64 * n) (64 * n)), (1, .slice a30 delays.length c30)]) bu100 ti100 rfl (cells := [.slice (some ⟨b28, 0, none⟩) (64 * n) (64 * n), .slice a30 delays.length c30, .int .i64 0, .int .i64 0, .slice none 0 0]) rfl) rfl ?_
    refine DG.eff1 ?_
    refine Chg.eff rfl rfl (Eff.box rfl) rfl (fun _ => (by repeat (first | exact Imp.refl _ | exact Imp.none _ | apply Imp.pull (by repeat (first | exact Ext.here | apply Ext.there)) | apply Imp.trans Imp.drop))) (fun _ => Imp.refl _) (fun _ => (by repeat (first | exact Imp.refl _ | exact Imp.none _ | apply Imp.pull (by repeat (first | exact Ext.here | apply Ext.there)) | apply Imp.trans Imp.drop))) ?_
    rintro b32 -
    refine DG.look rfl rfl (Yield.assign rfl) rfl ?_
    refine DG.done ?_
    refine QG.then ?_
    refine CG.seq ?_
    refine CG.region ?_
    refine OG.yield (Yield.move rfl) rfl ?_
    refine OG.yield (Yield.nilCheck rfl) rfl ?_
    refine OG.yield (Yield.fieldAddr fa100_0 rfl) rfl ?_
    refine OG.yield (Yield.load (v := .slice (some ⟨b28, 0, none⟩) (64 * n) (64 * n)) ti36 rfl (Cel.of_blk (b := b32) (by repeat (first | exact Ext.here | apply Ext.there)) rfl)) rfl ?_
    refine OG.yield (Yield.move rfl) rfl ?_
    refine OG.effd (Eff.copyIn (b := b28) (o := 0) (j := 0) (n := 64 * n) (cn := 64 * n) (k := img.length) (ys := bytesV img) rfl rfl rfl Try.underlying36 ti5 (by repeat (first | exact Foc.here | apply Foc.there)) (by first | omega | (rw [List.length_replicate]; omega)) (hi.imp (by repeat (first | exact Imp.refl _ | exact Imp.none _ | apply Imp.pull (by repeat (first | exact Ext.here | apply Ext.there)) | apply Imp.trans Imp.drop))) bytesV_one) rfl ?_
    rintro ⟨⟩ -
    rw [newB_eq h3, List.length_replicate]
    refine OG.nil ?_
    refine QG.then ?_
    refine CG.seq ?_
    refine CG.region ?_
    refine OG.yield (Yield.move rfl) rfl ?_
    refine OG.yield (Yield.assign rfl) rfl ?_
    refine OG.yield (Yield.assign rfl) rfl ?_
    refine OG.nil ?_
    refine QG.then ?_
    refine CG.ret ?_
    have hlb := newB_len h3
    have hcl := bl_close (b := b32) (G := Fr) (s := ⟨newB n img, delays, 0, 0, []⟩) ⟨[], some ⟨b28, 0, none⟩, 64 * n, a30, c30, none, 0⟩ ⟨rfl, ⟨⟨n, hlb, h1⟩, hl, any_bad h2, Int.le_refl _, ⟨Int.le_refl _, by show (0 : Int) ≤ 281474976710656 + 0 * 1048576; decide⟩, Nat.zero_le _, fun j h => absurd h List.not_mem_nil, fun j h => absurd h List.not_mem_nil⟩⟩
    dsimp only [BO, oby, List.cons_append, List.nil_append] at hcl
    rw [hlb] at hcl
    exact QG.ret2 rfl rfl rfl b32 trivial rfl (Imp.trans (Imp.trans pool_nil (Imp.trans (osl_nil (E := 102) (sz := 6)) (by repeat (first | exact Imp.refl _ | exact Imp.none _ | apply Imp.pull (by repeat (first | exact Ext.here | apply Ext.there)) | apply Imp.trans Imp.drop)))) hcl)
end
end Go.Proofs.Ytoejnhfcegchhaa.Bk
