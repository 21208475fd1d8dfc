/- The document's disk: New, Sectors, Next, Submit. -/
import Derived.Test.YtoejnhfcegchhaaBlaw
namespace Go.Proofs.Ytoejnhfcegchhaa.Bk
open Go Go.Sl Go.RowKit Go.Proofs Go.Proofs.Ytoejnhfcegchhaa.T Go.Proofs.Ytoejnhfcegchhaa.Ms Go.Proofs.Ytoejnhfcegchhaa.Vd
set_option linter.unusedVariables false
set_option linter.unusedSimpArgs false
set_option maxRecDepth 100000
abbrev RH (b : Nat) (ba : Option Addr) (bm bc : Nat) (da : Option Addr) (dm dc : Nat) (taken free : Int) (qa : Option Addr) (qm qc : Nat) : HProp :=
  blk b [.slice ba bm bc, .slice da dm dc, .int .i64 taken, .int .i64 free, .slice qa qm qc] 121
abbrev owait (a : Option Addr) (c : Nat) (l : List CJ) : HProp := osl 123 6 a c l.length ((l.map CJ.cells).flatten)
abbrev RO (b : Nat) (s : Bs) (x : BX) : List HProp :=
  [RH b x.ba s.bytes.length x.bc x.da s.delays.length x.dc s.taken s.free x.qa x.js.length x.qc, oby 5 x.ba x.bc s.bytes, onum 3 .i64 x.da x.dc s.delays, owait x.qa x.qc x.js, jpool x.js]
/-- At block b lies the document's disk. -/
def Rl (b : Nat) (s : Bs) : HProp := fun h => ∃ x : BX, x.OK s ∧ Star (RO b s x) h
theorem rl_open {b : Nat} {s : Bs} (y : Heaplet) (h : Rl b s y) : ∃ x : BX, x.OK s ∧ Star (RO b s x) y := h
theorem rl_close {b : Nat} {s : Bs} {G : List HProp} (x : BX) (hx : x.OK s) : Imp (RO b s x ++ G) (Rl b s :: G) := Imp.trans star_close (Imp.head fun y hy => ⟨x, hx, hy⟩)
theorem shape_ws {W0 : World} {G R : List HProp} {a : Option Addr} {c n : Nat} {l : List CJ} (h : n < l.length) (e : Ext G (owait a c l) R) (w : World) (hw : Sat W0 G w) : ∃ b o, a = some ⟨b, o, none⟩ :=
  (SlR.of_osl e).elem_shape (i := n) CJ.len (by decide) h w hw
theorem any_take {l : List Int} (h : ∀ y ∈ l.take l.length, badD y = false) : l.any badD = false := by
  rw [List.take_length] at h
  rw [List.any_eq_false]; intro x hx; rw [h x hx]; decide
theorem any_get {l : List Int} {i : Nat} {x : Int} (h : l[i]? = some x) (hx : badD x = true) : l.any badD = true := List.any_eq_true.2 ⟨x, List.mem_of_getElem? h, hx⟩
section
variable (W0 : World) (Fr : List HProp)
theorem rnew_bad {a da : Option Addr} {c dc m : Nat} {delays : List Int} {sectors : Int} (hs : SlR W0 Fr 1 da delays.length (intsV .i64 delays)) (hl : delays.length ≤ 17592186043904) (he : newE sectors m delays ≠ 0) :
    Ctr Try.prog W0 63 [.int .i64 sectors, .slice a m c, .slice da delays.length dc] Fr (fun _ : Unit => True) (fun _ => .tuple #[.pointer none, .int .i64 (newE sectors m delays)]) (fun _ => Fr) := by
  have hol := intsV_len .i64 delays
  refine Ctr.of_body Try.func63 rfl Try.ntmps63 rfl ?_
  refine CG.seq ?_
  refine CG.region ?_
  refine OG.yield (Yield.assign rfl) rfl ?_
  refine OG.yield (Yield.assign rfl) rfl ?_
  refine OG.nil ?_
  refine QG.then ?_
  refine CG.seq ?_
  refine CG.seq ?_
  rcases (show sectors < 0 ∨ (0 ≤ sectors ∧ 1024 < sectors) ∨ (0 ≤ sectors ∧ sectors ≤ 1024) by omega) with hh | hh | hh
  · skip
    refine CG.region ?_
    refine OG.yield (Yield.move rfl) rfl ?_
    refine OG.yield (by first | exact Yield.as (Yield.lss rfl rfl) (bT (by omega)) | exact Yield.as (Yield.lss rfl rfl) (bF (by omega)) | exact Yield.lss rfl rfl) rfl ?_
    refine OG.yield (Yield.move rfl) rfl ?_
    refine OG.guard_no rfl rfl rfl rfl rfl (by decide) (by decide) ?_
    refine OG.guard_no rfl rfl rfl rfl rfl (by decide) (by decide) ?_
    refine OG.yield (by first | exact Yield.pick_t rfl rfl | exact Yield.pick_f rfl rfl | exact Yield.pick rfl (fun _ => rfl) (fun _ => rfl)) rfl ?_
    refine OG.nil ?_
    refine QG.then ?_
    refine CG.cond_t rfl ?_
    refine CG.seq ?_
    refine CG.region ?_
    refine OG.yield (Yield.assign rfl) rfl ?_
    refine OG.yield (Yield.assign rfl) rfl ?_
    refine OG.nil ?_
    refine QG.then ?_
    refine CG.ret ?_
    refine QG.pass_ret ?_
    exact QG.ret2 rfl rfl rfl () trivial (by unfold newE; rw [if_pos (by omega)]) (Imp.refl _)
  · skip
    refine CG.region ?_
    refine OG.yield (Yield.move rfl) rfl ?_
    refine OG.yield (by first | exact Yield.as (Yield.lss rfl rfl) (bT (by omega)) | exact Yield.as (Yield.lss rfl rfl) (bF (by omega)) | exact Yield.lss rfl rfl) rfl ?_
    refine OG.yield (Yield.move rfl) rfl ?_
    refine OG.guard_yes rfl rfl rfl (by decide) ?_
    refine OG.yield (Yield.move rfl) rfl ?_
    refine OG.guard_yes rfl rfl rfl (by decide) ?_
    refine OG.yield (by first | exact Yield.as (Yield.gtr rfl rfl) (bT (by omega)) | exact Yield.as (Yield.gtr rfl rfl) (bF (by omega)) | exact Yield.gtr rfl rfl) rfl ?_
    refine OG.yield (by first | exact Yield.pick_t rfl rfl | exact Yield.pick_f rfl rfl | exact Yield.pick rfl (fun _ => rfl) (fun _ => rfl)) rfl ?_
    refine OG.nil ?_
    refine QG.then ?_
    refine CG.cond_t rfl ?_
    refine CG.seq ?_
    refine CG.region ?_
    refine OG.yield (Yield.assign rfl) rfl ?_
    refine OG.yield (Yield.assign rfl) rfl ?_
    refine OG.nil ?_
    refine QG.then ?_
    refine CG.ret ?_
    refine QG.pass_ret ?_
    exact QG.ret2 rfl rfl rfl () trivial (by unfold newE; rw [if_pos (by omega)]) (Imp.refl _)
  · skip
    refine CG.region ?_
    refine OG.yield (Yield.move rfl) rfl ?_
    refine OG.yield (by first | exact Yield.as (Yield.lss rfl rfl) (bT (by omega)) | exact Yield.as (Yield.lss rfl rfl) (bF (by omega)) | exact Yield.lss rfl rfl) rfl ?_
    refine OG.yield (Yield.move rfl) rfl ?_
    refine OG.guard_yes rfl rfl rfl (by decide) ?_
    refine OG.yield (Yield.move rfl) rfl ?_
    refine OG.guard_yes rfl rfl rfl (by decide) ?_
    refine OG.yield (by first | exact Yield.as (Yield.gtr rfl rfl) (bT (by omega)) | exact Yield.as (Yield.gtr rfl rfl) (bF (by omega)) | exact Yield.gtr rfl rfl) rfl ?_
    refine OG.yield (by first | exact Yield.pick_t rfl rfl | exact Yield.pick_f rfl rfl | exact Yield.pick rfl (fun _ => rfl) (fun _ => rfl)) rfl ?_
    refine OG.nil ?_
    refine QG.then ?_
    refine CG.cond_f rfl ?_
    refine CG.skip ?_
    refine QG.then ?_
    refine CG.seq ?_
    refine CG.seq ?_
    refine CG.region ?_
    refine OG.yield (Yield.assign rfl) rfl ?_
    refine OG.nil ?_
    refine QG.then ?_
    refine CG.block ?_
    refine CG.loop (fun i : Nat => i ≤ delays.length ∧ ∀ y ∈ delays.take i, badD y = false) (fun i => [(0, .int .i64 sectors), (1, .slice a m c), (2, .slice da delays.length dc), (8, .int .i64 i)]) (fun _ => Fr) (fun i => delays.length - i) 0 ⟨Nat.zero_le _, fun y h => absurd h (by simp)⟩ (by repeat (first | exact Env.sub_nil _ | refine Env.sub_cons rfl ?_)) (Imp.refl _) ?_
    rintro i ⟨hi, hno⟩
    refine CG.seq ?_
    refine CG.seq ?_
    refine CG.region ?_
    refine OG.yield (Yield.move rfl) rfl ?_
    refine OG.yield (Yield.move rfl) rfl ?_
    refine OG.yield (Yield.len_slice Try.underlying23 rfl rfl) rfl ?_
    refine OG.yield (by first | exact Yield.as (Yield.lss rfl rfl) (bT (by omega)) | exact Yield.as (Yield.lss rfl rfl) (bF (by omega)) | exact Yield.lss rfl rfl) rfl ?_
    refine OG.nil ?_
    refine QG.then ?_
    refine CG.cond rfl (fun hc => ?_) (fun hc => ?_)
    · try replace hc := of_decide_eq_true hc
      have hi' : i < delays.length := by omega
      have hget : delays[i]? = some delays[i] := by simp [hi']
      generalize delays[i] = d at hget
      refine CG.pure (fun w hw => SlR.shape hs (by intro h; rw [h] at hol; simp only [List.length_nil] at hol; omega) w hw) ?_
      rintro ⟨bd, od, rfl⟩
      refine CG.skip ?_
      refine QG.then ?_
      refine CG.seq ?_
      refine CG.block ?_
      refine CG.seq ?_
      rcases (show d < 0 ∨ (0 ≤ d ∧ 1048576 < d) ∨ (0 ≤ d ∧ d ≤ 1048576) by omega) with hd | hd | hd
      · skip
        refine CG.region ?_
        refine OG.yield (Yield.move rfl) rfl ?_
        refine OG.yield (Yield.move rfl) rfl ?_
        refine OG.yield (Yield.index_slice Try.underlying23 ti3 rfl rfl (by omega) (by omega)) rfl ?_
        refine OG.yield (Yield.load (v := .int .i64 d) ti3 rfl (by rw [show od + (i : Int).toNat * 1 = od + i by omega]; exact hs.cel (intsV_get hget))) rfl ?_
        refine OG.yield (by first | exact Yield.as (Yield.lss rfl rfl) (bT (by omega)) | exact Yield.as (Yield.lss rfl rfl) (bF (by omega)) | exact Yield.lss rfl rfl) rfl ?_
        refine OG.yield (Yield.move rfl) rfl ?_
        refine OG.guard_no rfl rfl rfl rfl rfl (by decide) (by decide) ?_
        refine OG.guard_no rfl rfl rfl rfl rfl (by decide) (by decide) ?_
        refine OG.guard_no rfl rfl rfl rfl rfl (by decide) (by decide) ?_
        refine OG.guard_no rfl rfl rfl rfl rfl (by decide) (by decide) ?_
        refine OG.guard_no rfl rfl rfl rfl rfl (by decide) (by decide) ?_
        refine OG.yield (by first | exact Yield.pick_t rfl rfl | exact Yield.pick_f rfl rfl | exact Yield.pick rfl (fun _ => rfl) (fun _ => rfl)) rfl ?_
        refine OG.nil ?_
        refine QG.then ?_
        refine CG.cond_t rfl ?_
        refine CG.seq ?_
        refine CG.region ?_
        refine OG.yield (Yield.assign rfl) rfl ?_
        refine OG.yield (Yield.assign rfl) rfl ?_
        refine OG.nil ?_
        refine QG.then ?_
        refine CG.ret ?_
        refine QG.block_ret ?_
        refine QG.pass_ret ?_
        refine QG.pass_ret ?_
        refine QG.block_ret ?_
        refine QG.pass_ret ?_
        exact QG.ret2 rfl rfl rfl () trivial (by unfold newE; rw [if_pos (.inr (.inr (any_get hget (by unfold badD; rw [decide_eq_true hd]; rfl))))]) (Imp.refl _)
      · skip
        refine CG.region ?_
        refine OG.yield (Yield.move rfl) rfl ?_
        refine OG.yield (Yield.move rfl) rfl ?_
        refine OG.yield (Yield.index_slice Try.underlying23 ti3 rfl rfl (by omega) (by omega)) rfl ?_
        refine OG.yield (Yield.load (v := .int .i64 d) ti3 rfl (by rw [show od + (i : Int).toNat * 1 = od + i by omega]; exact hs.cel (intsV_get hget))) rfl ?_
        refine OG.yield (by first | exact Yield.as (Yield.lss rfl rfl) (bT (by omega)) | exact Yield.as (Yield.lss rfl rfl) (bF (by omega)) | exact Yield.lss rfl rfl) rfl ?_
        refine OG.yield (Yield.move rfl) rfl ?_
        refine OG.guard_yes rfl rfl rfl (by decide) ?_
        refine OG.yield (Yield.move rfl) rfl ?_
        refine OG.guard_yes rfl rfl rfl (by decide) ?_
        refine OG.yield (Yield.move rfl) rfl ?_
        refine OG.guard_yes rfl rfl rfl (by decide) ?_
        refine OG.yield (Yield.index_slice Try.underlying23 ti3 rfl rfl (by omega) (by omega)) rfl ?_
        refine OG.guard_yes rfl rfl rfl (by decide) ?_
        refine OG.yield (Yield.load (v := .int .i64 d) ti3 rfl (by rw [show od + (i : Int).toNat * 1 = od + i by omega]; exact hs.cel (intsV_get hget))) rfl ?_
        refine OG.guard_yes rfl rfl rfl (by decide) ?_
        refine OG.yield (by first | exact Yield.as (Yield.gtr rfl rfl) (bT (by omega)) | exact Yield.as (Yield.gtr rfl rfl) (bF (by omega)) | exact Yield.gtr rfl rfl) rfl ?_
        refine OG.yield (by first | exact Yield.pick_t rfl rfl | exact Yield.pick_f rfl rfl | exact Yield.pick rfl (fun _ => rfl) (fun _ => rfl)) rfl ?_
        refine OG.nil ?_
        refine QG.then ?_
        refine CG.cond_t rfl ?_
        refine CG.seq ?_
        refine CG.region ?_
        refine OG.yield (Yield.assign rfl) rfl ?_
        refine OG.yield (Yield.assign rfl) rfl ?_
        refine OG.nil ?_
        refine QG.then ?_
        refine CG.ret ?_
        refine QG.block_ret ?_
        refine QG.pass_ret ?_
        refine QG.pass_ret ?_
        refine QG.block_ret ?_
        refine QG.pass_ret ?_
        exact QG.ret2 rfl rfl rfl () trivial (by unfold newE; rw [if_pos (.inr (.inr (any_get hget (by unfold badD; rw [decide_eq_true hd.2, Bool.or_true]))))]) (Imp.refl _)
      · skip
        refine CG.region ?_
        refine OG.yield (Yield.move rfl) rfl ?_
        refine OG.yield (Yield.move rfl) rfl ?_
        refine OG.yield (Yield.index_slice Try.underlying23 ti3 rfl rfl (by omega) (by omega)) rfl ?_
        refine OG.yield (Yield.load (v := .int .i64 d) ti3 rfl (by rw [show od + (i : Int).toNat * 1 = od + i by omega]; exact hs.cel (intsV_get hget))) rfl ?_
        refine OG.yield (by first | exact Yield.as (Yield.lss rfl rfl) (bT (by omega)) | exact Yield.as (Yield.lss rfl rfl) (bF (by omega)) | exact Yield.lss rfl rfl) rfl ?_
        refine OG.yield (Yield.move rfl) rfl ?_
        refine OG.guard_yes rfl rfl rfl (by decide) ?_
        refine OG.yield (Yield.move rfl) rfl ?_
        refine OG.guard_yes rfl rfl rfl (by decide) ?_
        refine OG.yield (Yield.move rfl) rfl ?_
        refine OG.guard_yes rfl rfl rfl (by decide) ?_
        refine OG.yield (Yield.index_slice Try.underlying23 ti3 rfl rfl (by omega) (by omega)) rfl ?_
        refine OG.guard_yes rfl rfl rfl (by decide) ?_
        refine OG.yield (Yield.load (v := .int .i64 d) ti3 rfl (by rw [show od + (i : Int).toNat * 1 = od + i by omega]; exact hs.cel (intsV_get hget))) rfl ?_
        refine OG.guard_yes rfl rfl rfl (by decide) ?_
        refine OG.yield (by first | exact Yield.as (Yield.gtr rfl rfl) (bT (by omega)) | exact Yield.as (Yield.gtr rfl rfl) (bF (by omega)) | exact Yield.gtr rfl rfl) rfl ?_
        refine OG.yield (by first | exact Yield.pick_t rfl rfl | exact Yield.pick_f rfl rfl | exact Yield.pick rfl (fun _ => rfl) (fun _ => rfl)) rfl ?_
        refine OG.nil ?_
        refine QG.then ?_
        refine CG.cond_f rfl ?_
        refine CG.skip ?_
        refine QG.block_normal ?_
        refine QG.then ?_
        refine CG.region ?_
        refine OG.yield (Yield.move rfl) rfl ?_
        refine OG.yield (Yield.add rfl rfl (w64 (by omega) (by omega))) rfl ?_
        refine OG.yield (Yield.assign rfl) rfl ?_
        refine OG.nil ?_
        refine QG.next (i + 1) ⟨by omega, ?_⟩ (by omega) (by repeat (first | exact Env.sub_nil _ | refine Env.sub_cons rfl ?_)) (by repeat (first | exact Imp.refl _ | exact Imp.none _ | apply Imp.pull (by repeat (first | exact Ext.here | apply Ext.there)) | apply Imp.trans Imp.drop))
        intro y hy
        obtain ⟨hlt, hq⟩ := List.getElem?_eq_some_iff.1 hget
        rw [List.take_succ_eq_append_getElem hlt, hq] at hy
        rcases List.mem_append.1 hy with hy | hy
        · exact hno y hy
        · simp only [List.mem_cons, List.not_mem_nil, or_false] at hy; subst hy; unfold badD; rw [decide_eq_false (p := y < 0) (by omega), decide_eq_false (p := 1048576 < y) (by omega)]; rfl
    · try replace hc := of_decide_eq_false hc
      refine CG.exit ?_
      refine QG.pass_exit ?_
      refine QG.pass_exit ?_
      refine QG.block_exit ?_
      refine QG.then ?_
      refine CG.seq ?_
      refine CG.seq ?_
      refine CG.region ?_
      have hie : i = delays.length := by omega
      subst hie
      have hany := any_take hno
      have hlong : sectors * 64 < (m : Int) := by
        unfold newE at he
        rw [if_neg (by rw [hany]; simp; omega)] at he
        split at he
        · assumption
        · exact absurd rfl he
      refine OG.yield (Yield.move rfl) rfl ?_
      refine OG.yield (Yield.len_slice Try.underlying36 rfl rfl) rfl ?_
      refine OG.yield (Yield.move rfl) rfl ?_
      refine OG.yield (Yield.mul rfl rfl (w64 (by omega) (by omega))) rfl ?_
      refine OG.yield (by first | exact Yield.as (Yield.gtr rfl rfl) (bT (by omega)) | exact Yield.as (Yield.gtr rfl rfl) (bF (by omega)) | exact Yield.gtr rfl rfl) rfl ?_
      refine OG.nil ?_
      refine QG.then ?_
      refine CG.cond_t rfl ?_
      refine CG.seq ?_
      refine CG.region ?_
      refine OG.yield (Yield.assign rfl) rfl ?_
      refine OG.yield (Yield.assign rfl) rfl ?_
      refine OG.nil ?_
      refine QG.then ?_
      refine CG.ret ?_
      refine QG.pass_ret ?_
      exact QG.ret2 rfl rfl rfl () trivial (by unfold newE; rw [if_neg (by rw [hany]; simp; omega), if_pos hlong]) (Imp.refl _)
theorem rnew_ok {a da : Option Addr} {c dc n : Nat} {delays : List Int} {img : B} (hi0 : SlR W0 Fr 1 a img.length (bytesV img)) (hs : SlR W0 Fr 1 da delays.length (intsV .i64 delays)) (hl : delays.length ≤ 17592186043904) (he : newE n img.length delays = 0) :
    Ctr Try.prog W0 63 [.int .i64 n, .slice a img.length c, .slice da delays.length dc] Fr (fun _ : Nat => True) (fun b => .tuple #[.pointer (some ⟨b, 0, none⟩), .int .i64 0]) (fun b => Rl b ⟨newB n img, delays, 0, 0, []⟩ :: Fr) := by
  obtain ⟨h1, h2, h3⟩ : n ≤ 1024 ∧ delays.any badD = false ∧ img.length ≤ 64 * n := newE_ok he
  have hgood := any_bad h2
  have hol := intsV_len .i64 delays
  refine Ctr.of_body Try.func63 rfl Try.ntmps63 rfl ?_
  refine CG.seq ?_
  refine CG.region ?_
  refine OG.yield (Yield.assign rfl) rfl ?_
  refine OG.yield (Yield.assign rfl) rfl ?_
  refine OG.nil ?_
  refine QG.then ?_
  refine CG.seq ?_
  refine CG.seq ?_
  refine CG.region ?_
  refine OG.yield (Yield.move rfl) rfl ?_
  refine OG.yield (by first | exact Yield.as (Yield.lss rfl rfl) (bT (by omega)) | exact Yield.as (Yield.lss rfl rfl) (bF (by omega)) | exact Yield.lss rfl rfl) rfl ?_
  refine OG.yield (Yield.move rfl) rfl ?_
  refine OG.guard_yes rfl rfl rfl (by decide) ?_
  refine OG.yield (Yield.move rfl) rfl ?_
  refine OG.guard_yes rfl rfl rfl (by decide) ?_
  refine OG.yield (by first | exact Yield.as (Yield.gtr rfl rfl) (bT (by omega)) | exact Yield.as (Yield.gtr rfl rfl) (bF (by omega)) | exact Yield.gtr rfl rfl) rfl ?_
  refine OG.yield (by first | exact Yield.pick_t rfl rfl | exact Yield.pick_f rfl rfl | exact Yield.pick rfl (fun _ => rfl) (fun _ => rfl)) rfl ?_
  refine OG.nil ?_
  refine QG.then ?_
  refine CG.cond_f rfl ?_
  refine CG.skip ?_
  refine QG.then ?_
  refine CG.seq ?_
  refine CG.seq ?_
  refine CG.region ?_
  refine OG.yield (Yield.assign rfl) rfl ?_
  refine OG.nil ?_
  refine QG.then ?_
  refine CG.block ?_
  refine CG.loop (fun i : Nat => i ≤ delays.length) (fun i => [(0, .int .i64 n), (1, .slice a img.length c), (2, .slice da delays.length dc), (8, .int .i64 i)]) (fun _ => Fr) (fun i => delays.length - i) 0 (Nat.zero_le _) (by repeat (first | exact Env.sub_nil _ | refine Env.sub_cons rfl ?_)) (Imp.refl _) ?_
  intro i hi
  refine CG.seq ?_
  refine CG.seq ?_
  refine CG.region ?_
  refine OG.yield (Yield.move rfl) rfl ?_
  refine OG.yield (Yield.move rfl) rfl ?_
  refine OG.yield (Yield.len_slice Try.underlying23 rfl rfl) rfl ?_
  refine OG.yield (by first | exact Yield.as (Yield.lss rfl rfl) (bT (by omega)) | exact Yield.as (Yield.lss rfl rfl) (bF (by omega)) | exact Yield.lss rfl rfl) rfl ?_
  refine OG.nil ?_
  refine QG.then ?_
  refine CG.cond rfl (fun hc => ?_) (fun hc => ?_)
  · try replace hc := of_decide_eq_true hc
    have hi' : i < delays.length := by omega
    have hget : delays[i]? = some delays[i] := by simp [hi']
    generalize delays[i] = d at hget
    have hd := hgood d (List.mem_of_getElem? hget)
    refine CG.pure (fun w hw => SlR.shape hs (by intro h; rw [h] at hol; simp only [List.length_nil] at hol; omega) w hw) ?_
    rintro ⟨bd, od, rfl⟩
    refine CG.skip ?_
    refine QG.then ?_
    refine CG.seq ?_
    refine CG.block ?_
    refine CG.seq ?_
    refine CG.region ?_
    refine OG.yield (Yield.move rfl) rfl ?_
    refine OG.yield (Yield.move rfl) rfl ?_
    refine OG.yield (Yield.index_slice Try.underlying23 ti3 rfl rfl (by omega) (by omega)) rfl ?_
    refine OG.yield (Yield.load (v := .int .i64 d) ti3 rfl (by rw [show od + (i : Int).toNat * 1 = od + i by omega]; exact hs.cel (intsV_get hget))) rfl ?_
    refine OG.yield (by first | exact Yield.as (Yield.lss rfl rfl) (bT (by omega)) | exact Yield.as (Yield.lss rfl rfl) (bF (by omega)) | exact Yield.lss rfl rfl) rfl ?_
    refine OG.yield (Yield.move rfl) rfl ?_
    refine OG.guard_yes rfl rfl rfl (by decide) ?_
    refine OG.yield (Yield.move rfl) rfl ?_
    refine OG.guard_yes rfl rfl rfl (by decide) ?_
    refine OG.yield (Yield.move rfl) rfl ?_
    refine OG.guard_yes rfl rfl rfl (by decide) ?_
    refine OG.yield (Yield.index_slice Try.underlying23 ti3 rfl rfl (by omega) (by omega)) rfl ?_
    refine OG.guard_yes rfl rfl rfl (by decide) ?_
    refine OG.yield (Yield.load (v := .int .i64 d) ti3 rfl (by rw [show od + (i : Int).toNat * 1 = od + i by omega]; exact hs.cel (intsV_get hget))) rfl ?_
    refine OG.guard_yes rfl rfl rfl (by decide) ?_
    refine OG.yield (by first | exact Yield.as (Yield.gtr rfl rfl) (bT (by omega)) | exact Yield.as (Yield.gtr rfl rfl) (bF (by omega)) | exact Yield.gtr rfl rfl) rfl ?_
    refine OG.yield (by first | exact Yield.pick_t rfl rfl | exact Yield.pick_f rfl rfl | exact Yield.pick rfl (fun _ => rfl) (fun _ => rfl)) rfl ?_
    refine OG.nil ?_
    refine QG.then ?_
    refine CG.cond_f rfl ?_
    refine CG.skip ?_
    refine QG.block_normal ?_
    refine QG.then ?_
    refine CG.region ?_
    refine OG.yield (Yield.move rfl) rfl ?_
    refine OG.yield (Yield.add rfl rfl (w64 (by omega) (by omega))) rfl ?_
    refine OG.yield (Yield.assign rfl) rfl ?_
    refine OG.nil ?_
    exact QG.next (i + 1) (show i + 1 ≤ delays.length by omega) (show delays.length - (i + 1) < delays.length - i by omega) (by repeat (first | exact Env.sub_nil _ | refine Env.sub_cons rfl ?_)) (by repeat (first | exact Imp.refl _ | exact Imp.none _ | apply Imp.pull (by repeat (first | exact Ext.here | apply Ext.there)) | apply Imp.trans Imp.drop))
  · try replace hc := of_decide_eq_false hc
    refine CG.exit ?_
    refine QG.pass_exit ?_
    refine QG.pass_exit ?_
    refine QG.block_exit ?_
    refine QG.then ?_
    refine CG.seq ?_
    refine CG.seq ?_
    refine CG.region ?_
    refine OG.yield (Yield.move rfl) rfl ?_
    refine OG.yield (Yield.len_slice Try.underlying36 rfl rfl) rfl ?_
    refine OG.yield (Yield.move rfl) rfl ?_
    refine OG.yield (Yield.mul rfl rfl (w64 (by omega) (by omega))) rfl ?_
    refine OG.yield (by first | exact Yield.as (Yield.gtr rfl rfl) (bT (by omega)) | exact Yield.as (Yield.gtr rfl rfl) (bF (by omega)) | exact Yield.gtr rfl rfl) rfl ?_
    refine OG.nil ?_
    refine QG.then ?_
    refine CG.cond_f rfl ?_
    refine CG.skip ?_
    refine QG.then ?_
    refine CG.seq ?_
    refine CG.draw (.look 0 0 (.look 1 0 (.look 4 0 (.eff2 2 false (.eff1 3 false (.eff1 5 false (.look 6 1 (.eff1 7 false (.look 8 1 (.done)))))) 3 false (.eff2 2 false (.eff1 5 false (.look 6 1 (.eff1 7 false (.look 8 1 (.done))))) 5 false (.eff1 2 false (.look 6 1 (.eff1 7 false (.look 8 1 (.done)))))))))) [2, 3, 5, 7] [] ([]) ([]) mixed (by kernel_rfl) (Imp.none _) (Imp.none _) ?_
    refine DG.look rfl rfl (Yield.move rfl) rfl ?_
    refine DG.look rfl rfl (Yield.mul rfl rfl (w64 (by omega) (by omega))) rfl ?_
    refine DG.look rfl rfl (Yield.move rfl) rfl ?_
    refine DG.eff2 ?_ ?_
    · skip
      refine Chg.eff rfl rfl (Eff.makeB (64 * n) Try.underlying36 ti5 rfl (by omega) (by omega)) rfl (fun _ => (by repeat (first | exact Imp.refl _ | exact Imp.none _ | apply Imp.pull (by repeat (first | exact Ext.here | apply Ext.there)) | apply Imp.trans Imp.drop))) (fun _ => Imp.refl _) (fun _ => (by repeat (first | exact Imp.refl _ | exact Imp.none _ | apply Imp.pull (by repeat (first | exact Ext.here | apply Ext.there)) | apply Imp.trans Imp.drop))) ?_
      rintro b41 -
      rw [List.length_replicate]
      refine DG.eff1 ?_
      refine Chg.eff rfl rfl (Eff.lit0 Try.underlying23 ti3 rfl) rfl (fun _ => (by repeat (first | exact Imp.refl _ | exact Imp.none _ | apply Imp.pull (by repeat (first | exact Ext.here | apply Ext.there)) | apply Imp.trans Imp.drop))) (fun _ => Imp.refl _) (fun _ => (by repeat (first | exact Imp.refl _ | exact Imp.none _ | apply Imp.pull (by repeat (first | exact Ext.here | apply Ext.there)) | apply Imp.trans Imp.drop))) ?_
      rintro b42 -
      refine DG.eff1 ?_
      refine Chg.eff rfl rfl (Eff.append (a := some ⟨b42, 0, none⟩) (c := 0) (m := 0) (xs := []) (k := delays.length) (ys := intsV .i64 delays) rfl rfl rfl Try.underlying23 Try.underlying23 ti3 rfl (by decide) (by repeat (first | exact Foc.here | apply Foc.there)) (hs.imp (by repeat (first | exact Imp.refl _ | exact Imp.none _ | apply Imp.pull (by repeat (first | exact Ext.here | apply Ext.there)) | apply Imp.trans Imp.drop))) (intsV_ones _ _) (by omega)) rfl (fun _ => (by repeat (first | exact Imp.refl _ | exact Imp.none _ | apply Imp.pull (by repeat (first | exact Ext.here | apply Ext.there)) | apply Imp.trans Imp.drop))) (fun _ => Imp.refl _) (fun _ => (by repeat (first | exact Imp.refl _ | exact Imp.none _ | apply Imp.pull (by repeat (first | exact Ext.here | apply Ext.there)) | apply Imp.trans Imp.drop))) ?_
      rintro ⟨a44, c44⟩ -
      rw [Nat.zero_add, List.nil_append]
      refine DG.look rfl rfl (Yield.build (pvs := [(0, .slice (some ⟨b41, 0, none⟩) (64 * n) (64 * n)), (1, .slice a44 delays.length c44)]) bu121 ti121 rfl (cells := [.slice (some ⟨b41, 0, none⟩) (64 * n) (64 * n), .slice a44 delays.length c44, .int .i64 0, .int .i64 0, .slice none 0 0]) rfl) rfl ?_
      refine DG.eff1 ?_
      refine Chg.eff rfl rfl (Eff.box rfl) rfl (fun _ => (by repeat (first | exact Imp.refl _ | exact Imp.none _ | apply Imp.pull (by repeat (first | exact Ext.here | apply Ext.there)) | apply Imp.trans Imp.drop))) (fun _ => Imp.refl _) (fun _ => (by repeat (first | exact Imp.refl _ | exact Imp.none _ | apply Imp.pull (by repeat (first | exact Ext.here | apply Ext.there)) | apply Imp.trans Imp.drop))) ?_
      rintro b46 -
      refine DG.look rfl rfl (Yield.assign rfl) rfl ?_
      refine DG.done ?_
      refine QG.then ?_
      refine CG.seq ?_
      refine CG.region ?_
      refine OG.yield (Yield.move rfl) rfl ?_
      refine OG.yield (Yield.nilCheck rfl) rfl ?_
      refine OG.yield (Yield.fieldAddr fa121_0 rfl) rfl ?_
      refine OG.yield (Yield.load (v := .slice (some ⟨b41, 0, none⟩) (64 * n) (64 * n)) ti36 rfl (Cel.of_blk (b := b46) (by repeat (first | exact Ext.here | apply Ext.there)) rfl)) rfl ?_
      refine OG.yield (Yield.move rfl) rfl ?_
      refine OG.effd (Eff.copyIn (b := b41) (o := 0) (j := 0) (n := 64 * n) (cn := 64 * n) (k := img.length) (ys := bytesV img) rfl rfl rfl Try.underlying36 ti5 (by repeat (first | exact Foc.here | apply Foc.there)) (by first | omega | (rw [List.length_replicate]; omega)) (hi0.imp (by repeat (first | exact Imp.refl _ | exact Imp.none _ | apply Imp.pull (by repeat (first | exact Ext.here | apply Ext.there)) | apply Imp.trans Imp.drop))) bytesV_one) rfl ?_
      rintro ⟨⟩ -
      rw [newB_eq h3, List.length_replicate]
      refine OG.nil ?_
      refine QG.then ?_
      refine CG.seq ?_
      refine CG.region ?_
      refine OG.yield (Yield.move rfl) rfl ?_
      refine OG.yield (Yield.assign rfl) rfl ?_
      refine OG.yield (Yield.assign rfl) rfl ?_
      refine OG.nil ?_
      refine QG.then ?_
      refine CG.ret ?_
      have hlb := newB_len h3
      have hcl := rl_close (b := b46) (G := Fr) (s := ⟨newB n img, delays, 0, 0, []⟩) ⟨[], some ⟨b41, 0, none⟩, 64 * n, a44, c44, none, 0⟩ ⟨rfl, ⟨⟨n, hlb, h1⟩, hl, hgood, Int.le_refl _, ⟨Int.le_refl _, by show (0 : Int) ≤ 281474976710656 + 0 * 1048576; decide⟩, Nat.zero_le _, fun j h => absurd h List.not_mem_nil, fun j h => absurd h List.not_mem_nil⟩⟩
      dsimp only [RO, oby, List.cons_append, List.nil_append] at hcl
      rw [hlb] at hcl
      exact QG.ret2 rfl rfl rfl b46 trivial rfl (Imp.trans (Imp.trans pool_nil (Imp.trans (osl_nil (E := 123) (sz := 6)) (by repeat (first | exact Imp.refl _ | exact Imp.none _ | apply Imp.pull (by repeat (first | exact Ext.here | apply Ext.there)) | apply Imp.trans Imp.drop)))) hcl)
    · skip
      refine Chg.eff rfl rfl (Eff.lit0 Try.underlying23 ti3 rfl) rfl (fun _ => (by repeat (first | exact Imp.refl _ | exact Imp.none _ | apply Imp.pull (by repeat (first | exact Ext.here | apply Ext.there)) | apply Imp.trans Imp.drop))) (fun _ => Imp.refl _) (fun _ => (by repeat (first | exact Imp.refl _ | exact Imp.none _ | apply Imp.pull (by repeat (first | exact Ext.here | apply Ext.there)) | apply Imp.trans Imp.drop))) ?_
      rintro b42 -
      refine DG.eff2 ?_ ?_
      · skip
        refine Chg.eff rfl rfl (Eff.makeB (64 * n) Try.underlying36 ti5 rfl (by omega) (by omega)) rfl (fun _ => (by repeat (first | exact Imp.refl _ | exact Imp.none _ | apply Imp.pull (by repeat (first | exact Ext.here | apply Ext.there)) | apply Imp.trans Imp.drop))) (fun _ => Imp.refl _) (fun _ => (by repeat (first | exact Imp.refl _ | exact Imp.none _ | apply Imp.pull (by repeat (first | exact Ext.here | apply Ext.there)) | apply Imp.trans Imp.drop))) ?_
        rintro b41 -
        rw [List.length_replicate]
        refine DG.eff1 ?_
        refine Chg.eff rfl rfl (Eff.append (a := some ⟨b42, 0, none⟩) (c := 0) (m := 0) (xs := []) (k := delays.length) (ys := intsV .i64 delays) rfl rfl rfl Try.underlying23 Try.underlying23 ti3 rfl (by decide) (by repeat (first | exact Foc.here | apply Foc.there)) (hs.imp (by repeat (first | exact Imp.refl _ | exact Imp.none _ | apply Imp.pull (by repeat (first | exact Ext.here | apply Ext.there)) | apply Imp.trans Imp.drop))) (intsV_ones _ _) (by omega)) rfl (fun _ => (by repeat (first | exact Imp.refl _ | exact Imp.none _ | apply Imp.pull (by repeat (first | exact Ext.here | apply Ext.there)) | apply Imp.trans Imp.drop))) (fun _ => Imp.refl _) (fun _ => (by repeat (first | exact Imp.refl _ | exact Imp.none _ | apply Imp.pull (by repeat (first | exact Ext.here | apply Ext.there)) | apply Imp.trans Imp.drop))) ?_
        rintro ⟨a44, c44⟩ -
        rw [Nat.zero_add, List.nil_append]
        refine DG.look rfl rfl (Yield.build (pvs := [(0, .slice (some ⟨b41, 0, none⟩) (64 * n) (64 * n)), (1, .slice a44 delays.length c44)]) bu121 ti121 rfl (cells := [.slice (some ⟨b41, 0, none⟩) (64 * n) (64 * n), .slice a44 delays.length c44, .int .i64 0, .int .i64 0, .slice none 0 0]) rfl) rfl ?_
        refine DG.eff1 ?_
        refine Chg.eff rfl rfl (Eff.box rfl) rfl (fun _ => (by repeat (first | exact Imp.refl _ | exact Imp.none _ | apply Imp.pull (by repeat (first | exact Ext.here | apply Ext.there)) | apply Imp.trans Imp.drop))) (fun _ => Imp.refl _) (fun _ => (by repeat (first | exact Imp.refl _ | exact Imp.none _ | apply Imp.pull (by repeat (first | exact Ext.here | apply Ext.there)) | apply Imp.trans Imp.drop))) ?_
        rintro b46 -
        refine DG.look rfl rfl (Yield.assign rfl) rfl ?_
        refine DG.done ?_
        refine QG.then ?_
        refine CG.seq ?_
        refine CG.region ?_
        refine OG.yield (Yield.move rfl) rfl ?_
        refine OG.yield (Yield.nilCheck rfl) rfl ?_
        refine OG.yield (Yield.fieldAddr fa121_0 rfl) rfl ?_
        refine OG.yield (Yield.load (v := .slice (some ⟨b41, 0, none⟩) (64 * n) (64 * n)) ti36 rfl (Cel.of_blk (b := b46) (by repeat (first | exact Ext.here | apply Ext.there)) rfl)) rfl ?_
        refine OG.yield (Yield.move rfl) rfl ?_
        refine OG.effd (Eff.copyIn (b := b41) (o := 0) (j := 0) (n := 64 * n) (cn := 64 * n) (k := img.length) (ys := bytesV img) rfl rfl rfl Try.underlying36 ti5 (by repeat (first | exact Foc.here | apply Foc.there)) (by first | omega | (rw [List.length_replicate]; omega)) (hi0.imp (by repeat (first | exact Imp.refl _ | exact Imp.none _ | apply Imp.pull (by repeat (first | exact Ext.here | apply Ext.there)) | apply Imp.trans Imp.drop))) bytesV_one) rfl ?_
        rintro ⟨⟩ -
        rw [newB_eq h3, List.length_replicate]
        refine OG.nil ?_
        refine QG.then ?_
        refine CG.seq ?_
        refine CG.region ?_
        refine OG.yield (Yield.move rfl) rfl ?_
        refine OG.yield (Yield.assign rfl) rfl ?_
        refine OG.yield (Yield.assign rfl) rfl ?_
        refine OG.nil ?_
        refine QG.then ?_
        refine CG.ret ?_
        have hlb := newB_len h3
        have hcl := rl_close (b := b46) (G := Fr) (s := ⟨newB n img, delays, 0, 0, []⟩) ⟨[], some ⟨b41, 0, none⟩, 64 * n, a44, c44, none, 0⟩ ⟨rfl, ⟨⟨n, hlb, h1⟩, hl, hgood, Int.le_refl _, ⟨Int.le_refl _, by show (0 : Int) ≤ 281474976710656 + 0 * 1048576; decide⟩, Nat.zero_le _, fun j h => absurd h List.not_mem_nil, fun j h => absurd h List.not_mem_nil⟩⟩
        dsimp only [RO, oby, List.cons_append, List.nil_append] at hcl
        rw [hlb] at hcl
        exact QG.ret2 rfl rfl rfl b46 trivial rfl (Imp.trans (Imp.trans pool_nil (Imp.trans (osl_nil (E := 123) (sz := 6)) (by repeat (first | exact Imp.refl _ | exact Imp.none _ | apply Imp.pull (by repeat (first | exact Ext.here | apply Ext.there)) | apply Imp.trans Imp.drop)))) hcl)
      · skip
        refine Chg.eff rfl rfl (Eff.append (a := some ⟨b42, 0, none⟩) (c := 0) (m := 0) (xs := []) (k := delays.length) (ys := intsV .i64 delays) rfl rfl rfl Try.underlying23 Try.underlying23 ti3 rfl (by decide) (by repeat (first | exact Foc.here | apply Foc.there)) (hs.imp (by repeat (first | exact Imp.refl _ | exact Imp.none _ | apply Imp.pull (by repeat (first | exact Ext.here | apply Ext.there)) | apply Imp.trans Imp.drop))) (intsV_ones _ _) (by omega)) rfl (fun _ => (by repeat (first | exact Imp.refl _ | exact Imp.none _ | apply Imp.pull (by repeat (first | exact Ext.here | apply Ext.there)) | apply Imp.trans Imp.drop))) (fun _ => Imp.refl _) (fun _ => (by repeat (first | exact Imp.refl _ | exact Imp.none _ | apply Imp.pull (by repeat (first | exact Ext.here | apply Ext.there)) | apply Imp.trans Imp.drop))) ?_
        rintro ⟨a44, c44⟩ -
        rw [Nat.zero_add, List.nil_append]
        refine DG.eff1 ?_
        refine Chg.eff rfl rfl (Eff.makeB (64 * n) Try.underlying36 ti5 rfl (by omega) (by omega)) rfl (fun _ => (by repeat (first | exact Imp.refl _ | exact Imp.none _ | apply Imp.pull (by repeat (first | exact Ext.here | apply Ext.there)) | apply Imp.trans Imp.drop))) (fun _ => Imp.refl _) (fun _ => (by repeat (first | exact Imp.refl _ | exact Imp.none _ | apply Imp.pull (by repeat (first | exact Ext.here | apply Ext.there)) | apply Imp.trans Imp.drop))) ?_
        rintro b41 -
        rw [List.length_replicate]
        refine DG.look rfl rfl (Yield.build (pvs := [(0, .slice (some ⟨b41, 0, none⟩) (64 * n) (64 * n)), (1, .slice a44 delays.length c44)]) bu121 ti121 rfl (cells := [.slice (some ⟨b41, 0, none⟩) (64 * n) (64 * n), .slice a44 delays.length c44, .int .i64 0, .int .i64 0, .slice none 0 0]) rfl) rfl ?_
        refine DG.eff1 ?_
        refine Chg.eff rfl rfl (Eff.box rfl) rfl (fun _ => (by repeat (first | exact Imp.refl _ | exact Imp.none _ | apply Imp.pull (by repeat (first | exact Ext.here | apply Ext.there)) | apply Imp.trans Imp.drop))) (fun _ => Imp.refl _) (fun _ => (by repeat (first | exact Imp.refl _ | exact Imp.none _ | apply Imp.pull (by repeat (first | exact Ext.here | apply Ext.there)) | apply Imp.trans Imp.drop))) ?_
        rintro b46 -
        refine DG.look rfl rfl (Yield.assign rfl) rfl ?_
        refine DG.done ?_
        refine QG.then ?_
        refine CG.seq ?_
        refine CG.region ?_
        refine OG.yield (Yield.move rfl) rfl ?_
        refine OG.yield (Yield.nilCheck rfl) rfl ?_
        refine OG.yield (Yield.fieldAddr fa121_0 rfl) rfl ?_
        refine OG.yield (Yield.load (v := .slice (some ⟨b41, 0, none⟩) (64 * n) (64 * n)) ti36 rfl (Cel.of_blk (b := b46) (by repeat (first | exact Ext.here | apply Ext.there)) rfl)) rfl ?_
        refine OG.yield (Yield.move rfl) rfl ?_
        refine OG.effd (Eff.copyIn (b := b41) (o := 0) (j := 0) (n := 64 * n) (cn := 64 * n) (k := img.length) (ys := bytesV img) rfl rfl rfl Try.underlying36 ti5 (by repeat (first | exact Foc.here | apply Foc.there)) (by first | omega | (rw [List.length_replicate]; omega)) (hi0.imp (by repeat (first | exact Imp.refl _ | exact Imp.none _ | apply Imp.pull (by repeat (first | exact Ext.here | apply Ext.there)) | apply Imp.trans Imp.drop))) bytesV_one) rfl ?_
        rintro ⟨⟩ -
        rw [newB_eq h3, List.length_replicate]
        refine OG.nil ?_
        refine QG.then ?_
        refine CG.seq ?_
        refine CG.region ?_
        refine OG.yield (Yield.move rfl) rfl ?_
        refine OG.yield (Yield.assign rfl) rfl ?_
        refine OG.yield (Yield.assign rfl) rfl ?_
        refine OG.nil ?_
        refine QG.then ?_
        refine CG.ret ?_
        have hlb := newB_len h3
        have hcl := rl_close (b := b46) (G := Fr) (s := ⟨newB n img, delays, 0, 0, []⟩) ⟨[], some ⟨b41, 0, none⟩, 64 * n, a44, c44, none, 0⟩ ⟨rfl, ⟨⟨n, hlb, h1⟩, hl, hgood, Int.le_refl _, ⟨Int.le_refl _, by show (0 : Int) ≤ 281474976710656 + 0 * 1048576; decide⟩, Nat.zero_le _, fun j h => absurd h List.not_mem_nil, fun j h => absurd h List.not_mem_nil⟩⟩
        dsimp only [RO, oby, List.cons_append, List.nil_append] at hcl
        rw [hlb] at hcl
        exact QG.ret2 rfl rfl rfl b46 trivial rfl (Imp.trans (Imp.trans pool_nil (Imp.trans (osl_nil (E := 123) (sz := 6)) (by repeat (first | exact Imp.refl _ | exact Imp.none _ | apply Imp.pull (by repeat (first | exact Ext.here | apply Ext.there)) | apply Imp.trans Imp.drop)))) hcl)
theorem rsectors_spec {b m c : Nat} {a : Option Addr} (h : Cel W0 Fr ⟨b, 0, none⟩ (.slice a m c)) (hm : m ≤ 2 ^ 47) : Ctr Try.prog W0 64 [.pointer (some ⟨b, 0, none⟩)] Fr (fun _ : Unit => True) (fun _ => .int .i64 ((m / 64 : Nat) : Int)) (fun _ => Fr) := by
  refine Ctr.of_body Try.func64 rfl Try.ntmps64 rfl ?_
  refine CG.seq ?_
  refine CG.region ?_
  refine OG.yield (Yield.assign rfl) rfl ?_
  refine OG.nil ?_
  refine QG.then ?_
  refine CG.seq ?_
  refine CG.region ?_
  refine OG.yield (Yield.move rfl) rfl ?_
  refine OG.yield (Yield.nilCheck rfl) rfl ?_
  refine OG.yield (Yield.fieldAddr fa121_0 rfl) rfl ?_
  refine OG.yield (Yield.load ti36 rfl h) rfl ?_
  refine OG.yield (Yield.len_slice (a := a) (m := m) (c := c) Try.underlying36 rfl rfl) rfl ?_
  refine OG.yield (Yield.quo rfl rfl (by omega) (tdiv_pos (by omega) (by omega) (by omega))) rfl ?_
  refine OG.yield (Yield.assign rfl) rfl ?_
  refine OG.nil ?_
  refine QG.then ?_
  refine CG.ret ?_
  exact QG.ret1 rfl rfl () trivial rfl (Imp.refl _)
theorem rnext_spec {b : Nat} {s : Bs} : Ctr Try.prog W0 65 [.pointer (some ⟨b, 0, none⟩)] (Rl b s :: Fr) (fun _ : Unit => True) (fun _ => .tuple #[.int .i64 (nextR s.q).1, .bool (nextR s.q).2]) (fun _ => Rl b s :: Fr) := by
  refine Ctr.ex Ext.here rl_open ?_
  rintro ⟨js, ba, bc, da, dc, qa, qc⟩ hx
  refine Ctr.imp star_open ?_
  have hln := hx.len
  have hok := hx.ok
  have hab := hx.abs
  have hql := hok.ql
  have hcl := rl_close (b := b) (G := Fr) _ hx
  dsimp only [RO, List.cons_append, List.nil_append] at hln hcl hab ⊢
  refine Ctr.of_body Try.func65 rfl Try.ntmps65 rfl ?_
  refine CG.seq ?_
  refine CG.region ?_
  refine OG.yield (Yield.assign rfl) rfl ?_
  refine OG.yield (Yield.assign rfl) rfl ?_
  refine OG.nil ?_
  refine QG.then ?_
  refine CG.seq ?_
  refine CG.seq ?_
  rcases js with _ | ⟨j, js⟩
  · skip
    skip
    refine CG.region ?_
    refine OG.yield (Yield.move rfl) rfl ?_
    refine OG.yield (Yield.nilCheck rfl) rfl ?_
    refine OG.yield (Yield.fieldAddr fa121_4 rfl) rfl ?_
    refine OG.yield (Yield.load (v := .slice qa 0 qc) ti119 rfl (Cel.of_blk (b := b) (by repeat (first | exact Ext.here | apply Ext.there)) rfl)) rfl ?_
    refine OG.yield (Yield.len_slice (a := qa) (m := 0) (c := qc) Try.underlying119 rfl rfl) rfl ?_
    refine OG.yield (by first | exact Yield.as (Yield.eql rfl rfl) (bT (by omega)) | exact Yield.as (Yield.eql rfl rfl) (bF (by omega)) | exact Yield.eql rfl rfl) rfl ?_
    refine OG.nil ?_
    refine QG.then ?_
    refine CG.cond_t rfl ?_
    refine CG.seq ?_
    refine CG.region ?_
    refine OG.yield (Yield.assign rfl) rfl ?_
    refine OG.yield (Yield.assign rfl) rfl ?_
    refine OG.nil ?_
    refine QG.then ?_
    refine CG.ret ?_
    refine QG.pass_ret ?_
    exact QG.ret2 rfl rfl rfl () trivial (by rw [← hab]; rfl) (Imp.trans (by repeat (first | exact Imp.refl _ | exact Imp.none _ | apply Imp.pull (by repeat (first | exact Ext.here | apply Ext.there)) | apply Imp.trans Imp.drop)) hcl)
  · skip
    refine CG.pure (fun w hw => shape_ws (a := qa) (c := qc) (n := 0) (l := j :: js) (Nat.succ_pos _) (by repeat (first | exact Ext.here | apply Ext.there)) w hw) ?_
    rintro ⟨qb, qo, rfl⟩
    refine CG.region ?_
    refine OG.yield (Yield.move rfl) rfl ?_
    refine OG.yield (Yield.nilCheck rfl) rfl ?_
    refine OG.yield (Yield.fieldAddr fa121_4 rfl) rfl ?_
    refine OG.yield (Yield.load (v := .slice (some ⟨qb, qo, none⟩) (js.length + 1) qc) ti119 rfl (Cel.of_blk (b := b) (by repeat (first | exact Ext.here | apply Ext.there)) rfl)) rfl ?_
    refine OG.yield (Yield.len_slice (a := some ⟨qb, qo, none⟩) (m := js.length + 1) (c := qc) Try.underlying119 rfl rfl) rfl ?_
    refine OG.yield (by first | exact Yield.as (Yield.eql rfl rfl) (bT (by omega)) | exact Yield.as (Yield.eql rfl rfl) (bF (by omega)) | exact Yield.eql rfl rfl) rfl ?_
    refine OG.nil ?_
    refine QG.then ?_
    refine CG.cond_f rfl ?_
    refine CG.skip ?_
    refine QG.then ?_
    refine CG.seq ?_
    refine CG.region ?_
    refine OG.yield (Yield.move rfl) rfl ?_
    refine OG.yield (Yield.nilCheck rfl) rfl ?_
    refine OG.yield (Yield.fieldAddr fa121_4 rfl) rfl ?_
    refine OG.yield (Yield.load (v := .slice (some ⟨qb, qo, none⟩) (js.length + 1) qc) ti119 rfl (Cel.of_blk (b := b) (by repeat (first | exact Ext.here | apply Ext.there)) rfl)) rfl ?_
    refine OG.yield (Yield.index_slice (b := qb) (o := qo) (m := js.length + 1) (c := qc) Try.underlying119 ti123 rfl rfl (by omega) (by omega)) rfl ?_
    refine OG.yield (Yield.fieldAddr fa123_1 rfl) rfl ?_
    refine OG.yield (Yield.load (v := .int .i64 j.done) ti3 rfl (by exact ((SlR.of_osl (E := 123) (a := some ⟨qb, qo, none⟩) (by repeat (first | exact Ext.here | apply Ext.there))).elem (f := CJ.cells) (xs := j :: js) (i := 0) CJ.len rfl) 5 _ rfl)) rfl ?_
    refine OG.yield (Yield.assign rfl) rfl ?_
    refine OG.yield (Yield.assign rfl) rfl ?_
    refine OG.nil ?_
    refine QG.then ?_
    refine CG.ret ?_
    exact QG.ret2 rfl rfl rfl () trivial (by rw [← hab]; rfl) (Imp.trans (by repeat (first | exact Imp.refl _ | exact Imp.none _ | apply Imp.pull (by repeat (first | exact Ext.here | apply Ext.there)) | apply Imp.trans Imp.drop)) hcl)
end
end Go.Proofs.Ytoejnhfcegchhaa.Bk
