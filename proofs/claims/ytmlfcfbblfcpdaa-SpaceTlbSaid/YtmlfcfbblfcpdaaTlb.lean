/- tlb.Tlb as a list of slots: what each function does. -/
import Derived.Test.YtmlfcfbblfcpdaaTab
import Derived.Test.YtmlfcfbblfcpdaaRow
namespace Go.Proofs.Ytmlfcfbblfcpdaa.Tl
open Go Go.Sl Go.RowKit Go.Proofs Go.Proofs.Ytmlfcfbblfcpdaa.T
set_option linter.unusedVariables false
set_option linter.unusedSimpArgs false
set_option maxRecDepth 100000
structure Slot where
  used : Bool
  tag : Int
  page : Int
  frame : Int
  perm : Int
deriving DecidableEq
def Slot.cells (s : Slot) : List Value := [.bool s.used, .int .i64 s.tag, .int .i64 s.page, .int .i64 s.frame, .int .i64 s.perm]
theorem Slot.len (s : Slot) : s.cells.length = 5 := rfl
theorem Slot.ones (s : Slot) : ∀ v ∈ s.cells, one v = true := by simp [Slot.cells, one]
def Slot.zero : Slot := ⟨false, 0, 0, 0, 0⟩
/-- Is the slot used for the page? -/
def hitB (tag page : Int) (s : Slot) : Bool := s.used && (s.tag == tag && s.page == page)
def oi : Option Nat → Int
  | some i => i
  | none => -1
abbrev PA := (Nat × Nat) × Nat
abbrev TO (t : Nat) (l : List Slot) (hand hits miss : Nat) (p : PA) : List HProp :=
  [blk t [.slice (some ⟨p.1.1, p.1.2, none⟩) l.length p.2, .int .i64 hand, .int .i64 hits, .int .i64 miss] 147, osl 159 5 (some ⟨p.1.1, p.1.2, none⟩) p.2 l.length ((l.map Slot.cells).flatten)]
/-- At block t lies a table. -/
def T (t : Nat) (l : List Slot) (hand hits miss : Nat) : HProp := fun h => ∃ p, True ∧ Star (TO t l hand hits miss p) h
theorem t_open {t : Nat} {l : List Slot} {hand hits miss : Nat} (y : Heaplet) (h : T t l hand hits miss y) : ∃ p, True ∧ Star (TO t l hand hits miss p) y := h
theorem t_close {t : Nat} {l : List Slot} {hand hits miss : Nat} {G : List HProp} (p : PA) : Imp (TO t l hand hits miss p ++ G) (T t l hand hits miss :: G) :=
  Imp.trans star_close (Imp.head fun y hy => ⟨p, trivial, hy⟩)
theorem zero_cells (n : Nat) : (List.replicate n [Value.bool false, .int .i64 0, .int .i64 0, .int .i64 0, .int .i64 0]).flatten = ((List.replicate n Slot.zero).map Slot.cells).flatten := by
  rw [List.map_replicate]; rfl
section
variable (W0 : World) (Fr : List HProp)
theorem new_spec {n : Nat} (h1 : 1 ≤ n) (h2 : n ≤ 64) : Ctr Try.prog W0 32 [.int .i64 n] Fr (fun _ : Nat => True) (fun t => .tuple #[.pointer (some ⟨t, 0, none⟩), .int .i64 0]) (fun t => T t (List.replicate n Slot.zero) 0 0 0 :: Fr) := by
  refine Ctr.of_body Try.func32 rfl Try.ntmps32 rfl ?_
  refine CG.seq ?_
  refine CG.region ?_
  refine OG.yield (Yield.assign rfl) rfl ?_
  refine OG.yield (Yield.assign rfl) rfl ?_
  refine OG.nil ?_
  refine QG.then ?_
  refine CG.seq ?_
  refine CG.seq ?_
  refine CG.region ?_
  refine OG.yield (Yield.move rfl) rfl ?_
  refine OG.yield (by first | exact Yield.as (Yield.lss rfl rfl) (bT (by omega)) | exact Yield.as (Yield.lss rfl rfl) (bF (by omega)) | exact Yield.lss rfl rfl) rfl ?_
  refine OG.yield (Yield.move rfl) rfl ?_
  refine OG.guard_yes rfl rfl rfl (by decide) ?_
  refine OG.yield (Yield.move rfl) rfl ?_
  refine OG.guard_yes rfl rfl rfl (by decide) ?_
  refine OG.yield (by first | exact Yield.as (Yield.gtr rfl rfl) (bT (by omega)) | exact Yield.as (Yield.gtr rfl rfl) (bF (by omega)) | exact Yield.gtr rfl rfl) rfl ?_
  refine OG.yield (by first | exact Yield.pick_t rfl rfl | exact Yield.pick_f rfl rfl | exact Yield.pick rfl (fun _ => rfl) (fun _ => rfl)) rfl ?_
  refine OG.nil ?_
  refine QG.then ?_
  refine CG.cond_f rfl ?_
  refine CG.skip ?_
  refine QG.then ?_
  refine CG.seq ?_
  refine CG.region ?_
  refine OG.yield (Yield.move rfl) rfl ?_
  refine OG.effd (Eff.makeSlice Try.underlying145 ti159 rfl (by decide) rfl (by omega) (by omega) (by omega)) rfl ?_
  rintro b11 -
  refine OG.yield (Yield.build bu147 ti147 rfl (cells := [_, _, _, _]) rfl) rfl ?_
  refine OG.effd (Eff.box rfl) rfl ?_
  rintro b13 -
  refine OG.yield (Yield.assign rfl) rfl ?_
  refine OG.yield (Yield.assign rfl) rfl ?_
  refine OG.nil ?_
  refine QG.then ?_
  refine CG.ret ?_
  refine QG.ret2 rfl rfl rfl b13 trivial rfl (Imp.trans ?_ (t_close (l := List.replicate n Slot.zero) ((b11, 0), n)))
  dsimp only [TO]
  rw [List.length_replicate, ← zero_cells]
  exact (by repeat (first | exact Imp.refl _ | exact Imp.none _ | apply Imp.pull (by repeat (first | exact Ext.here | apply Ext.there)) | apply Imp.trans Imp.drop))
theorem find_spec {t hand hits miss : Nat} {l : List Slot} (tag page : Int) (hl : l.length ≤ 64) : Ctr Try.prog W0 82 [.pointer (some ⟨t, 0, none⟩), .int .i64 tag, .int .i64 page] (T t l hand hits miss :: Fr) (fun _ : Unit => True) (fun _ => .int .i64 (oi (l.findIdx? (hitB tag page)))) (fun _ => T t l hand hits miss :: Fr) := by
  refine Ctr.ex Ext.here t_open ?_
  rintro ⟨⟨b, o⟩, c⟩ -
  refine Ctr.imp star_open ?_
  dsimp only [TO]
  refine Ctr.of_body Try.func82 rfl Try.ntmps82 rfl ?_
  refine CG.seq ?_
  refine CG.region ?_
  refine OG.yield (Yield.assign rfl) rfl ?_
  refine OG.nil ?_
  refine QG.then ?_
  refine CG.seq ?_
  refine CG.seq ?_
  refine CG.region ?_
  refine OG.yield (Yield.move rfl) rfl ?_
  refine OG.yield (Yield.nilCheck rfl) rfl ?_
  refine OG.yield (Yield.fieldAddr fa147_0 rfl) rfl ?_
  refine OG.yield (Yield.load ti145 rfl (by first | exact Cel.of_blk (by repeat (first | exact Ext.here | apply Ext.there)) rfl | exact (hrow (by repeat (first | exact Ext.here | apply Ext.there))) _ _ rfl)) rfl ?_
  refine OG.yield (Yield.len_slice Try.underlying145 rfl rfl) rfl ?_
  refine OG.yield (Yield.move rfl) rfl ?_
  refine OG.nil ?_
  refine QG.then ?_
  refine CG.block ?_
  refine CG.loop (fun i : Nat => i ≤ l.length ∧ ∀ j s, l[j]? = some s → j < i → hitB tag page s = false) (fun i => [(1, .int .i64 tag), (2, .int .i64 page), (12, .slice (some ⟨b, o, none⟩) l.length c), (13, .int .i64 l.length), (14, .int .i64 i)]) (fun _ => TO t l hand hits miss ((b, o), c) ++ Fr) (fun i => l.length - i) 0 ⟨Nat.zero_le _, fun j s _ h => absurd h (Nat.not_lt_zero _)⟩ (by repeat (first | exact Env.sub_nil _ | refine Env.sub_cons rfl ?_)) (Imp.refl _) ?_
  rintro i ⟨hi, hno⟩
  dsimp only [TO, List.cons_append, List.nil_append]
  refine CG.seq ?_
  refine CG.region ?_
  refine OG.yield (by first | exact Yield.as (Yield.lss rfl rfl) (bT (by omega)) | exact Yield.as (Yield.lss rfl rfl) (bF (by omega)) | exact Yield.lss rfl rfl) rfl ?_
  refine OG.nil ?_
  refine QG.then ?_
  refine CG.seq ?_
  refine CG.cond rfl (fun hc => ?_) (fun hc => ?_)
  · try replace hc := of_decide_eq_true hc
    have hi' : i < l.length := by omega
    have hget : l[i]? = some l[i] := by simp [hi']
    generalize l[i] = s at hget
    refine CG.skip ?_
    refine QG.then ?_
    refine CG.seq ?_
    refine CG.block ?_
    refine CG.seq ?_
    refine CG.region ?_
    refine OG.yield (Yield.move rfl) rfl ?_
    refine OG.yield (Yield.index_slice Try.underlying145 ti159 rfl rfl (by omega) (by omega)) rfl ?_
    refine OG.yield (Yield.load_agg ti159 rfl (Slot.len s) ((SlR.of_osl (by repeat (first | exact Ext.here | apply Ext.there))).elem Slot.len hget)) rfl ?_
    refine OG.effd (Eff.alloc ti159) rfl ?_
    rintro b8 -
    refine OG.yield (Yield.assign rfl) rfl ?_
    refine OG.eff (Eff.storeAll ti159 rfl rfl (by repeat (first | exact Foc.here | apply Foc.there)) (Slot.len s) (Slot.ones s) rfl) rfl ?_
    rintro ⟨⟩ -
    refine OG.nil ?_
    refine QG.then ?_
    refine CG.seq ?_
    refine CG.region ?_
    refine OG.yield (Yield.load_agg ti159 rfl (Slot.len s) (Row.of_blk (by repeat (first | exact Ext.here | apply Ext.there)) rfl)) rfl ?_
    refine OG.yield (Yield.move rfl) rfl ?_
    refine OG.yield (Yield.move rfl) rfl ?_
    refine OG.yield (Yield.fieldAddr fa159_1 rfl) rfl ?_
    refine OG.yield (Yield.fieldAddr fa157_2 rfl) rfl ?_
    refine OG.yield (Yield.load ti3 rfl (by first | exact Cel.of_blk (by repeat (first | exact Ext.here | apply Ext.there)) rfl | exact (hrow (by repeat (first | exact Ext.here | apply Ext.there))) _ _ rfl)) rfl ?_
    refine OG.yield (Yield.fieldAddr fa159_1 rfl) rfl ?_
    refine OG.yield (Yield.fieldAddr fa157_3 rfl) rfl ?_
    refine OG.yield (Yield.load ti3 rfl (by first | exact Cel.of_blk (by repeat (first | exact Ext.here | apply Ext.there)) rfl | exact (hrow (by repeat (first | exact Ext.here | apply Ext.there))) _ _ rfl)) rfl ?_
    refine OG.yield (Yield.build bu157 ti157 rfl (cells := [_, _, _, _]) rfl) rfl ?_
    refine OG.yield (Yield.build bu159 ti159 rfl (cells := [_, _, _, _, _]) rfl) rfl ?_
    refine OG.yield (Yield.agg_eql 6 (xs := s.cells) (ys := [.bool true, .int .i64 tag, .int .i64 page, .int .i64 s.frame, .int .i64 s.perm]) (b := hitB tag page s) rfl rfl (by decide) flat159 guard159 rfl rfl (by simp [Slot.cells, eqCells, cellEq, hitB])) rfl ?_
    refine OG.nil ?_
    refine QG.then ?_
    refine CG.cond rfl (fun hc => ?_) (fun hc => ?_)
    · try replace hc := of_decide_eq_true hc
      refine CG.seq ?_
      refine CG.region ?_
      refine OG.yield (Yield.move rfl) rfl ?_
      refine OG.yield (Yield.assign rfl) rfl ?_
      refine OG.nil ?_
      refine QG.then ?_
      refine CG.ret ?_
      refine QG.block_ret ?_
      refine QG.pass_ret ?_
      refine QG.pass_ret ?_
      refine QG.block_ret ?_
      refine QG.pass_ret ?_
      have hx : l.findIdx? (hitB tag page) = some i := by
        rw [List.findIdx?_eq_some_iff_getElem]
        have e := List.getElem?_eq_some_iff.1 hget
        obtain ⟨h3, h4⟩ := e
        exact ⟨h3, by rw [h4]; exact hc, fun j hj => by rw [hno j l[j] (by simp) hj]; decide⟩
      rw [hx]
      exact QG.ret1 rfl rfl () trivial rfl (Imp.trans (by repeat (first | exact Imp.refl _ | exact Imp.none _ | apply Imp.pull (by repeat (first | exact Ext.here | apply Ext.there)) | apply Imp.trans Imp.drop)) (t_close ((b, o), c)))
    · try replace hc := of_decide_eq_false hc
      have hc2 := hc
      refine CG.skip ?_
      refine QG.block_normal ?_
      refine QG.then ?_
      refine CG.region ?_
      refine OG.yield (Yield.add rfl rfl (w64 (by omega) (by omega))) rfl ?_
      refine OG.yield (Yield.move rfl) rfl ?_
      refine OG.nil ?_
      refine QG.next (i + 1) ⟨by omega, fun j s' hj hlt => ?_⟩ (by omega) (by repeat (first | exact Env.sub_nil _ | refine Env.sub_cons rfl ?_)) (by repeat (first | exact Imp.refl _ | exact Imp.none _ | apply Imp.pull (by repeat (first | exact Ext.here | apply Ext.there)) | apply Imp.trans Imp.drop))
      rcases Nat.lt_or_ge j i with h | h
      · exact hno j s' hj h
      · have : j = i := by omega
        subst this
        rw [hget] at hj; cases hj; exact hc2
  · try replace hc := of_decide_eq_false hc
    refine CG.exit ?_
    refine QG.pass_exit ?_
    refine QG.pass_exit ?_
    refine QG.block_exit ?_
    refine QG.then ?_
    refine CG.seq ?_
    refine CG.region ?_
    refine OG.yield (Yield.assign rfl) rfl ?_
    refine OG.nil ?_
    refine QG.then ?_
    refine CG.ret ?_
    have hx : l.findIdx? (hitB tag page) = none := by
      rw [List.findIdx?_eq_none_iff]
      intro s hs
      obtain ⟨j, hj, rfl⟩ := List.getElem_of_mem hs
      exact hno j l[j] (by simp [hj]) (by omega)
    rw [hx]
    exact QG.ret1 rfl rfl () trivial rfl (Imp.trans (by repeat (first | exact Imp.refl _ | exact Imp.none _ | apply Imp.pull (by repeat (first | exact Ext.here | apply Ext.there)) | apply Imp.trans Imp.drop)) (t_close ((b, o), c)))
theorem free_spec {t hand hits miss : Nat} {l : List Slot} (hl : l.length ≤ 64) : Ctr Try.prog W0 93 [.pointer (some ⟨t, 0, none⟩)] (T t l hand hits miss :: Fr) (fun _ : Unit => True) (fun _ => .int .i64 (oi (l.findIdx? (fun s => !s.used)))) (fun _ => T t l hand hits miss :: Fr) := by
  refine Ctr.ex Ext.here t_open ?_
  rintro ⟨⟨b, o⟩, c⟩ -
  refine Ctr.imp star_open ?_
  dsimp only [TO]
  refine Ctr.of_body Try.func93 rfl Try.ntmps93 rfl ?_
  refine CG.seq ?_
  refine CG.region ?_
  refine OG.yield (Yield.assign rfl) rfl ?_
  refine OG.nil ?_
  refine QG.then ?_
  refine CG.seq ?_
  refine CG.seq ?_
  refine CG.region ?_
  refine OG.yield (Yield.move rfl) rfl ?_
  refine OG.yield (Yield.nilCheck rfl) rfl ?_
  refine OG.yield (Yield.fieldAddr fa147_0 rfl) rfl ?_
  refine OG.yield (Yield.load ti145 rfl (by first | exact Cel.of_blk (by repeat (first | exact Ext.here | apply Ext.there)) rfl | exact (hrow (by repeat (first | exact Ext.here | apply Ext.there))) _ _ rfl)) rfl ?_
  refine OG.yield (Yield.len_slice Try.underlying145 rfl rfl) rfl ?_
  refine OG.yield (Yield.move rfl) rfl ?_
  refine OG.nil ?_
  refine QG.then ?_
  refine CG.block ?_
  refine CG.loop (fun i : Nat => i ≤ l.length ∧ ∀ j s, l[j]? = some s → j < i → (!s.used) = false) (fun i => [(8, .slice (some ⟨b, o, none⟩) l.length c), (9, .int .i64 l.length), (10, .int .i64 i)]) (fun _ => TO t l hand hits miss ((b, o), c) ++ Fr) (fun i => l.length - i) 0 ⟨Nat.zero_le _, fun j s _ h => absurd h (Nat.not_lt_zero _)⟩ (by repeat (first | exact Env.sub_nil _ | refine Env.sub_cons rfl ?_)) (Imp.refl _) ?_
  rintro i ⟨hi, hno⟩
  dsimp only [TO, List.cons_append, List.nil_append]
  refine CG.seq ?_
  refine CG.region ?_
  refine OG.yield (by first | exact Yield.as (Yield.lss rfl rfl) (bT (by omega)) | exact Yield.as (Yield.lss rfl rfl) (bF (by omega)) | exact Yield.lss rfl rfl) rfl ?_
  refine OG.nil ?_
  refine QG.then ?_
  refine CG.seq ?_
  refine CG.cond rfl (fun hc => ?_) (fun hc => ?_)
  · try replace hc := of_decide_eq_true hc
    have hi' : i < l.length := by omega
    have hget : l[i]? = some l[i] := by simp [hi']
    generalize l[i] = s at hget
    refine CG.skip ?_
    refine QG.then ?_
    refine CG.seq ?_
    refine CG.block ?_
    refine CG.seq ?_
    refine CG.region ?_
    refine OG.yield (Yield.move rfl) rfl ?_
    refine OG.yield (Yield.index_slice Try.underlying145 ti159 rfl rfl (by omega) (by omega)) rfl ?_
    refine OG.yield (Yield.load_agg ti159 rfl (Slot.len s) ((SlR.of_osl (by repeat (first | exact Ext.here | apply Ext.there))).elem Slot.len hget)) rfl ?_
    refine OG.effd (Eff.alloc ti159) rfl ?_
    rintro b4 -
    refine OG.yield (Yield.assign rfl) rfl ?_
    refine OG.eff (Eff.storeAll ti159 rfl rfl (by repeat (first | exact Foc.here | apply Foc.there)) (Slot.len s) (Slot.ones s) rfl) rfl ?_
    rintro ⟨⟩ -
    refine OG.nil ?_
    refine QG.then ?_
    refine CG.seq ?_
    refine CG.region ?_
    refine OG.yield (Yield.fieldAddr fa159_0 rfl) rfl ?_
    refine OG.yield (Yield.load (v := .bool s.used) ti4 rfl (Cel.of_blk (b := b4) (by repeat (first | exact Ext.here | apply Ext.there)) rfl)) rfl ?_
    refine OG.yield (Yield.not rfl) rfl ?_
    refine OG.nil ?_
    refine QG.then ?_
    refine CG.cond rfl (fun hc => ?_) (fun hc => ?_)
    · try replace hc := of_decide_eq_true hc
      refine CG.seq ?_
      refine CG.region ?_
      refine OG.yield (Yield.move rfl) rfl ?_
      refine OG.yield (Yield.assign rfl) rfl ?_
      refine OG.nil ?_
      refine QG.then ?_
      refine CG.ret ?_
      refine QG.block_ret ?_
      refine QG.pass_ret ?_
      refine QG.pass_ret ?_
      refine QG.block_ret ?_
      refine QG.pass_ret ?_
      have hx : l.findIdx? (fun s => !s.used) = some i := by
        rw [List.findIdx?_eq_some_iff_getElem]
        have e := List.getElem?_eq_some_iff.1 hget
        obtain ⟨h3, h4⟩ := e
        exact ⟨h3, by rw [h4]; exact hc, fun j hj => by rw [hno j l[j] (by simp) hj]; decide⟩
      rw [hx]
      exact QG.ret1 rfl rfl () trivial rfl (Imp.trans (by repeat (first | exact Imp.refl _ | exact Imp.none _ | apply Imp.pull (by repeat (first | exact Ext.here | apply Ext.there)) | apply Imp.trans Imp.drop)) (t_close ((b, o), c)))
    · try replace hc := of_decide_eq_false hc
      have hc2 := hc
      refine CG.skip ?_
      refine QG.block_normal ?_
      refine QG.then ?_
      refine CG.region ?_
      refine OG.yield (Yield.add rfl rfl (w64 (by omega) (by omega))) rfl ?_
      refine OG.yield (Yield.move rfl) rfl ?_
      refine OG.nil ?_
      refine QG.next (i + 1) ⟨by omega, fun j s' hj hlt => ?_⟩ (by omega) (by repeat (first | exact Env.sub_nil _ | refine Env.sub_cons rfl ?_)) (by repeat (first | exact Imp.refl _ | exact Imp.none _ | apply Imp.pull (by repeat (first | exact Ext.here | apply Ext.there)) | apply Imp.trans Imp.drop))
      rcases Nat.lt_or_ge j i with h | h
      · exact hno j s' hj h
      · have : j = i := by omega
        subst this
        rw [hget] at hj; cases hj; exact hc2
  · try replace hc := of_decide_eq_false hc
    refine CG.exit ?_
    refine QG.pass_exit ?_
    refine QG.pass_exit ?_
    refine QG.block_exit ?_
    refine QG.then ?_
    refine CG.seq ?_
    refine CG.region ?_
    refine OG.yield (Yield.assign rfl) rfl ?_
    refine OG.nil ?_
    refine QG.then ?_
    refine CG.ret ?_
    have hx : l.findIdx? (fun s => !s.used) = none := by
      rw [List.findIdx?_eq_none_iff]
      intro s hs
      obtain ⟨j, hj, rfl⟩ := List.getElem_of_mem hs
      exact hno j l[j] (by simp [hj]) (by omega)
    rw [hx]
    exact QG.ret1 rfl rfl () trivial rfl (Imp.trans (by repeat (first | exact Imp.refl _ | exact Imp.none _ | apply Imp.pull (by repeat (first | exact Ext.here | apply Ext.there)) | apply Imp.trans Imp.drop)) (t_close ((b, o), c)))
/-- What Put makes of the slots and the hand. -/
def putL (l : List Slot) (hand : Nat) (s : Slot) : List Slot × Nat :=
  match l.findIdx? (hitB s.tag s.page) with
  | some i => (l.set i s, hand)
  | none => match l.findIdx? (fun s => !s.used) with
    | some i => (l.set i s, hand)
    | none => (l.set hand s, (hand + 1) % l.length)
theorem put_cases (l : List Slot) (tag page : Int) : (∃ i, l.findIdx? (hitB tag page) = some i ∧ i < l.length) ∨ (l.findIdx? (hitB tag page) = none ∧ ∃ i, l.findIdx? (fun s => !s.used) = some i ∧ i < l.length) ∨ (l.findIdx? (hitB tag page) = none ∧ l.findIdx? (fun s => !s.used) = none) := by
  cases h1 : l.findIdx? (hitB tag page) with
  | some i => exact .inl ⟨i, rfl, (List.findIdx?_eq_some_iff_getElem.1 h1).1⟩
  | none =>
    cases h2 : l.findIdx? (fun s => !s.used) with
    | some i => exact .inr (.inl ⟨rfl, i, rfl, (List.findIdx?_eq_some_iff_getElem.1 h2).1⟩)
    | none => exact .inr (.inr ⟨rfl, rfl⟩)
theorem put_spec {t hand hits miss : Nat} {l : List Slot} (tag page frame perm : Int) (hl : l.length ≤ 64) (hh0 : hand < l.length) : Ctr Try.prog W0 92 [.pointer (some ⟨t, 0, none⟩), .int .i64 tag, .int .i64 page, .int .i64 frame, .int .i64 perm] (T t l hand hits miss :: Fr) (fun _ : Unit => True) (fun _ => .tuple #[])
    (fun _ => T t (putL l hand ⟨true, tag, page, frame, perm⟩).1 (putL l hand ⟨true, tag, page, frame, perm⟩).2 hits miss :: Fr) := by
  refine Ctr.of_body Try.func92 rfl Try.ntmps92 rfl ?_
  refine CG.seq ?_
  refine CG.region ?_
  refine OG.yield (Yield.move rfl) rfl ?_
  refine OG.yield (Yield.move rfl) rfl ?_
  refine OG.yield (Yield.move rfl) rfl ?_
  refine OG.callo call82 rfl ((by repeat (first | exact Imp.refl _ | exact Imp.none _ | apply Imp.pull (by repeat (first | exact Ext.here | apply Ext.there)) | apply Imp.trans Imp.drop))) (find_spec W0 Fr tag page hl) rfl ?_
  rintro ⟨⟩ -
  refine OG.yield (Yield.assign rfl) rfl ?_
  refine OG.nil ?_
  refine QG.then ?_
  refine CG.seq ?_
  refine CG.seq ?_
  rcases put_cases l tag page with hh | hh | hh
  · skip
    obtain ⟨i, hf, hi⟩ := hh
    rw [hf, show oi (some i) = (i : Int) from rfl]
    refine CG.region ?_
    refine OG.yield (Yield.move rfl) rfl ?_
    refine OG.yield (by first | exact Yield.as (Yield.lss rfl rfl) (bT (by omega)) | exact Yield.as (Yield.lss rfl rfl) (bF (by omega)) | exact Yield.lss rfl rfl) rfl ?_
    refine OG.nil ?_
    refine QG.then ?_
    refine CG.cond_f rfl ?_
    refine CG.skip ?_
    refine QG.then ?_
    refine CG.seq ?_
    refine CG.seq ?_
    refine CG.region ?_
    refine OG.yield (Yield.move rfl) rfl ?_
    refine OG.yield (by first | exact Yield.as (Yield.lss rfl rfl) (bT (by omega)) | exact Yield.as (Yield.lss rfl rfl) (bF (by omega)) | exact Yield.lss rfl rfl) rfl ?_
    refine OG.nil ?_
    refine QG.then ?_
    refine CG.cond_f rfl ?_
    refine CG.skip ?_
    refine QG.then ?_
    refine CG.ex (A := T t l hand hits miss) (by repeat (first | exact Ext.here | apply Ext.there)) t_open ?_
    rintro ⟨⟨b, o⟩, c⟩ -
    refine CG.imp star_open ?_
    dsimp only [TO, List.cons_append, List.nil_append]
    refine CG.region ?_
    refine OG.yield (Yield.move rfl) rfl ?_
    refine OG.yield (Yield.nilCheck rfl) rfl ?_
    refine OG.yield (Yield.fieldAddr fa147_0 rfl) rfl ?_
    refine OG.yield (Yield.load ti145 rfl (by first | exact Cel.of_blk (by repeat (first | exact Ext.here | apply Ext.there)) rfl | exact (hrow (by repeat (first | exact Ext.here | apply Ext.there))) _ _ rfl)) rfl ?_
    refine OG.yield (Yield.move rfl) rfl ?_
    refine OG.yield (Yield.move rfl) rfl ?_
    refine OG.yield (Yield.move rfl) rfl ?_
    refine OG.yield (Yield.move rfl) rfl ?_
    refine OG.yield (Yield.move rfl) rfl ?_
    refine OG.yield (Yield.build bu157 ti157 rfl (cells := [_, _, _, _]) rfl) rfl ?_
    refine OG.yield (Yield.build bu159 ti159 rfl (cells := [_, _, _, _, _]) rfl) rfl ?_
    refine OG.yield (Yield.index_slice Try.underlying145 ti159 rfl rfl (by omega) (by omega)) rfl ?_
    refine OG.eff (Eff.storeRec (i := i) (r := ⟨true, tag, page, frame, perm⟩) (rs := l) Slot.len Slot.ones ti159 rfl rfl (by repeat (first | exact Foc.here | apply Foc.there)) rfl hi) rfl ?_
    rintro ⟨⟩ -
    refine OG.nil ?_
    rw [show putL l hand ⟨true, tag, page, frame, perm⟩ = (l.set i ⟨true, tag, page, frame, perm⟩, hand) by simp [putL, hf]]
    refine QG.end0 rfl () trivial rfl (Imp.trans ?_ (t_close ((b, o), c)))
    dsimp only [TO]
    rw [List.length_set]
    exact (by repeat (first | exact Imp.refl _ | exact Imp.none _ | apply Imp.pull (by repeat (first | exact Ext.here | apply Ext.there)) | apply Imp.trans Imp.drop))
  · skip
    obtain ⟨hf, i, hg, hi⟩ := hh
    rw [hf, show oi none = -1 from rfl]
    refine CG.region ?_
    refine OG.yield (Yield.move rfl) rfl ?_
    refine OG.yield (by first | exact Yield.as (Yield.lss rfl rfl) (bT (by omega)) | exact Yield.as (Yield.lss rfl rfl) (bF (by omega)) | exact Yield.lss rfl rfl) rfl ?_
    refine OG.nil ?_
    refine QG.then ?_
    refine CG.cond_t rfl ?_
    refine CG.region ?_
    refine OG.yield (Yield.move rfl) rfl ?_
    refine OG.callo call93 rfl ((by repeat (first | exact Imp.refl _ | exact Imp.none _ | apply Imp.pull (by repeat (first | exact Ext.here | apply Ext.there)) | apply Imp.trans Imp.drop))) (free_spec W0 Fr hl) rfl ?_
    rintro ⟨⟩ -
    rw [hg, show oi (some i) = (i : Int) from rfl]
    refine OG.yield (Yield.assign rfl) rfl ?_
    refine OG.nil ?_
    refine QG.then ?_
    refine CG.seq ?_
    refine CG.seq ?_
    refine CG.region ?_
    refine OG.yield (Yield.move rfl) rfl ?_
    refine OG.yield (by first | exact Yield.as (Yield.lss rfl rfl) (bT (by omega)) | exact Yield.as (Yield.lss rfl rfl) (bF (by omega)) | exact Yield.lss rfl rfl) rfl ?_
    refine OG.nil ?_
    refine QG.then ?_
    refine CG.cond_f rfl ?_
    refine CG.skip ?_
    refine QG.then ?_
    refine CG.ex (A := T t l hand hits miss) (by repeat (first | exact Ext.here | apply Ext.there)) t_open ?_
    rintro ⟨⟨b, o⟩, c⟩ -
    refine CG.imp star_open ?_
    dsimp only [TO, List.cons_append, List.nil_append]
    refine CG.region ?_
    refine OG.yield (Yield.move rfl) rfl ?_
    refine OG.yield (Yield.nilCheck rfl) rfl ?_
    refine OG.yield (Yield.fieldAddr fa147_0 rfl) rfl ?_
    refine OG.yield (Yield.load ti145 rfl (by first | exact Cel.of_blk (by repeat (first | exact Ext.here | apply Ext.there)) rfl | exact (hrow (by repeat (first | exact Ext.here | apply Ext.there))) _ _ rfl)) rfl ?_
    refine OG.yield (Yield.move rfl) rfl ?_
    refine OG.yield (Yield.move rfl) rfl ?_
    refine OG.yield (Yield.move rfl) rfl ?_
    refine OG.yield (Yield.move rfl) rfl ?_
    refine OG.yield (Yield.move rfl) rfl ?_
    refine OG.yield (Yield.build bu157 ti157 rfl (cells := [_, _, _, _]) rfl) rfl ?_
    refine OG.yield (Yield.build bu159 ti159 rfl (cells := [_, _, _, _, _]) rfl) rfl ?_
    refine OG.yield (Yield.index_slice Try.underlying145 ti159 rfl rfl (by omega) (by omega)) rfl ?_
    refine OG.eff (Eff.storeRec (i := i) (r := ⟨true, tag, page, frame, perm⟩) (rs := l) Slot.len Slot.ones ti159 rfl rfl (by repeat (first | exact Foc.here | apply Foc.there)) rfl hi) rfl ?_
    rintro ⟨⟩ -
    refine OG.nil ?_
    rw [show putL l hand ⟨true, tag, page, frame, perm⟩ = (l.set i ⟨true, tag, page, frame, perm⟩, hand) by simp [putL, hf, hg]]
    refine QG.end0 rfl () trivial rfl (Imp.trans ?_ (t_close ((b, o), c)))
    dsimp only [TO]
    rw [List.length_set]
    exact (by repeat (first | exact Imp.refl _ | exact Imp.none _ | apply Imp.pull (by repeat (first | exact Ext.here | apply Ext.there)) | apply Imp.trans Imp.drop))
  · skip
    obtain ⟨hf, hg⟩ := hh
    rw [hf, show oi none = -1 from rfl]
    refine CG.region ?_
    refine OG.yield (Yield.move rfl) rfl ?_
    refine OG.yield (by first | exact Yield.as (Yield.lss rfl rfl) (bT (by omega)) | exact Yield.as (Yield.lss rfl rfl) (bF (by omega)) | exact Yield.lss rfl rfl) rfl ?_
    refine OG.nil ?_
    refine QG.then ?_
    refine CG.cond_t rfl ?_
    refine CG.region ?_
    refine OG.yield (Yield.move rfl) rfl ?_
    refine OG.callo call93 rfl ((by repeat (first | exact Imp.refl _ | exact Imp.none _ | apply Imp.pull (by repeat (first | exact Ext.here | apply Ext.there)) | apply Imp.trans Imp.drop))) (free_spec W0 Fr hl) rfl ?_
    rintro ⟨⟩ -
    rw [hg, show oi none = -1 from rfl]
    refine OG.yield (Yield.assign rfl) rfl ?_
    refine OG.nil ?_
    refine QG.then ?_
    refine CG.seq ?_
    refine CG.seq ?_
    refine CG.region ?_
    refine OG.yield (Yield.move rfl) rfl ?_
    refine OG.yield (by first | exact Yield.as (Yield.lss rfl rfl) (bT (by omega)) | exact Yield.as (Yield.lss rfl rfl) (bF (by omega)) | exact Yield.lss rfl rfl) rfl ?_
    refine OG.nil ?_
    refine QG.then ?_
    refine CG.cond_t rfl ?_
    refine CG.seq ?_
    refine CG.ex (A := T t l hand hits miss) (by repeat (first | exact Ext.here | apply Ext.there)) t_open ?_
    rintro ⟨⟨b, o⟩, c⟩ -
    refine CG.imp star_open ?_
    dsimp only [TO, List.cons_append, List.nil_append]
    refine CG.region ?_
    refine OG.yield (Yield.move rfl) rfl ?_
    refine OG.yield (Yield.nilCheck rfl) rfl ?_
    refine OG.yield (Yield.fieldAddr fa147_1 rfl) rfl ?_
    refine OG.yield (Yield.load ti3 rfl (by first | exact Cel.of_blk (by repeat (first | exact Ext.here | apply Ext.there)) rfl | exact (hrow (by repeat (first | exact Ext.here | apply Ext.there))) _ _ rfl)) rfl ?_
    refine OG.yield (Yield.assign rfl) rfl ?_
    refine OG.nil ?_
    refine QG.then ?_
    refine CG.draw (.look 0 1 (.look 1 1 (.look 2 1 (.look 3 1 (.look 4 1 (.look 5 1 (.look 6 1 (.look 7 1 (.look 8 1 (.look 9 1 (.look 10 1 (.look 11 1 (.look 12 1 (.look 13 1 (.eff1 14 false (.done)))))))))))))))) [14] [] ([]) ([]) mixed (by kernel_rfl) (Imp.none _) (Imp.none _) ?_
    refine DG.look rfl rfl (Yield.move rfl) rfl ?_
    refine DG.look rfl rfl (Yield.move rfl) rfl ?_
    refine DG.look rfl rfl (Yield.nilCheck rfl) rfl ?_
    refine DG.look rfl rfl (Yield.fieldAddr fa147_1 rfl) rfl ?_
    refine DG.look rfl rfl (Yield.load ti3 rfl (by first | exact Cel.of_blk (by repeat (first | exact Ext.here | apply Ext.there)) rfl | exact (hrow (by repeat (first | exact Ext.here | apply Ext.there))) _ _ rfl)) rfl ?_
    refine DG.look rfl rfl (Yield.add rfl rfl (w64 (by omega) (by omega))) rfl ?_
    refine DG.look rfl rfl (Yield.move rfl) rfl ?_
    refine DG.look rfl rfl (Yield.nilCheck rfl) rfl ?_
    refine DG.look rfl rfl (Yield.fieldAddr fa147_0 rfl) rfl ?_
    refine DG.look rfl rfl (Yield.load ti145 rfl (by first | exact Cel.of_blk (by repeat (first | exact Ext.here | apply Ext.there)) rfl | exact (hrow (by repeat (first | exact Ext.here | apply Ext.there))) _ _ rfl)) rfl ?_
    refine DG.look rfl rfl (Yield.len_slice Try.underlying145 rfl rfl) rfl ?_
    refine DG.look rfl rfl (Yield.rem rfl rfl (by omega) (tmod_pos (by omega) (by omega))) rfl ?_
    refine DG.look rfl rfl (Yield.nilCheck rfl) rfl ?_
    refine DG.look rfl rfl (Yield.fieldAddr fa147_1 rfl) rfl ?_
    refine DG.eff1 ?_
    refine Chg.eff rfl rfl (Eff.store1 ti3 rfl rfl (by repeat (first | exact Foc.here | apply Foc.there)) rfl (by first | (simp; done) | decide)) rfl (fun _ => (by repeat (first | exact Imp.refl _ | exact Imp.none _ | apply Imp.pull (by repeat (first | exact Ext.here | apply Ext.there)) | apply Imp.trans Imp.drop))) (fun _ => Imp.refl _) (fun _ => (by repeat (first | exact Imp.refl _ | exact Imp.none _ | apply Imp.pull (by repeat (first | exact Ext.here | apply Ext.there)) | apply Imp.trans Imp.drop))) ?_
    rintro ⟨⟩ -
    refine DG.done ?_
    refine QG.then ?_
    refine CG.region ?_
    refine OG.yield (Yield.move rfl) rfl ?_
    refine OG.yield (Yield.nilCheck rfl) rfl ?_
    refine OG.yield (Yield.fieldAddr fa147_0 rfl) rfl ?_
    refine OG.yield (Yield.load ti145 rfl (by first | exact Cel.of_blk (by repeat (first | exact Ext.here | apply Ext.there)) rfl | exact (hrow (by repeat (first | exact Ext.here | apply Ext.there))) _ _ rfl)) rfl ?_
    refine OG.yield (Yield.move rfl) rfl ?_
    refine OG.yield (Yield.move rfl) rfl ?_
    refine OG.yield (Yield.move rfl) rfl ?_
    refine OG.yield (Yield.move rfl) rfl ?_
    refine OG.yield (Yield.move rfl) rfl ?_
    refine OG.yield (Yield.build bu157 ti157 rfl (cells := [_, _, _, _]) rfl) rfl ?_
    refine OG.yield (Yield.build bu159 ti159 rfl (cells := [_, _, _, _, _]) rfl) rfl ?_
    refine OG.yield (Yield.index_slice Try.underlying145 ti159 rfl rfl (by omega) (by omega)) rfl ?_
    refine OG.eff (Eff.storeRec (i := hand) (r := ⟨true, tag, page, frame, perm⟩) (rs := l) Slot.len Slot.ones ti159 rfl rfl (by repeat (first | exact Foc.here | apply Foc.there)) rfl hh0) rfl ?_
    rintro ⟨⟩ -
    refine OG.nil ?_
    rw [show putL l hand ⟨true, tag, page, frame, perm⟩ = (l.set hand ⟨true, tag, page, frame, perm⟩, (hand + 1) % l.length) by simp [putL, hf, hg]]
    refine QG.end0 rfl () trivial rfl (Imp.trans ?_ (t_close ((b, o), c)))
    dsimp only [TO]
    rw [List.length_set, show (((hand + 1) % l.length : Nat) : Int) = ((hand : Int) + 1) % (l.length : Int) by simp]
    exact (by repeat (first | exact Imp.refl _ | exact Imp.none _ | apply Imp.pull (by repeat (first | exact Ext.here | apply Ext.there)) | apply Imp.trans Imp.drop))
theorem look_hit {t hand hits miss : Nat} {l : List Slot} (tag page : Int) (hl : l.length ≤ 64) (hb : hits < 2 ^ 60) {i : Nat} {s : Slot} (hf : l.findIdx? (hitB tag page) = some i) (hs : l[i]? = some s) :
    Ctr Try.prog W0 91 [.pointer (some ⟨t, 0, none⟩), .int .i64 tag, .int .i64 page] (T t l hand hits miss :: Fr) (fun _ : Unit => True) (fun _ => .tuple #[.int .i64 s.frame, .int .i64 s.perm, .bool true]) (fun _ => T t l hand (hits + 1) miss :: Fr) := by
  have hi : i < l.length := (List.findIdx?_eq_some_iff_getElem.1 hf).1
  refine Ctr.of_body Try.func91 rfl Try.ntmps91 rfl ?_
  refine CG.seq ?_
  refine CG.region ?_
  refine OG.yield (Yield.assign rfl) rfl ?_
  refine OG.yield (Yield.assign rfl) rfl ?_
  refine OG.yield (Yield.assign rfl) rfl ?_
  refine OG.nil ?_
  refine QG.then ?_
  refine CG.seq ?_
  refine CG.region ?_
  refine OG.yield (Yield.move rfl) rfl ?_
  refine OG.yield (Yield.move rfl) rfl ?_
  refine OG.yield (Yield.move rfl) rfl ?_
  refine OG.callo call82 rfl ((by repeat (first | exact Imp.refl _ | exact Imp.none _ | apply Imp.pull (by repeat (first | exact Ext.here | apply Ext.there)) | apply Imp.trans Imp.drop))) (find_spec W0 Fr tag page hl) rfl ?_
  rintro ⟨⟩ -
  rw [hf, show oi (some i) = (i : Int) from rfl]
  refine OG.yield (Yield.assign rfl) rfl ?_
  refine OG.nil ?_
  refine QG.then ?_
  refine CG.seq ?_
  refine CG.seq ?_
  refine CG.region ?_
  refine OG.yield (Yield.move rfl) rfl ?_
  refine OG.yield (by first | exact Yield.as (Yield.lss rfl rfl) (bT (by omega)) | exact Yield.as (Yield.lss rfl rfl) (bF (by omega)) | exact Yield.lss rfl rfl) rfl ?_
  refine OG.nil ?_
  refine QG.then ?_
  refine CG.cond_f rfl ?_
  refine CG.skip ?_
  refine QG.then ?_
  refine CG.seq ?_
  refine CG.ex (A := T t l hand hits miss) (by repeat (first | exact Ext.here | apply Ext.there)) t_open ?_
  rintro ⟨⟨b, o⟩, c⟩ -
  refine CG.imp star_open ?_
  dsimp only [TO, List.cons_append, List.nil_append]
  refine CG.region ?_
  refine OG.yield (Yield.move rfl) rfl ?_
  refine OG.yield (Yield.nilCheck rfl) rfl ?_
  refine OG.yield (Yield.fieldAddr fa147_2 rfl) rfl ?_
  refine OG.yield (Yield.load ti3 rfl (by first | exact Cel.of_blk (by repeat (first | exact Ext.here | apply Ext.there)) rfl | exact (hrow (by repeat (first | exact Ext.here | apply Ext.there))) _ _ rfl)) rfl ?_
  refine OG.yield (Yield.add rfl rfl (w64 (by omega) (by omega))) rfl ?_
  refine OG.yield (Yield.nilCheck rfl) rfl ?_
  refine OG.yield (Yield.fieldAddr fa147_2 rfl) rfl ?_
  refine OG.eff (Eff.store1 ti3 rfl rfl (by repeat (first | exact Foc.here | apply Foc.there)) rfl (by first | (simp; done) | decide)) rfl ?_
  rintro ⟨⟩ -
  refine OG.nil ?_
  refine QG.then ?_
  refine CG.seq ?_
  refine CG.draw (.look 0 1 (.look 1 1 (.look 2 1 (.look 3 1 (.look 4 1 (.look 5 1 (.look 6 1 (.look 7 1 (.look 8 1 (.look 9 1 (.look 10 1 (.look 11 1 (.look 12 1 (.look 13 1 (.look 14 1 (.look 15 1 (.look 16 1 (.look 17 1 (.look 18 1 (.look 19 1 (.look 20 1 (.done)))))))))))))))))))))) [] [] ([]) ([]) mixed (by kernel_rfl) (Imp.none _) (Imp.none _) ?_
  refine DG.look rfl rfl (Yield.move rfl) rfl ?_
  refine DG.look rfl rfl (Yield.nilCheck rfl) rfl ?_
  refine DG.look rfl rfl (Yield.fieldAddr fa147_0 rfl) rfl ?_
  refine DG.look rfl rfl (Yield.load ti145 rfl (by first | exact Cel.of_blk (by repeat (first | exact Ext.here | apply Ext.there)) rfl | exact (hrow (by repeat (first | exact Ext.here | apply Ext.there))) _ _ rfl)) rfl ?_
  refine DG.look rfl rfl (Yield.move rfl) rfl ?_
  refine DG.look rfl rfl (Yield.index_slice Try.underlying145 ti159 rfl rfl (by omega) (by omega)) rfl ?_
  refine DG.look rfl rfl (Yield.fieldAddr fa159_1 rfl) rfl ?_
  refine DG.look rfl rfl (Yield.fieldAddr fa157_2 rfl) rfl ?_
  refine DG.look rfl rfl (Yield.load (v := .int .i64 s.frame) ti3 rfl (((SlR.of_osl (by repeat (first | exact Ext.here | apply Ext.there))).elem Slot.len hs) 3 _ rfl)) rfl ?_
  refine DG.look rfl rfl (Yield.move rfl) rfl ?_
  refine DG.look rfl rfl (Yield.nilCheck rfl) rfl ?_
  refine DG.look rfl rfl (Yield.fieldAddr fa147_0 rfl) rfl ?_
  refine DG.look rfl rfl (Yield.load ti145 rfl (by first | exact Cel.of_blk (by repeat (first | exact Ext.here | apply Ext.there)) rfl | exact (hrow (by repeat (first | exact Ext.here | apply Ext.there))) _ _ rfl)) rfl ?_
  refine DG.look rfl rfl (Yield.move rfl) rfl ?_
  refine DG.look rfl rfl (Yield.index_slice Try.underlying145 ti159 rfl rfl (by omega) (by omega)) rfl ?_
  refine DG.look rfl rfl (Yield.fieldAddr fa159_1 rfl) rfl ?_
  refine DG.look rfl rfl (Yield.fieldAddr fa157_3 rfl) rfl ?_
  refine DG.look rfl rfl (Yield.load (v := .int .i64 s.perm) ti3 rfl (((SlR.of_osl (by repeat (first | exact Ext.here | apply Ext.there))).elem Slot.len hs) 4 _ rfl)) rfl ?_
  refine DG.look rfl rfl (Yield.assign rfl) rfl ?_
  refine DG.look rfl rfl (Yield.assign rfl) rfl ?_
  refine DG.look rfl rfl (Yield.assign rfl) rfl ?_
  refine DG.done ?_
  refine QG.then ?_
  refine CG.ret ?_
  exact QG.ret3 rfl rfl rfl rfl () trivial rfl (Imp.trans (by repeat (first | exact Imp.refl _ | exact Imp.none _ | apply Imp.pull (by repeat (first | exact Ext.here | apply Ext.there)) | apply Imp.trans Imp.drop)) (t_close ((b, o), c)))
theorem look_miss {t hand hits miss : Nat} {l : List Slot} (tag page : Int) (hl : l.length ≤ 64) (hb : miss < 2 ^ 60) (hf : l.findIdx? (hitB tag page) = none) :
    Ctr Try.prog W0 91 [.pointer (some ⟨t, 0, none⟩), .int .i64 tag, .int .i64 page] (T t l hand hits miss :: Fr) (fun _ : Unit => True) (fun _ => .tuple #[.int .i64 0, .int .i64 0, .bool false]) (fun _ => T t l hand hits (miss + 1) :: Fr) := by
  refine Ctr.of_body Try.func91 rfl Try.ntmps91 rfl ?_
  refine CG.seq ?_
  refine CG.region ?_
  refine OG.yield (Yield.assign rfl) rfl ?_
  refine OG.yield (Yield.assign rfl) rfl ?_
  refine OG.yield (Yield.assign rfl) rfl ?_
  refine OG.nil ?_
  refine QG.then ?_
  refine CG.seq ?_
  refine CG.region ?_
  refine OG.yield (Yield.move rfl) rfl ?_
  refine OG.yield (Yield.move rfl) rfl ?_
  refine OG.yield (Yield.move rfl) rfl ?_
  refine OG.callo call82 rfl ((by repeat (first | exact Imp.refl _ | exact Imp.none _ | apply Imp.pull (by repeat (first | exact Ext.here | apply Ext.there)) | apply Imp.trans Imp.drop))) (find_spec W0 Fr tag page hl) rfl ?_
  rintro ⟨⟩ -
  rw [hf, show oi none = -1 from rfl]
  refine OG.yield (Yield.assign rfl) rfl ?_
  refine OG.nil ?_
  refine QG.then ?_
  refine CG.seq ?_
  refine CG.seq ?_
  refine CG.region ?_
  refine OG.yield (Yield.move rfl) rfl ?_
  refine OG.yield (by first | exact Yield.as (Yield.lss rfl rfl) (bT (by omega)) | exact Yield.as (Yield.lss rfl rfl) (bF (by omega)) | exact Yield.lss rfl rfl) rfl ?_
  refine OG.nil ?_
  refine QG.then ?_
  refine CG.cond_t rfl ?_
  refine CG.seq ?_
  refine CG.ex (A := T t l hand hits miss) (by repeat (first | exact Ext.here | apply Ext.there)) t_open ?_
  rintro ⟨⟨b, o⟩, c⟩ -
  refine CG.imp star_open ?_
  dsimp only [TO, List.cons_append, List.nil_append]
  refine CG.region ?_
  refine OG.yield (Yield.move rfl) rfl ?_
  refine OG.yield (Yield.nilCheck rfl) rfl ?_
  refine OG.yield (Yield.fieldAddr fa147_3 rfl) rfl ?_
  refine OG.yield (Yield.load ti3 rfl (by first | exact Cel.of_blk (by repeat (first | exact Ext.here | apply Ext.there)) rfl | exact (hrow (by repeat (first | exact Ext.here | apply Ext.there))) _ _ rfl)) rfl ?_
  refine OG.yield (Yield.add rfl rfl (w64 (by omega) (by omega))) rfl ?_
  refine OG.yield (Yield.nilCheck rfl) rfl ?_
  refine OG.yield (Yield.fieldAddr fa147_3 rfl) rfl ?_
  refine OG.eff (Eff.store1 ti3 rfl rfl (by repeat (first | exact Foc.here | apply Foc.there)) rfl (by first | (simp; done) | decide)) rfl ?_
  rintro ⟨⟩ -
  refine OG.nil ?_
  refine QG.then ?_
  refine CG.seq ?_
  refine CG.region ?_
  refine OG.yield (Yield.assign rfl) rfl ?_
  refine OG.yield (Yield.assign rfl) rfl ?_
  refine OG.yield (Yield.assign rfl) rfl ?_
  refine OG.nil ?_
  refine QG.then ?_
  refine CG.ret ?_
  refine QG.pass_ret ?_
  exact QG.ret3 rfl rfl rfl rfl () trivial rfl (Imp.trans (by repeat (first | exact Imp.refl _ | exact Imp.none _ | apply Imp.pull (by repeat (first | exact Ext.here | apply Ext.there)) | apply Imp.trans Imp.drop)) (t_close ((b, o), c)))
theorem set_same {α : Type} {l : List α} {i : Nat} {x : α} (h : l[i]? = some x) : l.set i x = l := by
  obtain ⟨hi, rfl⟩ := List.getElem?_eq_some_iff.1 h
  exact List.set_getElem_self hi
/-- What FlushTag makes of the slots. -/
def flushL (l : List Slot) (tag : Int) : List Slot := l.map fun s => if s.tag = tag then Slot.zero else s
theorem flush_step {l : List Slot} {tag : Int} {i : Nat} {s : Slot} (h : l[i]? = some s) : flushL (l.take (i + 1)) tag ++ l.drop (i + 1) = (flushL (l.take i) tag ++ l.drop i).set i (if s.tag = tag then Slot.zero else s) := by
  obtain ⟨hi, rfl⟩ := List.getElem?_eq_some_iff.1 h
  have hl : (flushL (l.take i) tag).length = i := by simp [flushL]; omega
  rw [List.set_append_right _ _ (by omega), hl, Nat.sub_self, List.drop_eq_getElem_cons hi, List.set_cons_zero, List.take_succ_eq_append_getElem hi]
  unfold flushL
  rw [List.map_append, List.append_assoc]; rfl
theorem flush_len (l : List Slot) (tag : Int) (i : Nat) (hi : i ≤ l.length) : (flushL (l.take i) tag ++ l.drop i).length = l.length := by simp [flushL]; omega
theorem flush_get {l : List Slot} {tag : Int} {i : Nat} {s : Slot} (h : l[i]? = some s) : (flushL (l.take i) tag ++ l.drop i)[i]? = some s := by
  obtain ⟨hi, rfl⟩ := List.getElem?_eq_some_iff.1 h
  have hl : (flushL (l.take i) tag).length = i := by simp [flushL]; omega
  rw [List.getElem?_append_right (by omega), hl, Nat.sub_self]; simp [hi]
def Slot.lcells (s : Slot) : List Value := [.int .i64 s.tag, .int .i64 s.page, .int .i64 s.frame, .int .i64 s.perm]
theorem Slot.llen (s : Slot) : s.lcells.length = 4 := rfl
theorem Slot.lones (s : Slot) : ∀ v ∈ s.lcells, one v = true := by simp [Slot.lcells, one]
/-- The lines that are held. -/
def heldL (l : List Slot) : List Slot := l.filter (·.used)
theorem held_step {l : List Slot} {i : Nat} {s : Slot} (h : l[i]? = some s) : heldL (l.take (i + 1)) = if s.used then heldL (l.take i) ++ [s] else heldL (l.take i) := by
  obtain ⟨hi, rfl⟩ := List.getElem?_eq_some_iff.1 h
  rw [List.take_succ_eq_append_getElem hi]
  unfold heldL
  rw [List.filter_append]
  cases hu : l[i].used <;> simp [hu]
abbrev oln (a : Option Addr) (c : Nat) (xs : List Slot) : HProp := osl 157 4 a c xs.length ((xs.map Slot.lcells).flatten)
theorem oln_snoc (a : Option Addr) (c : Nat) (xs : List Slot) (s : Slot) : oln a c (xs ++ [s]) = osl 157 4 a c (xs.length + 1) ((xs.map Slot.lcells).flatten ++ s.lcells) := by unfold oln; simp
def flushPL (l : List Slot) (tag page : Int) : List Slot := match l.findIdx? (hitB tag page) with | some i => l.set i Slot.zero | none => l
theorem flushPage_spec {t hand hits miss : Nat} {l : List Slot} (tag page : Int) (hl : l.length ≤ 64) : Ctr Try.prog W0 66 [.pointer (some ⟨t, 0, none⟩), .int .i64 tag, .int .i64 page] (T t l hand hits miss :: Fr) (fun _ : Unit => True) (fun _ => .tuple #[]) (fun _ => T t (flushPL l tag page) hand hits miss :: Fr) := by
  refine Ctr.of_body Try.func66 rfl Try.ntmps66 rfl ?_
  refine CG.seq ?_
  refine CG.region ?_
  refine OG.yield (Yield.move rfl) rfl ?_
  refine OG.yield (Yield.move rfl) rfl ?_
  refine OG.yield (Yield.move rfl) rfl ?_
  refine OG.callo call82 rfl ((by repeat (first | exact Imp.refl _ | exact Imp.none _ | apply Imp.pull (by repeat (first | exact Ext.here | apply Ext.there)) | apply Imp.trans Imp.drop))) (find_spec W0 Fr tag page hl) rfl ?_
  rintro ⟨⟩ -
  refine OG.yield (Yield.assign rfl) rfl ?_
  refine OG.nil ?_
  refine QG.then ?_
  refine CG.seq ?_
  rcases put_cases l tag page with hh | hh
  · skip
    obtain ⟨i, hf, hi⟩ := hh
    rw [hf, show oi (some i) = (i : Int) from rfl]
    refine CG.region ?_
    refine OG.yield (Yield.move rfl) rfl ?_
    refine OG.yield (by first | exact Yield.as (Yield.geq rfl rfl) (bT (by omega)) | exact Yield.as (Yield.geq rfl rfl) (bF (by omega)) | exact Yield.geq rfl rfl) rfl ?_
    refine OG.nil ?_
    refine QG.then ?_
    refine CG.cond_t rfl ?_
    refine CG.ex (A := T t l hand hits miss) (by repeat (first | exact Ext.here | apply Ext.there)) t_open ?_
    rintro ⟨⟨b, o⟩, c⟩ -
    refine CG.imp star_open ?_
    dsimp only [TO, List.cons_append, List.nil_append]
    refine CG.region ?_
    refine OG.yield (Yield.move rfl) rfl ?_
    refine OG.yield (Yield.nilCheck rfl) rfl ?_
    refine OG.yield (Yield.fieldAddr fa147_0 rfl) rfl ?_
    refine OG.yield (Yield.load ti145 rfl (by first | exact Cel.of_blk (by repeat (first | exact Ext.here | apply Ext.there)) rfl | exact (hrow (by repeat (first | exact Ext.here | apply Ext.there))) _ _ rfl)) rfl ?_
    refine OG.yield (Yield.move rfl) rfl ?_
    refine OG.yield (Yield.build0 bu159 ti159) rfl ?_
    refine OG.yield (Yield.index_slice Try.underlying145 ti159 rfl rfl (by omega) (by omega)) rfl ?_
    refine OG.eff (Eff.storeRec (i := i) (r := Slot.zero) (rs := l) Slot.len Slot.ones ti159 rfl rfl (by repeat (first | exact Foc.here | apply Foc.there)) rfl hi) rfl ?_
    rintro ⟨⟩ -
    refine OG.nil ?_
    rw [show flushPL l tag page = l.set i Slot.zero by simp [flushPL, hf]]
    refine QG.end0 rfl () trivial rfl (Imp.trans ?_ (t_close ((b, o), c)))
    dsimp only [TO]
    rw [List.length_set]
    exact (by repeat (first | exact Imp.refl _ | exact Imp.none _ | apply Imp.pull (by repeat (first | exact Ext.here | apply Ext.there)) | apply Imp.trans Imp.drop))
  · skip
    have hf : l.findIdx? (hitB tag page) = none := by rcases hh with ⟨h, _⟩ | ⟨h, _⟩ <;> exact h
    rw [hf, show oi none = -1 from rfl]
    refine CG.region ?_
    refine OG.yield (Yield.move rfl) rfl ?_
    refine OG.yield (by first | exact Yield.as (Yield.geq rfl rfl) (bT (by omega)) | exact Yield.as (Yield.geq rfl rfl) (bF (by omega)) | exact Yield.geq rfl rfl) rfl ?_
    refine OG.nil ?_
    refine QG.then ?_
    refine CG.cond_f rfl ?_
    refine CG.skip ?_
    rw [show flushPL l tag page = l by simp [flushPL, hf]]
    exact QG.end0 rfl () trivial rfl (by repeat (first | exact Imp.refl _ | exact Imp.none _ | apply Imp.pull (by repeat (first | exact Ext.here | apply Ext.there)) | apply Imp.trans Imp.drop))
theorem zeros_len (m : Nat) : (((List.replicate m Slot.zero).map Slot.cells).flatten).length = m * 5 := by
  have := flat_len (f := Slot.cells) Slot.len (List.replicate m Slot.zero)
  rw [List.length_replicate] at this; exact this
theorem zeros_ones (m : Nat) : ∀ v ∈ ((List.replicate m Slot.zero).map Slot.cells).flatten, one v = true := by
  intro v hv
  simp only [List.mem_flatten, List.mem_map] at hv
  obtain ⟨l, ⟨s, _, rfl⟩, hv⟩ := hv
  exact Slot.ones s v hv
end
end Go.Proofs.Ytmlfcfbblfcpdaa.Tl
