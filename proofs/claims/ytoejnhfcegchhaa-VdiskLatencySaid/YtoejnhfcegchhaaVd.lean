/- vdisk.Disk as a list of asks: what each function does. -/
import Derived.Test.YtoejnhfcegchhaaMsg
namespace Go.Proofs.Ytoejnhfcegchhaa.Vd
open Go Go.Sl Go.RowKit Go.Proofs Go.Proofs.Ytoejnhfcegchhaa.T Go.Proofs.Ytoejnhfcegchhaa.Ms
set_option linter.unusedVariables false
set_option linter.unusedSimpArgs false
set_option maxRecDepth 100000
/-- A request that waits. -/
structure Ak where
  tag : Int
  write : Bool
  sector : Int
  addr : Int
  data : B
  due : Int
  st : Int
/-- .. where it lies. -/
structure CA where
  tag : Int
  write : Bool
  sector : Int
  addr : Int
  m : Msg
  due : Int
  st : Int
def CA.cells (x : CA) : List Value := [.int .u32 x.tag, .bool x.write, .int .i64 x.sector, .int .u32 x.addr, x.m.cell, .int .i64 x.due, .int .i64 x.st]
def CA.abs (x : CA) : Ak := ⟨x.tag, x.write, x.sector, x.addr, x.m.b, x.due, x.st⟩
theorem CA.len (x : CA) : x.cells.length = 7 := rfl
theorem CA.ones (x : CA) : ∀ v ∈ x.cells, one v = true := by simp [CA.cells, one, Msg.cell]
structure Ds where
  part : Int
  first : Int
  count : Int
  latency : Int
  last : Int
  asks : List Ak
  told : List Int
structure Ds.OK (s : Ds) : Prop where
  part : 0 ≤ s.part ∧ s.part ≤ 7
  first : 0 ≤ s.first ∧ s.first ≤ 1024
  count : 0 ≤ s.count ∧ s.count ≤ 1024
  lat : 1 ≤ s.latency ∧ s.latency ≤ 8
  asks : s.asks.length ≤ 4
  told : s.told.length ≤ 4
  data : ∀ a ∈ s.asks, a.data.length ≤ 64
  sec : ∀ a ∈ s.asks, 0 ≤ a.sector ∧ a.sector < s.count
structure DC where
  cas : List CA
  pl : List Msg
  a : Option Addr
  c : Nat
  ta : Option Addr
  tc : Nat
abbrev DH (d : Nat) (s : Ds) (last : Int) (a : Option Addr) (m c : Nat) (ta : Option Addr) (tm tc : Nat) : HProp :=
  blk d [.int .i64 s.part, .int .i64 s.first, .int .i64 s.count, .int .i64 s.latency, .int .u32 last, .slice a m c, .slice ta tm tc] 84
abbrev oasks (a : Option Addr) (c : Nat) (l : List CA) : HProp := osl 86 7 a c l.length ((l.map CA.cells).flatten)
abbrev DO (d : Nat) (s : Ds) (x : DC) : List HProp :=
  [DH d s s.last x.a x.cas.length x.c x.ta s.told.length x.tc, oasks x.a x.c x.cas, onum 35 .u32 x.ta x.tc s.told, pool x.pl]
structure DC.OK (x : DC) (s : Ds) : Prop where
  abs : x.cas.map CA.abs = s.asks
  mem : ∀ a ∈ x.cas, a.m ∈ x.pl
  ok : s.OK
/-- At block d lies a slice of the disk. -/
def D (d : Nat) (s : Ds) : HProp := fun h => ∃ x : DC, x.OK s ∧ Star (DO d s x) h
theorem d_open {d : Nat} {s : Ds} (y : Heaplet) (h : D d s y) : ∃ x : DC, x.OK s ∧ Star (DO d s x) y := h
theorem d_close {d : Nat} {s : Ds} {G : List HProp} (x : DC) (hx : x.OK s) : Imp (DO d s x ++ G) (D d s :: G) := Imp.trans star_close (Imp.head fun y hy => ⟨x, hx, hy⟩)
theorem d_facts {W0 : World} {G R : List HProp} {d : Nat} {s : Ds} (x : Ext G (D d s) R) (w : World) (hw : Sat W0 G w) : s.OK := by
  obtain ⟨_, _, y, hy, _⟩ := Sat.ext x hw
  exact hy.ok
theorem DC.OK.len {x : DC} {s : Ds} (h : x.OK s) : x.cas.length = s.asks.length := by rw [← h.abs]; simp
theorem DC.OK.get {x : DC} {s : Ds} (h : x.OK s) {n : Nat} {a : Ak} (ha : s.asks[n]? = some a) : ∃ c, x.cas[n]? = some c ∧ c.abs = a := by
  rw [← h.abs, List.getElem?_map] at ha
  cases hc : x.cas[n]? with
  | none => rw [hc] at ha; cases ha
  | some c => rw [hc] at ha; exact ⟨c, rfl, by simpa using ha⟩
theorem shape_as {W0 : World} {G R : List HProp} {a : Option Addr} {c n : Nat} {l : List CA} (h : n < l.length) (e : Ext G (oasks a c l) R) (w : World) (hw : Sat W0 G w) : ∃ b o, a = some ⟨b, o, none⟩ :=
  (SlR.of_osl e).elem_shape (i := n) CA.len (by decide) h w hw
section
variable (W0 : World) (Fr : List HProp)
theorem within_spec (n lo hi : Int) : Ctr Try.prog W0 37 [.int .i64 n, .int .i64 lo, .int .i64 hi] Fr (fun _ : Unit => True) (fun _ => .bool (decide (lo ≤ n ∧ n ≤ hi))) (fun _ => Fr) := by
  refine Ctr.of_body Try.func37 rfl Try.ntmps37 rfl ?_
  refine CG.seq ?_
  refine CG.region ?_
  refine OG.yield (Yield.assign rfl) rfl ?_
  refine OG.nil ?_
  refine QG.then ?_
  refine CG.seq ?_
  rcases (show n < lo ∨ lo ≤ n by omega) with hh | hh
  · skip
    refine CG.region ?_
    refine OG.yield (Yield.move rfl) rfl ?_
    refine OG.yield (Yield.move rfl) rfl ?_
    refine OG.yield (by first | exact Yield.as (Yield.geq rfl rfl) (bT (by omega)) | exact Yield.as (Yield.geq rfl rfl) (bF (by omega)) | exact Yield.geq rfl rfl) rfl ?_
    refine OG.yield (Yield.move rfl) rfl ?_
    refine OG.guard_no rfl rfl rfl rfl rfl (by decide) (by decide) ?_
    refine OG.guard_no rfl rfl rfl rfl rfl (by decide) (by decide) ?_
    refine OG.guard_no rfl rfl rfl rfl rfl (by decide) (by decide) ?_
    refine OG.yield (by first | exact Yield.pick_t rfl rfl | exact Yield.pick_f rfl rfl | exact Yield.pick rfl (fun _ => rfl) (fun _ => rfl)) rfl ?_
    refine OG.yield (Yield.assign rfl) rfl ?_
    refine OG.nil ?_
    refine QG.then ?_
    refine CG.ret ?_
    exact QG.ret1 rfl rfl () trivial (by rw [decide_eq_false (by omega)]) (Imp.refl _)
  · skip
    refine CG.region ?_
    refine OG.yield (Yield.move rfl) rfl ?_
    refine OG.yield (Yield.move rfl) rfl ?_
    refine OG.yield (by first | exact Yield.as (Yield.geq rfl rfl) (bT (by omega)) | exact Yield.as (Yield.geq rfl rfl) (bF (by omega)) | exact Yield.geq rfl rfl) rfl ?_
    refine OG.yield (Yield.move rfl) rfl ?_
    refine OG.guard_yes rfl rfl rfl (by decide) ?_
    refine OG.yield (Yield.move rfl) rfl ?_
    refine OG.guard_yes rfl rfl rfl (by decide) ?_
    refine OG.yield (Yield.move rfl) rfl ?_
    refine OG.guard_yes rfl rfl rfl (by decide) ?_
    refine OG.yield (Yield.leq rfl rfl) rfl ?_
    refine OG.yield (by first | exact Yield.pick_t rfl rfl | exact Yield.pick_f rfl rfl | exact Yield.pick rfl (fun _ => rfl) (fun _ => rfl)) rfl ?_
    refine OG.yield (Yield.assign rfl) rfl ?_
    refine OG.nil ?_
    refine QG.then ?_
    refine CG.ret ?_
    exact QG.ret1 rfl rfl () trivial (by rw [show decide (lo ≤ n ∧ n ≤ hi) = decide (n ≤ hi) by simp [hh]]) (Imp.refl _)
/-- Is a new slice refused? -/
def newBad (part first count latency : Int) : Bool := !(decide (0 ≤ part ∧ part ≤ 7)) || !(decide (0 ≤ first ∧ first ≤ 1024)) || !(decide (0 ≤ count ∧ count ≤ 1024)) || decide (1024 < first + count) || !(decide (1 ≤ latency ∧ latency ≤ 8))
theorem cloneB_spec {a : Option Addr} {c : Nat} {bs : B} (hr : RdB W0 Fr a c bs) (hb : bs.length ≤ 140737488351232) : Ctr Try.prog W0 38 [.slice a bs.length c] Fr (fun m : Msg => m.b = bs) (fun m => m.cell) (fun m => m.own :: Fr) := by
  refine Ctr.pure (ψ := a = none → bs = []) (fun w hw h => by
    subst h
    obtain ⟨_, h2 | ⟨_, _, h2, _⟩⟩ := (hr w hw).1
    · have := congrArg List.length h2; rw [bytesV_length] at this; exact List.length_eq_zero_iff.1 this
    · cases h2) fun hn => ?_
  refine Ctr.of_body Try.func38 rfl Try.ntmps38 rfl ?_
  refine CG.seq ?_
  refine CG.region ?_
  refine OG.yield (Yield.assign rfl) rfl ?_
  refine OG.nil ?_
  refine QG.then ?_
  refine CG.seq ?_
  refine CG.seq ?_
  rcases a with _ | ad
  · skip
    refine CG.region ?_
    refine OG.yield (Yield.move rfl) rfl ?_
    refine OG.yield (Yield.sl_nil Try.underlying36 rfl rfl) rfl ?_
    refine OG.nil ?_
    refine QG.then ?_
    refine CG.cond_t rfl ?_
    refine CG.seq ?_
    refine CG.region ?_
    refine OG.yield (Yield.assign rfl) rfl ?_
    refine OG.nil ?_
    refine QG.then ?_
    refine CG.ret ?_
    refine QG.pass_ret ?_
    have hb0 := hn rfl
    subst hb0
    exact QG.ret1 rfl rfl Msg.nil rfl rfl own_nil
  · skip
    refine CG.region ?_
    refine OG.yield (Yield.move rfl) rfl ?_
    refine OG.yield (Yield.sl_nil Try.underlying36 rfl rfl) rfl ?_
    refine OG.nil ?_
    refine QG.then ?_
    refine CG.cond_f rfl ?_
    refine CG.skip ?_
    refine QG.then ?_
    refine CG.seq ?_
    refine CG.region ?_
    refine OG.effd (Eff.lit0 Try.underlying36 ti5 rfl) rfl ?_
    rintro b5 -
    refine OG.yield (Yield.move rfl) rfl ?_
    refine OG.effd (Eff.appendB (bs := []) (ys := bs) rfl rfl rfl Try.underlying36 Try.underlying36 ti5 (by decide) (by repeat (first | exact Foc.here | apply Foc.there)) (hr.imp (by repeat (first | exact Imp.refl _ | exact Imp.none _ | apply Imp.pull (by repeat (first | exact Ext.here | apply Ext.there)) | apply Imp.trans Imp.drop))).slR (by simp only [List.length_nil]; omega)) rfl ?_
    rintro ⟨am, cm⟩ -
    rw [List.nil_append]
    refine OG.yield (Yield.assign rfl) rfl ?_
    refine OG.nil ?_
    refine QG.then ?_
    refine CG.ret ?_
    exact QG.ret1 rfl rfl ⟨am, cm, bs⟩ rfl rfl (by repeat (first | exact Imp.refl _ | exact Imp.none _ | apply Imp.pull (by repeat (first | exact Ext.here | apply Ext.there)) | apply Imp.trans Imp.drop))
theorem cloneU_spec {a : Option Addr} {c : Nat} {l : List Int} (hr : SlR W0 Fr 1 a l.length (intsV .u32 l)) (hb : l.length ≤ 2 ^ 20) : Ctr Try.prog W0 53 [.slice a l.length c] Fr (fun _ : Option Addr × Nat => True) (fun q => .slice q.1 l.length q.2) (fun q => onum 35 .u32 q.1 q.2 l :: Fr) := by
  refine Ctr.pure (ψ := a = none → l = []) (fun w hw h => by
    subst h
    obtain ⟨_, h2 | ⟨_, _, h2, _⟩⟩ := hr w hw
    · have := congrArg List.length h2; rw [intsV_len] at this; exact List.length_eq_zero_iff.1 this
    · cases h2) fun hn => ?_
  refine Ctr.of_body Try.func53 rfl Try.ntmps53 rfl ?_
  refine CG.seq ?_
  refine CG.region ?_
  refine OG.yield (Yield.assign rfl) rfl ?_
  refine OG.nil ?_
  refine QG.then ?_
  refine CG.seq ?_
  refine CG.seq ?_
  rcases a with _ | ad
  · skip
    refine CG.region ?_
    refine OG.yield (Yield.move rfl) rfl ?_
    refine OG.yield (Yield.sl_nil Try.underlying43 rfl rfl) rfl ?_
    refine OG.nil ?_
    refine QG.then ?_
    refine CG.cond_t rfl ?_
    refine CG.seq ?_
    refine CG.region ?_
    refine OG.yield (Yield.assign rfl) rfl ?_
    refine OG.nil ?_
    refine QG.then ?_
    refine CG.ret ?_
    refine QG.pass_ret ?_
    have hb0 := hn rfl
    subst hb0
    exact QG.ret1 rfl rfl (none, 0) trivial rfl osl_nil
  · skip
    refine CG.region ?_
    refine OG.yield (Yield.move rfl) rfl ?_
    refine OG.yield (Yield.sl_nil Try.underlying43 rfl rfl) rfl ?_
    refine OG.nil ?_
    refine QG.then ?_
    refine CG.cond_f rfl ?_
    refine CG.skip ?_
    refine QG.then ?_
    refine CG.seq ?_
    refine CG.region ?_
    refine OG.effd (Eff.lit0 Try.underlying43 ti35 rfl) rfl ?_
    rintro b5 -
    refine OG.yield (Yield.move rfl) rfl ?_
    refine OG.effd (Eff.append (a := some ⟨b5, 0, none⟩) (c := 0) (m := 0) (xs := []) (k := l.length) (ys := intsV .u32 l) rfl rfl rfl Try.underlying43 Try.underlying43 ti35 rfl (by decide) (by repeat (first | exact Foc.here | apply Foc.there)) (hr.imp (by repeat (first | exact Imp.refl _ | exact Imp.none _ | apply Imp.pull (by repeat (first | exact Ext.here | apply Ext.there)) | apply Imp.trans Imp.drop))) (intsV_ones _ _) (by omega)) rfl ?_
    rintro ⟨am, cm⟩ -
    rw [Nat.zero_add, List.nil_append]
    refine OG.yield (Yield.assign rfl) rfl ?_
    refine OG.nil ?_
    refine QG.then ?_
    refine CG.ret ?_
    exact QG.ret1 rfl rfl (am, cm) trivial rfl (by repeat (first | exact Imp.refl _ | exact Imp.none _ | apply Imp.pull (by repeat (first | exact Ext.here | apply Ext.there)) | apply Imp.trans Imp.drop))
theorem cloneA_spec {a : Option Addr} {c : Nat} {l : List CA} (hr : SlR W0 Fr 7 a l.length ((l.map CA.cells).flatten)) (hb : l.length ≤ 2 ^ 20) : Ctr Try.prog W0 52 [.slice a l.length c] Fr (fun _ : Option Addr × Nat => True) (fun q => .slice q.1 l.length q.2) (fun q => oasks q.1 q.2 l :: Fr) := by
  refine Ctr.pure (ψ := a = none → l = []) (fun w hw h => by
    subst h
    obtain ⟨_, h2 | ⟨_, _, h2, _⟩⟩ := hr w hw
    · have := congrArg List.length h2; rw [flat_len CA.len] at this; simp only [List.length_nil] at this; exact List.length_eq_zero_iff.1 (by omega)
    · cases h2) fun hn => ?_
  refine Ctr.of_body Try.func52 rfl Try.ntmps52 rfl ?_
  refine CG.seq ?_
  refine CG.region ?_
  refine OG.yield (Yield.assign rfl) rfl ?_
  refine OG.nil ?_
  refine QG.then ?_
  refine CG.seq ?_
  refine CG.seq ?_
  rcases a with _ | ad
  · skip
    refine CG.region ?_
    refine OG.yield (Yield.move rfl) rfl ?_
    refine OG.yield (Yield.sl_nil Try.underlying82 rfl rfl) rfl ?_
    refine OG.nil ?_
    refine QG.then ?_
    refine CG.cond_t rfl ?_
    refine CG.seq ?_
    refine CG.region ?_
    refine OG.yield (Yield.assign rfl) rfl ?_
    refine OG.nil ?_
    refine QG.then ?_
    refine CG.ret ?_
    refine QG.pass_ret ?_
    have hb0 := hn rfl
    subst hb0
    exact QG.ret1 rfl rfl (none, 0) trivial rfl osl_nil
  · skip
    refine CG.region ?_
    refine OG.yield (Yield.move rfl) rfl ?_
    refine OG.yield (Yield.sl_nil Try.underlying82 rfl rfl) rfl ?_
    refine OG.nil ?_
    refine QG.then ?_
    refine CG.cond_f rfl ?_
    refine CG.skip ?_
    refine QG.then ?_
    refine CG.seq ?_
    refine CG.region ?_
    refine OG.effd (Eff.lit0 Try.underlying82 ti86 rfl) rfl ?_
    rintro b5 -
    refine OG.yield (Yield.move rfl) rfl ?_
    refine OG.effd (Eff.append (a := some ⟨b5, 0, none⟩) (c := 0) (m := 0) (xs := []) (k := l.length) (ys := (l.map CA.cells).flatten) rfl rfl rfl Try.underlying82 Try.underlying82 ti86 rfl (by decide) (by repeat (first | exact Foc.here | apply Foc.there)) (hr.imp (by repeat (first | exact Imp.refl _ | exact Imp.none _ | apply Imp.pull (by repeat (first | exact Ext.here | apply Ext.there)) | apply Imp.trans Imp.drop))) (flat_ones CA.ones l) (by omega)) rfl ?_
    rintro ⟨am, cm⟩ -
    rw [Nat.zero_add, List.nil_append]
    refine OG.yield (Yield.assign rfl) rfl ?_
    refine OG.nil ?_
    refine QG.then ?_
    refine CG.ret ?_
    exact QG.ret1 rfl rfl (am, cm) trivial rfl (by repeat (first | exact Imp.refl _ | exact Imp.none _ | apply Imp.pull (by repeat (first | exact Ext.here | apply Ext.there)) | apply Imp.trans Imp.drop))
theorem new_bad {part first count latency : Int} (h : newBad part first count latency = true) : Ctr Try.prog W0 10 [.int .i64 part, .int .i64 first, .int .i64 count, .int .i64 latency] Fr (fun _ : Unit => True) (fun _ => .tuple #[.pointer none, .int .i64 2]) (fun _ => Fr) := by
  unfold newBad at h
  simp only [Bool.or_eq_true, Bool.not_eq_true', decide_eq_false_iff_not, decide_eq_true_eq] at h
  refine Ctr.of_body Try.func10 rfl Try.ntmps10 rfl ?_
  refine CG.seq ?_
  refine CG.region ?_
  refine OG.yield (Yield.assign rfl) rfl ?_
  refine OG.yield (Yield.assign rfl) rfl ?_
  refine OG.nil ?_
  refine QG.then ?_
  refine CG.seq ?_
  refine CG.seq ?_
  rcases (show ¬(0 ≤ part ∧ part ≤ 7) ∨ ((0 ≤ part ∧ part ≤ 7) ∧ ¬(0 ≤ first ∧ first ≤ 1024)) ∨ ((0 ≤ part ∧ part ≤ 7) ∧ (0 ≤ first ∧ first ≤ 1024) ∧ ¬(0 ≤ count ∧ count ≤ 1024)) ∨ ((0 ≤ part ∧ part ≤ 7) ∧ (0 ≤ first ∧ first ≤ 1024) ∧ (0 ≤ count ∧ count ≤ 1024) ∧ 1024 < first + count) ∨ ((0 ≤ part ∧ part ≤ 7) ∧ (0 ≤ first ∧ first ≤ 1024) ∧ (0 ≤ count ∧ count ≤ 1024) ∧ first + count ≤ 1024 ∧ ¬(1 ≤ latency ∧ latency ≤ 8)) by omega) with hh | hh | hh | hh | hh
  · skip
    refine CG.region ?_
    refine OG.yield (Yield.move rfl) rfl ?_
    refine OG.callo call37 rfl (Imp.refl _) (within_spec W0 _ part 0 7) rfl ?_
    rintro ⟨⟩ -
    first | rw [decide_eq_true (p := 0 ≤ part ∧ part ≤ 7) (by omega)] | rw [decide_eq_false (p := 0 ≤ part ∧ part ≤ 7) (by omega)]
    refine OG.yield (Yield.not rfl) rfl ?_
    refine OG.yield (Yield.move rfl) rfl ?_
    refine OG.guard_no rfl rfl rfl rfl rfl (by decide) (by decide) ?_
    refine OG.guard_no rfl rfl rfl rfl rfl (by decide) (by decide) ?_
    refine OG.guard_no rfl rfl rfl rfl rfl (by decide) (by decide) ?_
    refine OG.yield (by first | exact Yield.pick_t rfl rfl | exact Yield.pick_f rfl rfl | exact Yield.pick rfl (fun _ => rfl) (fun _ => rfl)) rfl ?_
    refine OG.yield (Yield.move rfl) rfl ?_
    refine OG.guard_no rfl rfl rfl rfl rfl (by decide) (by decide) ?_
    refine OG.guard_no rfl rfl rfl rfl rfl (by decide) (by decide) ?_
    refine OG.guard_no rfl rfl rfl rfl rfl (by decide) (by decide) ?_
    refine OG.yield (by first | exact Yield.pick_t rfl rfl | exact Yield.pick_f rfl rfl | exact Yield.pick rfl (fun _ => rfl) (fun _ => rfl)) rfl ?_
    refine OG.yield (Yield.move rfl) rfl ?_
    refine OG.guard_no rfl rfl rfl rfl rfl (by decide) (by decide) ?_
    refine OG.guard_no rfl rfl rfl rfl rfl (by decide) (by decide) ?_
    refine OG.guard_no rfl rfl rfl rfl rfl (by decide) (by decide) ?_
    refine OG.guard_no rfl rfl rfl rfl rfl (by decide) (by decide) ?_
    refine OG.yield (by first | exact Yield.pick_t rfl rfl | exact Yield.pick_f rfl rfl | exact Yield.pick rfl (fun _ => rfl) (fun _ => rfl)) rfl ?_
    refine OG.yield (Yield.move rfl) rfl ?_
    refine OG.guard_no rfl rfl rfl rfl rfl (by decide) (by decide) ?_
    refine OG.guard_no rfl rfl rfl rfl rfl (by decide) (by decide) ?_
    refine OG.guard_no rfl rfl rfl rfl rfl (by decide) (by decide) ?_
    refine OG.yield (by first | exact Yield.pick_t rfl rfl | exact Yield.pick_f rfl rfl | exact Yield.pick rfl (fun _ => rfl) (fun _ => rfl)) rfl ?_
    refine OG.nil ?_
    refine QG.then ?_
    refine CG.cond_t rfl ?_
    refine CG.seq ?_
    refine CG.region ?_
    refine OG.yield (Yield.assign rfl) rfl ?_
    refine OG.yield (Yield.assign rfl) rfl ?_
    refine OG.nil ?_
    refine QG.then ?_
    refine CG.ret ?_
    refine QG.pass_ret ?_
    exact QG.ret2 rfl rfl rfl () trivial rfl (Imp.refl _)
  · skip
    refine CG.region ?_
    refine OG.yield (Yield.move rfl) rfl ?_
    refine OG.callo call37 rfl (Imp.refl _) (within_spec W0 _ part 0 7) rfl ?_
    rintro ⟨⟩ -
    first | rw [decide_eq_true (p := 0 ≤ part ∧ part ≤ 7) (by omega)] | rw [decide_eq_false (p := 0 ≤ part ∧ part ≤ 7) (by omega)]
    refine OG.yield (Yield.not rfl) rfl ?_
    refine OG.yield (Yield.move rfl) rfl ?_
    refine OG.guard_yes rfl rfl rfl (by decide) ?_
    refine OG.yield (Yield.move rfl) rfl ?_
    refine OG.guard_yes rfl rfl rfl (by decide) ?_
    refine OG.callo call37 rfl (Imp.refl _) (within_spec W0 _ first 0 1024) rfl ?_
    rintro ⟨⟩ -
    first | rw [decide_eq_true (p := 0 ≤ first ∧ first ≤ 1024) (by omega)] | rw [decide_eq_false (p := 0 ≤ first ∧ first ≤ 1024) (by omega)]
    refine OG.guard_yes rfl rfl rfl (by decide) ?_
    refine OG.yield (Yield.not rfl) rfl ?_
    refine OG.yield (by first | exact Yield.pick_t rfl rfl | exact Yield.pick_f rfl rfl | exact Yield.pick rfl (fun _ => rfl) (fun _ => rfl)) rfl ?_
    refine OG.yield (Yield.move rfl) rfl ?_
    refine OG.guard_no rfl rfl rfl rfl rfl (by decide) (by decide) ?_
    refine OG.guard_no rfl rfl rfl rfl rfl (by decide) (by decide) ?_
    refine OG.guard_no rfl rfl rfl rfl rfl (by decide) (by decide) ?_
    refine OG.yield (by first | exact Yield.pick_t rfl rfl | exact Yield.pick_f rfl rfl | exact Yield.pick rfl (fun _ => rfl) (fun _ => rfl)) rfl ?_
    refine OG.yield (Yield.move rfl) rfl ?_
    refine OG.guard_no rfl rfl rfl rfl rfl (by decide) (by decide) ?_
    refine OG.guard_no rfl rfl rfl rfl rfl (by decide) (by decide) ?_
    refine OG.guard_no rfl rfl rfl rfl rfl (by decide) (by decide) ?_
    refine OG.guard_no rfl rfl rfl rfl rfl (by decide) (by decide) ?_
    refine OG.yield (by first | exact Yield.pick_t rfl rfl | exact Yield.pick_f rfl rfl | exact Yield.pick rfl (fun _ => rfl) (fun _ => rfl)) rfl ?_
    refine OG.yield (Yield.move rfl) rfl ?_
    refine OG.guard_no rfl rfl rfl rfl rfl (by decide) (by decide) ?_
    refine OG.guard_no rfl rfl rfl rfl rfl (by decide) (by decide) ?_
    refine OG.guard_no rfl rfl rfl rfl rfl (by decide) (by decide) ?_
    refine OG.yield (by first | exact Yield.pick_t rfl rfl | exact Yield.pick_f rfl rfl | exact Yield.pick rfl (fun _ => rfl) (fun _ => rfl)) rfl ?_
    refine OG.nil ?_
    refine QG.then ?_
    refine CG.cond_t rfl ?_
    refine CG.seq ?_
    refine CG.region ?_
    refine OG.yield (Yield.assign rfl) rfl ?_
    refine OG.yield (Yield.assign rfl) rfl ?_
    refine OG.nil ?_
    refine QG.then ?_
    refine CG.ret ?_
    refine QG.pass_ret ?_
    exact QG.ret2 rfl rfl rfl () trivial rfl (Imp.refl _)
  · skip
    refine CG.region ?_
    refine OG.yield (Yield.move rfl) rfl ?_
    refine OG.callo call37 rfl (Imp.refl _) (within_spec W0 _ part 0 7) rfl ?_
    rintro ⟨⟩ -
    first | rw [decide_eq_true (p := 0 ≤ part ∧ part ≤ 7) (by omega)] | rw [decide_eq_false (p := 0 ≤ part ∧ part ≤ 7) (by omega)]
    refine OG.yield (Yield.not rfl) rfl ?_
    refine OG.yield (Yield.move rfl) rfl ?_
    refine OG.guard_yes rfl rfl rfl (by decide) ?_
    refine OG.yield (Yield.move rfl) rfl ?_
    refine OG.guard_yes rfl rfl rfl (by decide) ?_
    refine OG.callo call37 rfl (Imp.refl _) (within_spec W0 _ first 0 1024) rfl ?_
    rintro ⟨⟩ -
    first | rw [decide_eq_true (p := 0 ≤ first ∧ first ≤ 1024) (by omega)] | rw [decide_eq_false (p := 0 ≤ first ∧ first ≤ 1024) (by omega)]
    refine OG.guard_yes rfl rfl rfl (by decide) ?_
    refine OG.yield (Yield.not rfl) rfl ?_
    refine OG.yield (by first | exact Yield.pick_t rfl rfl | exact Yield.pick_f rfl rfl | exact Yield.pick rfl (fun _ => rfl) (fun _ => rfl)) rfl ?_
    refine OG.yield (Yield.move rfl) rfl ?_
    refine OG.guard_yes rfl rfl rfl (by decide) ?_
    refine OG.yield (Yield.move rfl) rfl ?_
    refine OG.guard_yes rfl rfl rfl (by decide) ?_
    refine OG.callo call37 rfl (Imp.refl _) (within_spec W0 _ count 0 1024) rfl ?_
    rintro ⟨⟩ -
    first | rw [decide_eq_true (p := 0 ≤ count ∧ count ≤ 1024) (by omega)] | rw [decide_eq_false (p := 0 ≤ count ∧ count ≤ 1024) (by omega)]
    refine OG.guard_yes rfl rfl rfl (by decide) ?_
    refine OG.yield (Yield.not rfl) rfl ?_
    refine OG.yield (by first | exact Yield.pick_t rfl rfl | exact Yield.pick_f rfl rfl | exact Yield.pick rfl (fun _ => rfl) (fun _ => rfl)) rfl ?_
    refine OG.yield (Yield.move rfl) rfl ?_
    refine OG.guard_no rfl rfl rfl rfl rfl (by decide) (by decide) ?_
    refine OG.guard_no rfl rfl rfl rfl rfl (by decide) (by decide) ?_
    refine OG.guard_no rfl rfl rfl rfl rfl (by decide) (by decide) ?_
    refine OG.guard_no rfl rfl rfl rfl rfl (by decide) (by decide) ?_
    refine OG.yield (by first | exact Yield.pick_t rfl rfl | exact Yield.pick_f rfl rfl | exact Yield.pick rfl (fun _ => rfl) (fun _ => rfl)) rfl ?_
    refine OG.yield (Yield.move rfl) rfl ?_
    refine OG.guard_no rfl rfl rfl rfl rfl (by decide) (by decide) ?_
    refine OG.guard_no rfl rfl rfl rfl rfl (by decide) (by decide) ?_
    refine OG.guard_no rfl rfl rfl rfl rfl (by decide) (by decide) ?_
    refine OG.yield (by first | exact Yield.pick_t rfl rfl | exact Yield.pick_f rfl rfl | exact Yield.pick rfl (fun _ => rfl) (fun _ => rfl)) rfl ?_
    refine OG.nil ?_
    refine QG.then ?_
    refine CG.cond_t rfl ?_
    refine CG.seq ?_
    refine CG.region ?_
    refine OG.yield (Yield.assign rfl) rfl ?_
    refine OG.yield (Yield.assign rfl) rfl ?_
    refine OG.nil ?_
    refine QG.then ?_
    refine CG.ret ?_
    refine QG.pass_ret ?_
    exact QG.ret2 rfl rfl rfl () trivial rfl (Imp.refl _)
  · skip
    refine CG.region ?_
    refine OG.yield (Yield.move rfl) rfl ?_
    refine OG.callo call37 rfl (Imp.refl _) (within_spec W0 _ part 0 7) rfl ?_
    rintro ⟨⟩ -
    first | rw [decide_eq_true (p := 0 ≤ part ∧ part ≤ 7) (by omega)] | rw [decide_eq_false (p := 0 ≤ part ∧ part ≤ 7) (by omega)]
    refine OG.yield (Yield.not rfl) rfl ?_
    refine OG.yield (Yield.move rfl) rfl ?_
    refine OG.guard_yes rfl rfl rfl (by decide) ?_
    refine OG.yield (Yield.move rfl) rfl ?_
    refine OG.guard_yes rfl rfl rfl (by decide) ?_
    refine OG.callo call37 rfl (Imp.refl _) (within_spec W0 _ first 0 1024) rfl ?_
    rintro ⟨⟩ -
    first | rw [decide_eq_true (p := 0 ≤ first ∧ first ≤ 1024) (by omega)] | rw [decide_eq_false (p := 0 ≤ first ∧ first ≤ 1024) (by omega)]
    refine OG.guard_yes rfl rfl rfl (by decide) ?_
    refine OG.yield (Yield.not rfl) rfl ?_
    refine OG.yield (by first | exact Yield.pick_t rfl rfl | exact Yield.pick_f rfl rfl | exact Yield.pick rfl (fun _ => rfl) (fun _ => rfl)) rfl ?_
    refine OG.yield (Yield.move rfl) rfl ?_
    refine OG.guard_yes rfl rfl rfl (by decide) ?_
    refine OG.yield (Yield.move rfl) rfl ?_
    refine OG.guard_yes rfl rfl rfl (by decide) ?_
    refine OG.callo call37 rfl (Imp.refl _) (within_spec W0 _ count 0 1024) rfl ?_
    rintro ⟨⟩ -
    first | rw [decide_eq_true (p := 0 ≤ count ∧ count ≤ 1024) (by omega)] | rw [decide_eq_false (p := 0 ≤ count ∧ count ≤ 1024) (by omega)]
    refine OG.guard_yes rfl rfl rfl (by decide) ?_
    refine OG.yield (Yield.not rfl) rfl ?_
    refine OG.yield (by first | exact Yield.pick_t rfl rfl | exact Yield.pick_f rfl rfl | exact Yield.pick rfl (fun _ => rfl) (fun _ => rfl)) rfl ?_
    refine OG.yield (Yield.move rfl) rfl ?_
    refine OG.guard_yes rfl rfl rfl (by decide) ?_
    refine OG.yield (Yield.move rfl) rfl ?_
    refine OG.guard_yes rfl rfl rfl (by decide) ?_
    refine OG.yield (Yield.move rfl) rfl ?_
    refine OG.guard_yes rfl rfl rfl (by decide) ?_
    refine OG.yield (Yield.add rfl rfl (w64 (by omega) (by omega))) rfl ?_
    refine OG.guard_yes rfl rfl rfl (by decide) ?_
    refine OG.yield (by first | exact Yield.as (Yield.gtr rfl rfl) (bT (by omega)) | exact Yield.as (Yield.gtr rfl rfl) (bF (by omega)) | exact Yield.gtr rfl rfl) rfl ?_
    refine OG.yield (by first | exact Yield.pick_t rfl rfl | exact Yield.pick_f rfl rfl | exact Yield.pick rfl (fun _ => rfl) (fun _ => rfl)) rfl ?_
    refine OG.yield (Yield.move rfl) rfl ?_
    refine OG.guard_no rfl rfl rfl rfl rfl (by decide) (by decide) ?_
    refine OG.guard_no rfl rfl rfl rfl rfl (by decide) (by decide) ?_
    refine OG.guard_no rfl rfl rfl rfl rfl (by decide) (by decide) ?_
    refine OG.yield (by first | exact Yield.pick_t rfl rfl | exact Yield.pick_f rfl rfl | exact Yield.pick rfl (fun _ => rfl) (fun _ => rfl)) rfl ?_
    refine OG.nil ?_
    refine QG.then ?_
    refine CG.cond_t rfl ?_
    refine CG.seq ?_
    refine CG.region ?_
    refine OG.yield (Yield.assign rfl) rfl ?_
    refine OG.yield (Yield.assign rfl) rfl ?_
    refine OG.nil ?_
    refine QG.then ?_
    refine CG.ret ?_
    refine QG.pass_ret ?_
    exact QG.ret2 rfl rfl rfl () trivial rfl (Imp.refl _)
  · skip
    refine CG.region ?_
    refine OG.yield (Yield.move rfl) rfl ?_
    refine OG.callo call37 rfl (Imp.refl _) (within_spec W0 _ part 0 7) rfl ?_
    rintro ⟨⟩ -
    first | rw [decide_eq_true (p := 0 ≤ part ∧ part ≤ 7) (by omega)] | rw [decide_eq_false (p := 0 ≤ part ∧ part ≤ 7) (by omega)]
    refine OG.yield (Yield.not rfl) rfl ?_
    refine OG.yield (Yield.move rfl) rfl ?_
    refine OG.guard_yes rfl rfl rfl (by decide) ?_
    refine OG.yield (Yield.move rfl) rfl ?_
    refine OG.guard_yes rfl rfl rfl (by decide) ?_
    refine OG.callo call37 rfl (Imp.refl _) (within_spec W0 _ first 0 1024) rfl ?_
    rintro ⟨⟩ -
    first | rw [decide_eq_true (p := 0 ≤ first ∧ first ≤ 1024) (by omega)] | rw [decide_eq_false (p := 0 ≤ first ∧ first ≤ 1024) (by omega)]
    refine OG.guard_yes rfl rfl rfl (by decide) ?_
    refine OG.yield (Yield.not rfl) rfl ?_
    refine OG.yield (by first | exact Yield.pick_t rfl rfl | exact Yield.pick_f rfl rfl | exact Yield.pick rfl (fun _ => rfl) (fun _ => rfl)) rfl ?_
    refine OG.yield (Yield.move rfl) rfl ?_
    refine OG.guard_yes rfl rfl rfl (by decide) ?_
    refine OG.yield (Yield.move rfl) rfl ?_
    refine OG.guard_yes rfl rfl rfl (by decide) ?_
    refine OG.callo call37 rfl (Imp.refl _) (within_spec W0 _ count 0 1024) rfl ?_
    rintro ⟨⟩ -
    first | rw [decide_eq_true (p := 0 ≤ count ∧ count ≤ 1024) (by omega)] | rw [decide_eq_false (p := 0 ≤ count ∧ count ≤ 1024) (by omega)]
    refine OG.guard_yes rfl rfl rfl (by decide) ?_
    refine OG.yield (Yield.not rfl) rfl ?_
    refine OG.yield (by first | exact Yield.pick_t rfl rfl | exact Yield.pick_f rfl rfl | exact Yield.pick rfl (fun _ => rfl) (fun _ => rfl)) rfl ?_
    refine OG.yield (Yield.move rfl) rfl ?_
    refine OG.guard_yes rfl rfl rfl (by decide) ?_
    refine OG.yield (Yield.move rfl) rfl ?_
    refine OG.guard_yes rfl rfl rfl (by decide) ?_
    refine OG.yield (Yield.move rfl) rfl ?_
    refine OG.guard_yes rfl rfl rfl (by decide) ?_
    refine OG.yield (Yield.add rfl rfl (w64 (by omega) (by omega))) rfl ?_
    refine OG.guard_yes rfl rfl rfl (by decide) ?_
    refine OG.yield (by first | exact Yield.as (Yield.gtr rfl rfl) (bT (by omega)) | exact Yield.as (Yield.gtr rfl rfl) (bF (by omega)) | exact Yield.gtr rfl rfl) rfl ?_
    refine OG.yield (by first | exact Yield.pick_t rfl rfl | exact Yield.pick_f rfl rfl | exact Yield.pick rfl (fun _ => rfl) (fun _ => rfl)) rfl ?_
    refine OG.yield (Yield.move rfl) rfl ?_
    refine OG.guard_yes rfl rfl rfl (by decide) ?_
    refine OG.yield (Yield.move rfl) rfl ?_
    refine OG.guard_yes rfl rfl rfl (by decide) ?_
    refine OG.callo call37 rfl (Imp.refl _) (within_spec W0 _ latency 1 8) rfl ?_
    rintro ⟨⟩ -
    rw [decide_eq_false (p := 1 ≤ latency ∧ latency ≤ 8) (by omega)]
    refine OG.guard_yes rfl rfl rfl (by decide) ?_
    refine OG.yield (Yield.not rfl) rfl ?_
    refine OG.yield (by first | exact Yield.pick_t rfl rfl | exact Yield.pick_f rfl rfl | exact Yield.pick rfl (fun _ => rfl) (fun _ => rfl)) rfl ?_
    refine OG.nil ?_
    refine QG.then ?_
    refine CG.cond_t rfl ?_
    refine CG.seq ?_
    refine CG.region ?_
    refine OG.yield (Yield.assign rfl) rfl ?_
    refine OG.yield (Yield.assign rfl) rfl ?_
    refine OG.nil ?_
    refine QG.then ?_
    refine CG.ret ?_
    refine QG.pass_ret ?_
    exact QG.ret2 rfl rfl rfl () trivial rfl (Imp.refl _)
theorem new_ok {part first count latency : Int} (h : newBad part first count latency = false) : Ctr Try.prog W0 10 [.int .i64 part, .int .i64 first, .int .i64 count, .int .i64 latency] Fr (fun _ : Nat => True) (fun d => .tuple #[.pointer (some ⟨d, 0, none⟩), .int .i64 0]) (fun d => D d ⟨part, first, count, latency, 0, [], []⟩ :: Fr) := by
  unfold newBad at h
  simp only [Bool.or_eq_false_iff, Bool.not_eq_false', decide_eq_false_iff_not, decide_eq_true_eq] at h
  obtain ⟨⟨⟨⟨h1, h2⟩, h3⟩, h4⟩, h5⟩ := h
  refine Ctr.of_body Try.func10 rfl Try.ntmps10 rfl ?_
  refine CG.seq ?_
  refine CG.region ?_
  refine OG.yield (Yield.assign rfl) rfl ?_
  refine OG.yield (Yield.assign rfl) rfl ?_
  refine OG.nil ?_
  refine QG.then ?_
  refine CG.seq ?_
  refine CG.seq ?_
  refine CG.region ?_
  refine OG.yield (Yield.move rfl) rfl ?_
  refine OG.callo call37 rfl (Imp.refl _) (within_spec W0 _ part 0 7) rfl ?_
  rintro ⟨⟩ -
  rw [decide_eq_true (p := 0 ≤ part ∧ part ≤ 7) (by omega)]
  refine OG.yield (Yield.not rfl) rfl ?_
  refine OG.yield (Yield.move rfl) rfl ?_
  refine OG.guard_yes rfl rfl rfl (by decide) ?_
  refine OG.yield (Yield.move rfl) rfl ?_
  refine OG.guard_yes rfl rfl rfl (by decide) ?_
  refine OG.callo call37 rfl (Imp.refl _) (within_spec W0 _ first 0 1024) rfl ?_
  rintro ⟨⟩ -
  rw [decide_eq_true (p := 0 ≤ first ∧ first ≤ 1024) (by omega)]
  refine OG.guard_yes rfl rfl rfl (by decide) ?_
  refine OG.yield (Yield.not rfl) rfl ?_
  refine OG.yield (by first | exact Yield.pick_t rfl rfl | exact Yield.pick_f rfl rfl | exact Yield.pick rfl (fun _ => rfl) (fun _ => rfl)) rfl ?_
  refine OG.yield (Yield.move rfl) rfl ?_
  refine OG.guard_yes rfl rfl rfl (by decide) ?_
  refine OG.yield (Yield.move rfl) rfl ?_
  refine OG.guard_yes rfl rfl rfl (by decide) ?_
  refine OG.callo call37 rfl (Imp.refl _) (within_spec W0 _ count 0 1024) rfl ?_
  rintro ⟨⟩ -
  rw [decide_eq_true (p := 0 ≤ count ∧ count ≤ 1024) (by omega)]
  refine OG.guard_yes rfl rfl rfl (by decide) ?_
  refine OG.yield (Yield.not rfl) rfl ?_
  refine OG.yield (by first | exact Yield.pick_t rfl rfl | exact Yield.pick_f rfl rfl | exact Yield.pick rfl (fun _ => rfl) (fun _ => rfl)) rfl ?_
  refine OG.yield (Yield.move rfl) rfl ?_
  refine OG.guard_yes rfl rfl rfl (by decide) ?_
  refine OG.yield (Yield.move rfl) rfl ?_
  refine OG.guard_yes rfl rfl rfl (by decide) ?_
  refine OG.yield (Yield.move rfl) rfl ?_
  refine OG.guard_yes rfl rfl rfl (by decide) ?_
  refine OG.yield (Yield.add rfl rfl (w64 (by omega) (by omega))) rfl ?_
  refine OG.guard_yes rfl rfl rfl (by decide) ?_
  refine OG.yield (by first | exact Yield.as (Yield.gtr rfl rfl) (bT (by omega)) | exact Yield.as (Yield.gtr rfl rfl) (bF (by omega)) | exact Yield.gtr rfl rfl) rfl ?_
  refine OG.yield (by first | exact Yield.pick_t rfl rfl | exact Yield.pick_f rfl rfl | exact Yield.pick rfl (fun _ => rfl) (fun _ => rfl)) rfl ?_
  refine OG.yield (Yield.move rfl) rfl ?_
  refine OG.guard_yes rfl rfl rfl (by decide) ?_
  refine OG.yield (Yield.move rfl) rfl ?_
  refine OG.guard_yes rfl rfl rfl (by decide) ?_
  refine OG.callo call37 rfl (Imp.refl _) (within_spec W0 _ latency 1 8) rfl ?_
  rintro ⟨⟩ -
  rw [decide_eq_true (p := 1 ≤ latency ∧ latency ≤ 8) (by omega)]
  refine OG.guard_yes rfl rfl rfl (by decide) ?_
  refine OG.yield (Yield.not rfl) rfl ?_
  refine OG.yield (by first | exact Yield.pick_t rfl rfl | exact Yield.pick_f rfl rfl | exact Yield.pick rfl (fun _ => rfl) (fun _ => rfl)) rfl ?_
  refine OG.nil ?_
  refine QG.then ?_
  refine CG.cond_f rfl ?_
  refine CG.skip ?_
  refine QG.then ?_
  refine CG.seq ?_
  refine CG.region ?_
  refine OG.yield (Yield.move rfl) rfl ?_
  refine OG.yield (Yield.move rfl) rfl ?_
  refine OG.yield (Yield.move rfl) rfl ?_
  refine OG.yield (Yield.move rfl) rfl ?_
  refine OG.yield (Yield.build (pvs := [(0, .int .i64 part), (1, .int .i64 first), (2, .int .i64 count), (3, .int .i64 latency)]) bu84 ti84 rfl (cells := [.int .i64 part, .int .i64 first, .int .i64 count, .int .i64 latency, .int .u32 0, .slice none 0 0, .slice none 0 0]) rfl) rfl ?_
  refine OG.effd (Eff.box rfl) rfl ?_
  rintro b39 -
  refine OG.yield (Yield.assign rfl) rfl ?_
  refine OG.yield (Yield.assign rfl) rfl ?_
  refine OG.nil ?_
  refine QG.then ?_
  refine CG.ret ?_
  have hcl := d_close (d := b39) (G := Fr) (s := ⟨part, first, count, latency, 0, [], []⟩) ⟨[], [], none, 0, none, 0⟩ ⟨rfl, fun a h => absurd h List.not_mem_nil, ⟨h1, h2, h3, h5, Nat.zero_le _, Nat.zero_le _, fun a h => absurd h List.not_mem_nil, fun a h => absurd h List.not_mem_nil⟩⟩
  exact QG.ret2 rfl rfl rfl b39 trivial rfl (Imp.trans (Imp.trans pool_nil (Imp.trans (osl_nil (E := 35) (sz := 1)) (Imp.trans (osl_nil (E := 86) (sz := 7)) (by repeat (first | exact Imp.refl _ | exact Imp.none _ | apply Imp.pull (by repeat (first | exact Ext.here | apply Ext.there)) | apply Imp.trans Imp.drop))))) hcl)
/-- What a submission is answered. -/
def subE (s : Ds) (write : Bool) (sector : Int) (len : Nat) (major : Int) : Int :=
  if ¬(0 ≤ sector ∧ sector ≤ s.count - 1) then 2 else if ¬(0 ≤ major ∧ major ≤ 281474976710656) then 2 else if write = true ∧ len ≠ 64 then 6 else if 4 ≤ s.asks.length then 4 else 0
theorem submit_bad {d dm dc : Nat} {s : Ds} {write : Bool} {sector addr major : Int} {da : Option Addr} (he : subE s write sector dm major ≠ 0) :
    Ctr Try.prog W0 14 [.pointer (some ⟨d, 0, none⟩), .bool write, .int .i64 sector, .int .u32 addr, .slice da dm dc, .int .i64 major] (D d s :: Fr) (fun _ : Unit => True) (fun _ => .tuple #[.int .u32 0, .int .i64 (subE s write sector dm major)]) (fun _ => D d s :: Fr) := by
  refine Ctr.ex Ext.here d_open ?_
  intro x hx
  refine Ctr.imp star_open ?_
  have hln := hx.len
  have hcnt := hx.ok.count
  have hcl := d_close (d := d) (G := Fr) x hx
  dsimp only [DO, List.cons_append, List.nil_append] at hcl ⊢
  refine Ctr.of_body Try.func14 rfl Try.ntmps14 rfl ?_
  refine CG.seq ?_
  refine CG.region ?_
  refine OG.yield (Yield.assign rfl) rfl ?_
  refine OG.yield (Yield.assign rfl) rfl ?_
  refine OG.nil ?_
  refine QG.then ?_
  refine CG.seq ?_
  refine CG.block ?_
  refine CG.seq ?_
  rcases (show ¬(0 ≤ sector ∧ sector ≤ s.count - 1) ∨ ((0 ≤ sector ∧ sector ≤ s.count - 1) ∧ ¬(0 ≤ major ∧ major ≤ 281474976710656)) ∨ ((0 ≤ sector ∧ sector ≤ s.count - 1) ∧ (0 ≤ major ∧ major ≤ 281474976710656) ∧ write = true ∧ dm ≠ 64) ∨ ((0 ≤ sector ∧ sector ≤ s.count - 1) ∧ (0 ≤ major ∧ major ≤ 281474976710656) ∧ write = false ∧ 4 ≤ s.asks.length) ∨ ((0 ≤ sector ∧ sector ≤ s.count - 1) ∧ (0 ≤ major ∧ major ≤ 281474976710656) ∧ (write = true ∧ dm = 64) ∧ 4 ≤ s.asks.length) by unfold subE at he; cases write <;> (simp only [true_and, false_and, if_false, reduceCtorEq] at he ⊢; (repeat' split at he) <;> first | omega | exact absurd rfl he)) with hh | hh | ⟨hh1, hh2, rfl, hh⟩ | ⟨hh1, hh2, rfl, hh⟩ | ⟨hh1, hh2, ⟨rfl, hh3⟩, hh⟩
  · skip
    refine CG.region ?_
    refine OG.yield (Yield.move rfl) rfl ?_
    refine OG.yield (Yield.move rfl) rfl ?_
    refine OG.yield (Yield.nilCheck rfl) rfl ?_
    refine OG.yield (Yield.fieldAddr fa84_2 rfl) rfl ?_
    refine OG.yield (Yield.load ti3 rfl (by first | exact Cel.of_blk (by repeat (first | exact Ext.here | apply Ext.there)) rfl | exact (hrow (by repeat (first | exact Ext.here | apply Ext.there))) _ _ rfl)) rfl ?_
    refine OG.yield (Yield.sub rfl rfl (w64 (by omega) (by omega))) rfl ?_
    refine OG.callo call37 rfl (Imp.refl _) (within_spec W0 _ sector 0 (s.count - 1)) rfl ?_
    rintro ⟨⟩ -
    first | rw [decide_eq_true (p := 0 ≤ sector ∧ sector ≤ s.count - 1) (by omega)] | rw [decide_eq_false (p := 0 ≤ sector ∧ sector ≤ s.count - 1) (by omega)]
    refine OG.yield (Yield.not rfl) rfl ?_
    refine OG.yield (Yield.move rfl) rfl ?_
    refine OG.guard_no rfl rfl rfl rfl rfl (by decide) (by decide) ?_
    refine OG.guard_no rfl rfl rfl rfl rfl (by decide) (by decide) ?_
    refine OG.guard_no rfl rfl rfl rfl rfl (by decide) (by decide) ?_
    refine OG.yield (by first | exact Yield.pick_t rfl rfl | exact Yield.pick_f rfl rfl | exact Yield.pick rfl (fun _ => rfl) (fun _ => rfl)) rfl ?_
    refine OG.yield (Yield.assign rfl) rfl ?_
    refine OG.nil ?_
    refine QG.then ?_
    refine CG.cond_t rfl ?_
    refine CG.seq ?_
    refine CG.region ?_
    refine OG.yield (Yield.assign rfl) rfl ?_
    refine OG.yield (Yield.assign rfl) rfl ?_
    refine OG.nil ?_
    refine QG.then ?_
    refine CG.ret ?_
    refine QG.block_ret ?_
    refine QG.pass_ret ?_
    exact QG.ret2 rfl rfl rfl () trivial (by unfold subE; rw [if_pos hh]) (Imp.trans (by repeat (first | exact Imp.refl _ | exact Imp.none _ | apply Imp.pull (by repeat (first | exact Ext.here | apply Ext.there)) | apply Imp.trans Imp.drop)) hcl)
  · skip
    refine CG.region ?_
    refine OG.yield (Yield.move rfl) rfl ?_
    refine OG.yield (Yield.move rfl) rfl ?_
    refine OG.yield (Yield.nilCheck rfl) rfl ?_
    refine OG.yield (Yield.fieldAddr fa84_2 rfl) rfl ?_
    refine OG.yield (Yield.load ti3 rfl (by first | exact Cel.of_blk (by repeat (first | exact Ext.here | apply Ext.there)) rfl | exact (hrow (by repeat (first | exact Ext.here | apply Ext.there))) _ _ rfl)) rfl ?_
    refine OG.yield (Yield.sub rfl rfl (w64 (by omega) (by omega))) rfl ?_
    refine OG.callo call37 rfl (Imp.refl _) (within_spec W0 _ sector 0 (s.count - 1)) rfl ?_
    rintro ⟨⟩ -
    first | rw [decide_eq_true (p := 0 ≤ sector ∧ sector ≤ s.count - 1) (by omega)] | rw [decide_eq_false (p := 0 ≤ sector ∧ sector ≤ s.count - 1) (by omega)]
    refine OG.yield (Yield.not rfl) rfl ?_
    refine OG.yield (Yield.move rfl) rfl ?_
    refine OG.guard_yes rfl rfl rfl (by decide) ?_
    refine OG.yield (Yield.move rfl) rfl ?_
    refine OG.guard_yes rfl rfl rfl (by decide) ?_
    refine OG.callo call37 rfl (Imp.refl _) (within_spec W0 _ major 0 281474976710656) rfl ?_
    rintro ⟨⟩ -
    first | rw [decide_eq_true (p := 0 ≤ major ∧ major ≤ 281474976710656) (by omega)] | rw [decide_eq_false (p := 0 ≤ major ∧ major ≤ 281474976710656) (by omega)]
    refine OG.guard_yes rfl rfl rfl (by decide) ?_
    refine OG.yield (Yield.not rfl) rfl ?_
    refine OG.yield (by first | exact Yield.pick_t rfl rfl | exact Yield.pick_f rfl rfl | exact Yield.pick rfl (fun _ => rfl) (fun _ => rfl)) rfl ?_
    refine OG.yield (Yield.assign rfl) rfl ?_
    refine OG.nil ?_
    refine QG.then ?_
    refine CG.cond_t rfl ?_
    refine CG.seq ?_
    refine CG.region ?_
    refine OG.yield (Yield.assign rfl) rfl ?_
    refine OG.yield (Yield.assign rfl) rfl ?_
    refine OG.nil ?_
    refine QG.then ?_
    refine CG.ret ?_
    refine QG.block_ret ?_
    refine QG.pass_ret ?_
    exact QG.ret2 rfl rfl rfl () trivial (by unfold subE; rw [if_neg (not_not_intro hh.1), if_pos hh.2]) (Imp.trans (by repeat (first | exact Imp.refl _ | exact Imp.none _ | apply Imp.pull (by repeat (first | exact Ext.here | apply Ext.there)) | apply Imp.trans Imp.drop)) hcl)
  · skip
    refine CG.region ?_
    refine OG.yield (Yield.move rfl) rfl ?_
    refine OG.yield (Yield.move rfl) rfl ?_
    refine OG.yield (Yield.nilCheck rfl) rfl ?_
    refine OG.yield (Yield.fieldAddr fa84_2 rfl) rfl ?_
    refine OG.yield (Yield.load ti3 rfl (by first | exact Cel.of_blk (by repeat (first | exact Ext.here | apply Ext.there)) rfl | exact (hrow (by repeat (first | exact Ext.here | apply Ext.there))) _ _ rfl)) rfl ?_
    refine OG.yield (Yield.sub rfl rfl (w64 (by omega) (by omega))) rfl ?_
    refine OG.callo call37 rfl (Imp.refl _) (within_spec W0 _ sector 0 (s.count - 1)) rfl ?_
    rintro ⟨⟩ -
    first | rw [decide_eq_true (p := 0 ≤ sector ∧ sector ≤ s.count - 1) (by omega)] | rw [decide_eq_false (p := 0 ≤ sector ∧ sector ≤ s.count - 1) (by omega)]
    refine OG.yield (Yield.not rfl) rfl ?_
    refine OG.yield (Yield.move rfl) rfl ?_
    refine OG.guard_yes rfl rfl rfl (by decide) ?_
    refine OG.yield (Yield.move rfl) rfl ?_
    refine OG.guard_yes rfl rfl rfl (by decide) ?_
    refine OG.callo call37 rfl (Imp.refl _) (within_spec W0 _ major 0 281474976710656) rfl ?_
    rintro ⟨⟩ -
    first | rw [decide_eq_true (p := 0 ≤ major ∧ major ≤ 281474976710656) (by omega)] | rw [decide_eq_false (p := 0 ≤ major ∧ major ≤ 281474976710656) (by omega)]
    refine OG.guard_yes rfl rfl rfl (by decide) ?_
    refine OG.yield (Yield.not rfl) rfl ?_
    refine OG.yield (by first | exact Yield.pick_t rfl rfl | exact Yield.pick_f rfl rfl | exact Yield.pick rfl (fun _ => rfl) (fun _ => rfl)) rfl ?_
    refine OG.yield (Yield.assign rfl) rfl ?_
    refine OG.nil ?_
    refine QG.then ?_
    refine CG.cond_f rfl ?_
    refine CG.seq ?_
    refine CG.region ?_
    refine OG.yield (Yield.move rfl) rfl ?_
    refine OG.yield (Yield.move rfl) rfl ?_
    refine OG.guard_yes rfl rfl rfl (by decide) ?_
    refine OG.yield (Yield.move rfl) rfl ?_
    refine OG.guard_yes rfl rfl rfl (by decide) ?_
    refine OG.yield (Yield.len_slice Try.underlying36 rfl rfl) rfl ?_
    refine OG.guard_yes rfl rfl rfl (by decide) ?_
    refine OG.yield (by first | exact Yield.as (Yield.neq rfl rfl) (bT (by omega)) | exact Yield.as (Yield.neq rfl rfl) (bF (by omega)) | exact Yield.neq rfl rfl) rfl ?_
    refine OG.yield (by first | exact Yield.pick_t rfl rfl | exact Yield.pick_f rfl rfl | exact Yield.pick rfl (fun _ => rfl) (fun _ => rfl)) rfl ?_
    refine OG.yield (Yield.assign rfl) rfl ?_
    refine OG.nil ?_
    refine QG.then ?_
    refine CG.cond_t rfl ?_
    refine CG.seq ?_
    refine CG.region ?_
    refine OG.yield (Yield.assign rfl) rfl ?_
    refine OG.yield (Yield.assign rfl) rfl ?_
    refine OG.nil ?_
    refine QG.then ?_
    refine CG.ret ?_
    refine QG.block_ret ?_
    refine QG.pass_ret ?_
    exact QG.ret2 rfl rfl rfl () trivial (by unfold subE; rw [if_neg (not_not_intro hh1), if_neg (not_not_intro hh2), if_pos ⟨rfl, hh⟩]) (Imp.trans (by repeat (first | exact Imp.refl _ | exact Imp.none _ | apply Imp.pull (by repeat (first | exact Ext.here | apply Ext.there)) | apply Imp.trans Imp.drop)) hcl)
  · skip
    refine CG.region ?_
    refine OG.yield (Yield.move rfl) rfl ?_
    refine OG.yield (Yield.move rfl) rfl ?_
    refine OG.yield (Yield.nilCheck rfl) rfl ?_
    refine OG.yield (Yield.fieldAddr fa84_2 rfl) rfl ?_
    refine OG.yield (Yield.load ti3 rfl (by first | exact Cel.of_blk (by repeat (first | exact Ext.here | apply Ext.there)) rfl | exact (hrow (by repeat (first | exact Ext.here | apply Ext.there))) _ _ rfl)) rfl ?_
    refine OG.yield (Yield.sub rfl rfl (w64 (by omega) (by omega))) rfl ?_
    refine OG.callo call37 rfl (Imp.refl _) (within_spec W0 _ sector 0 (s.count - 1)) rfl ?_
    rintro ⟨⟩ -
    first | rw [decide_eq_true (p := 0 ≤ sector ∧ sector ≤ s.count - 1) (by omega)] | rw [decide_eq_false (p := 0 ≤ sector ∧ sector ≤ s.count - 1) (by omega)]
    refine OG.yield (Yield.not rfl) rfl ?_
    refine OG.yield (Yield.move rfl) rfl ?_
    refine OG.guard_yes rfl rfl rfl (by decide) ?_
    refine OG.yield (Yield.move rfl) rfl ?_
    refine OG.guard_yes rfl rfl rfl (by decide) ?_
    refine OG.callo call37 rfl (Imp.refl _) (within_spec W0 _ major 0 281474976710656) rfl ?_
    rintro ⟨⟩ -
    first | rw [decide_eq_true (p := 0 ≤ major ∧ major ≤ 281474976710656) (by omega)] | rw [decide_eq_false (p := 0 ≤ major ∧ major ≤ 281474976710656) (by omega)]
    refine OG.guard_yes rfl rfl rfl (by decide) ?_
    refine OG.yield (Yield.not rfl) rfl ?_
    refine OG.yield (by first | exact Yield.pick_t rfl rfl | exact Yield.pick_f rfl rfl | exact Yield.pick rfl (fun _ => rfl) (fun _ => rfl)) rfl ?_
    refine OG.yield (Yield.assign rfl) rfl ?_
    refine OG.nil ?_
    refine QG.then ?_
    refine CG.cond_f rfl ?_
    refine CG.seq ?_
    refine CG.region ?_
    refine OG.yield (Yield.move rfl) rfl ?_
    refine OG.yield (Yield.move rfl) rfl ?_
    refine OG.guard_no rfl rfl rfl rfl rfl (by decide) (by decide) ?_
    refine OG.guard_no rfl rfl rfl rfl rfl (by decide) (by decide) ?_
    refine OG.guard_no rfl rfl rfl rfl rfl (by decide) (by decide) ?_
    refine OG.yield (by first | exact Yield.pick_t rfl rfl | exact Yield.pick_f rfl rfl | exact Yield.pick rfl (fun _ => rfl) (fun _ => rfl)) rfl ?_
    refine OG.yield (Yield.assign rfl) rfl ?_
    refine OG.nil ?_
    refine QG.then ?_
    refine CG.cond_f rfl ?_
    refine CG.seq ?_
    refine CG.region ?_
    refine OG.yield (Yield.move rfl) rfl ?_
    refine OG.yield (Yield.nilCheck rfl) rfl ?_
    refine OG.yield (Yield.fieldAddr fa84_5 rfl) rfl ?_
    refine OG.yield (Yield.load ti82 rfl (by first | exact Cel.of_blk (by repeat (first | exact Ext.here | apply Ext.there)) rfl | exact (hrow (by repeat (first | exact Ext.here | apply Ext.there))) _ _ rfl)) rfl ?_
    refine OG.yield (Yield.len_slice Try.underlying82 rfl rfl) rfl ?_
    refine OG.yield (by first | exact Yield.as (Yield.geq rfl rfl) (bT (by omega)) | exact Yield.as (Yield.geq rfl rfl) (bF (by omega)) | exact Yield.geq rfl rfl) rfl ?_
    refine OG.yield (Yield.assign rfl) rfl ?_
    refine OG.nil ?_
    refine QG.then ?_
    refine CG.cond_t rfl ?_
    refine CG.seq ?_
    refine CG.region ?_
    refine OG.yield (Yield.assign rfl) rfl ?_
    refine OG.yield (Yield.assign rfl) rfl ?_
    refine OG.nil ?_
    refine QG.then ?_
    refine CG.ret ?_
    refine QG.block_ret ?_
    refine QG.pass_ret ?_
    exact QG.ret2 rfl rfl rfl () trivial (by unfold subE; rw [if_neg (not_not_intro hh1), if_neg (not_not_intro hh2), if_neg (by simp), if_pos hh]) (Imp.trans (by repeat (first | exact Imp.refl _ | exact Imp.none _ | apply Imp.pull (by repeat (first | exact Ext.here | apply Ext.there)) | apply Imp.trans Imp.drop)) hcl)
  · skip
    refine CG.region ?_
    refine OG.yield (Yield.move rfl) rfl ?_
    refine OG.yield (Yield.move rfl) rfl ?_
    refine OG.yield (Yield.nilCheck rfl) rfl ?_
    refine OG.yield (Yield.fieldAddr fa84_2 rfl) rfl ?_
    refine OG.yield (Yield.load ti3 rfl (by first | exact Cel.of_blk (by repeat (first | exact Ext.here | apply Ext.there)) rfl | exact (hrow (by repeat (first | exact Ext.here | apply Ext.there))) _ _ rfl)) rfl ?_
    refine OG.yield (Yield.sub rfl rfl (w64 (by omega) (by omega))) rfl ?_
    refine OG.callo call37 rfl (Imp.refl _) (within_spec W0 _ sector 0 (s.count - 1)) rfl ?_
    rintro ⟨⟩ -
    first | rw [decide_eq_true (p := 0 ≤ sector ∧ sector ≤ s.count - 1) (by omega)] | rw [decide_eq_false (p := 0 ≤ sector ∧ sector ≤ s.count - 1) (by omega)]
    refine OG.yield (Yield.not rfl) rfl ?_
    refine OG.yield (Yield.move rfl) rfl ?_
    refine OG.guard_yes rfl rfl rfl (by decide) ?_
    refine OG.yield (Yield.move rfl) rfl ?_
    refine OG.guard_yes rfl rfl rfl (by decide) ?_
    refine OG.callo call37 rfl (Imp.refl _) (within_spec W0 _ major 0 281474976710656) rfl ?_
    rintro ⟨⟩ -
    first | rw [decide_eq_true (p := 0 ≤ major ∧ major ≤ 281474976710656) (by omega)] | rw [decide_eq_false (p := 0 ≤ major ∧ major ≤ 281474976710656) (by omega)]
    refine OG.guard_yes rfl rfl rfl (by decide) ?_
    refine OG.yield (Yield.not rfl) rfl ?_
    refine OG.yield (by first | exact Yield.pick_t rfl rfl | exact Yield.pick_f rfl rfl | exact Yield.pick rfl (fun _ => rfl) (fun _ => rfl)) rfl ?_
    refine OG.yield (Yield.assign rfl) rfl ?_
    refine OG.nil ?_
    refine QG.then ?_
    refine CG.cond_f rfl ?_
    refine CG.seq ?_
    refine CG.region ?_
    refine OG.yield (Yield.move rfl) rfl ?_
    refine OG.yield (Yield.move rfl) rfl ?_
    refine OG.guard_yes rfl rfl rfl (by decide) ?_
    refine OG.yield (Yield.move rfl) rfl ?_
    refine OG.guard_yes rfl rfl rfl (by decide) ?_
    refine OG.yield (Yield.len_slice Try.underlying36 rfl rfl) rfl ?_
    refine OG.guard_yes rfl rfl rfl (by decide) ?_
    refine OG.yield (by first | exact Yield.as (Yield.neq rfl rfl) (bT (by omega)) | exact Yield.as (Yield.neq rfl rfl) (bF (by omega)) | exact Yield.neq rfl rfl) rfl ?_
    refine OG.yield (by first | exact Yield.pick_t rfl rfl | exact Yield.pick_f rfl rfl | exact Yield.pick rfl (fun _ => rfl) (fun _ => rfl)) rfl ?_
    refine OG.yield (Yield.assign rfl) rfl ?_
    refine OG.nil ?_
    refine QG.then ?_
    refine CG.cond_f rfl ?_
    refine CG.seq ?_
    refine CG.region ?_
    refine OG.yield (Yield.move rfl) rfl ?_
    refine OG.yield (Yield.nilCheck rfl) rfl ?_
    refine OG.yield (Yield.fieldAddr fa84_5 rfl) rfl ?_
    refine OG.yield (Yield.load ti82 rfl (by first | exact Cel.of_blk (by repeat (first | exact Ext.here | apply Ext.there)) rfl | exact (hrow (by repeat (first | exact Ext.here | apply Ext.there))) _ _ rfl)) rfl ?_
    refine OG.yield (Yield.len_slice Try.underlying82 rfl rfl) rfl ?_
    refine OG.yield (by first | exact Yield.as (Yield.geq rfl rfl) (bT (by omega)) | exact Yield.as (Yield.geq rfl rfl) (bF (by omega)) | exact Yield.geq rfl rfl) rfl ?_
    refine OG.yield (Yield.assign rfl) rfl ?_
    refine OG.nil ?_
    refine QG.then ?_
    refine CG.cond_t rfl ?_
    refine CG.seq ?_
    refine CG.region ?_
    refine OG.yield (Yield.assign rfl) rfl ?_
    refine OG.yield (Yield.assign rfl) rfl ?_
    refine OG.nil ?_
    refine QG.then ?_
    refine CG.ret ?_
    refine QG.block_ret ?_
    refine QG.pass_ret ?_
    exact QG.ret2 rfl rfl rfl () trivial (by unfold subE; rw [if_neg (not_not_intro hh1), if_neg (not_not_intro hh2), if_neg (by simp [hh3]), if_pos hh]) (Imp.trans (by repeat (first | exact Imp.refl _ | exact Imp.none _ | apply Imp.pull (by repeat (first | exact Ext.here | apply Ext.there)) | apply Imp.trans Imp.drop)) hcl)
def w32 (n : Int) : Int := IntKind.u32.wrap n
/-- The slice behind a request that was taken. -/
def subR (s : Ds) (write : Bool) (sector addr : Int) (data : B) (major : Int) : Ds :=
  { s with last := w32 (s.last + 1), asks := s.asks ++ [⟨w32 (s.last + 1), write, sector, addr, if write then data else [], major + s.latency, 0⟩] }
set_option maxHeartbeats 1000000 in
theorem submit_ok {d dc : Nat} {s : Ds} {write : Bool} {sector addr major : Int} {da : Option Addr} {data : B} (hr : RdB W0 Fr da dc data) (hdl : data.length ≤ 2 ^ 47) (he : subE s write sector data.length major = 0) :
    Ctr Try.prog W0 14 [.pointer (some ⟨d, 0, none⟩), .bool write, .int .i64 sector, .int .u32 addr, .slice da data.length dc, .int .i64 major] (D d s :: Fr) (fun _ : Unit => True) (fun _ => .tuple #[.int .u32 (w32 (s.last + 1)), .int .i64 0]) (fun _ => D d (subR s write sector addr data major) :: Fr) := by
  refine Ctr.ex Ext.here d_open ?_
  intro x hx
  refine Ctr.imp star_open ?_
  have hln := hx.len
  have hok := hx.ok
  have hcnt := hx.ok.count
  have hlat := hx.ok.lat
  obtain ⟨h1, h2, h3, h4⟩ : (0 ≤ sector ∧ sector ≤ s.count - 1) ∧ (0 ≤ major ∧ major ≤ 281474976710656) ∧ (write = true → data.length = 64) ∧ s.asks.length < 4 := by
    unfold subE at he
    cases write <;> (simp only [true_and, false_and, if_false, reduceCtorEq] at he; (repeat' split at he) <;> first | omega | (refine ⟨by omega, by omega, ?_, by omega⟩; intro _; first | omega | contradiction))
  have hclose : ∀ (m : Msg) (a' : Option Addr) (c' : Nat), m.b = (if write then data else []) → Imp (DO d (subR s write sector addr data major) ⟨x.cas ++ [⟨w32 (s.last + 1), write, sector, addr, m, major + s.latency, 0⟩], x.pl ++ [m], a', c', x.ta, x.tc⟩ ++ Fr) (D d (subR s write sector addr data major) :: Fr) := by
    intro m a' c' hm
    refine d_close _ ⟨?_, ?_, ⟨hok.part, hok.first, hok.count, hok.lat, ?_, hok.told, ?_, ?_⟩⟩
    · dsimp only [subR]; rw [List.map_append, hx.abs]; simp [CA.abs, hm]
    · intro a ha
      rcases List.mem_append.1 ha with ha | ha
      · exact List.mem_append.2 (.inl (hx.mem a ha))
      · simp only [List.mem_cons, List.not_mem_nil, or_false] at ha; subst ha; simp
    · dsimp only [subR]; rw [List.length_append]; simp only [List.length_cons, List.length_nil]; omega
    · intro a ha
      rcases List.mem_append.1 ha with ha | ha
      · exact hok.data a ha
      · simp only [List.mem_cons, List.not_mem_nil, or_false] at ha; subst ha
        dsimp only
        split
        · rename_i hw; rw [h3 hw]; exact Nat.le_refl _
        · simp
    · intro a ha
      rcases List.mem_append.1 ha with ha | ha
      · exact hok.sec a ha
      · simp only [List.mem_cons, List.not_mem_nil, or_false] at ha; subst ha; dsimp only [subR]; omega
  dsimp only [DO, subR, oasks, List.cons_append, List.nil_append] at hclose ⊢
  refine Ctr.of_body Try.func14 rfl Try.ntmps14 rfl ?_
  refine CG.seq ?_
  refine CG.region ?_
  refine OG.yield (Yield.assign rfl) rfl ?_
  refine OG.yield (Yield.assign rfl) rfl ?_
  refine OG.nil ?_
  refine QG.then ?_
  refine CG.seq ?_
  refine CG.block ?_
  refine CG.seq ?_
  cases write
  · skip
    refine CG.region ?_
    refine OG.yield (Yield.move rfl) rfl ?_
    refine OG.yield (Yield.move rfl) rfl ?_
    refine OG.yield (Yield.nilCheck rfl) rfl ?_
    refine OG.yield (Yield.fieldAddr fa84_2 rfl) rfl ?_
    refine OG.yield (Yield.load ti3 rfl (by first | exact Cel.of_blk (by repeat (first | exact Ext.here | apply Ext.there)) rfl | exact (hrow (by repeat (first | exact Ext.here | apply Ext.there))) _ _ rfl)) rfl ?_
    refine OG.yield (Yield.sub rfl rfl (w64 (by omega) (by omega))) rfl ?_
    refine OG.callo call37 rfl (Imp.refl _) (within_spec W0 _ sector 0 (s.count - 1)) rfl ?_
    rintro ⟨⟩ -
    rw [decide_eq_true (p := 0 ≤ sector ∧ sector ≤ s.count - 1) (by omega)]
    refine OG.yield (Yield.not rfl) rfl ?_
    refine OG.yield (Yield.move rfl) rfl ?_
    refine OG.guard_yes rfl rfl rfl (by decide) ?_
    refine OG.yield (Yield.move rfl) rfl ?_
    refine OG.guard_yes rfl rfl rfl (by decide) ?_
    refine OG.callo call37 rfl (Imp.refl _) (within_spec W0 _ major 0 281474976710656) rfl ?_
    rintro ⟨⟩ -
    rw [decide_eq_true (p := 0 ≤ major ∧ major ≤ 281474976710656) (by omega)]
    refine OG.guard_yes rfl rfl rfl (by decide) ?_
    refine OG.yield (Yield.not rfl) rfl ?_
    refine OG.yield (by first | exact Yield.pick_t rfl rfl | exact Yield.pick_f rfl rfl | exact Yield.pick rfl (fun _ => rfl) (fun _ => rfl)) rfl ?_
    refine OG.yield (Yield.assign rfl) rfl ?_
    refine OG.nil ?_
    refine QG.then ?_
    refine CG.cond_f rfl ?_
    refine CG.seq ?_
    refine CG.region ?_
    refine OG.yield (Yield.move rfl) rfl ?_
    refine OG.yield (Yield.move rfl) rfl ?_
    refine OG.guard_no rfl rfl rfl rfl rfl (by decide) (by decide) ?_
    refine OG.guard_no rfl rfl rfl rfl rfl (by decide) (by decide) ?_
    refine OG.guard_no rfl rfl rfl rfl rfl (by decide) (by decide) ?_
    refine OG.yield (by first | exact Yield.pick_t rfl rfl | exact Yield.pick_f rfl rfl | exact Yield.pick rfl (fun _ => rfl) (fun _ => rfl)) rfl ?_
    refine OG.yield (Yield.assign rfl) rfl ?_
    refine OG.nil ?_
    refine QG.then ?_
    refine CG.cond_f rfl ?_
    refine CG.seq ?_
    refine CG.region ?_
    refine OG.yield (Yield.move rfl) rfl ?_
    refine OG.yield (Yield.nilCheck rfl) rfl ?_
    refine OG.yield (Yield.fieldAddr fa84_5 rfl) rfl ?_
    refine OG.yield (Yield.load ti82 rfl (by first | exact Cel.of_blk (by repeat (first | exact Ext.here | apply Ext.there)) rfl | exact (hrow (by repeat (first | exact Ext.here | apply Ext.there))) _ _ rfl)) rfl ?_
    refine OG.yield (Yield.len_slice Try.underlying82 rfl rfl) rfl ?_
    refine OG.yield (by first | exact Yield.as (Yield.geq rfl rfl) (bT (by omega)) | exact Yield.as (Yield.geq rfl rfl) (bF (by omega)) | exact Yield.geq rfl rfl) rfl ?_
    refine OG.yield (Yield.assign rfl) rfl ?_
    refine OG.nil ?_
    refine QG.then ?_
    refine CG.cond_f rfl ?_
    refine CG.skip ?_
    refine QG.block_normal ?_
    refine QG.then ?_
    refine CG.seq ?_
    refine CG.seq ?_
    refine CG.region ?_
    refine OG.yield (Yield.move rfl) rfl ?_
    refine OG.yield (Yield.not rfl) rfl ?_
    refine OG.nil ?_
    refine QG.then ?_
    refine CG.cond_t rfl ?_
    refine CG.region ?_
    refine OG.yield (Yield.assign rfl) rfl ?_
    refine OG.nil ?_
    refine QG.then ?_
    refine CG.seq ?_
    refine CG.region ?_
    refine OG.yield (Yield.move rfl) rfl ?_
    refine OG.yield (Yield.nilCheck rfl) rfl ?_
    refine OG.yield (Yield.fieldAddr fa84_4 rfl) rfl ?_
    refine OG.yield (Yield.load ti35 rfl (by first | exact Cel.of_blk (by repeat (first | exact Ext.here | apply Ext.there)) rfl | exact (hrow (by repeat (first | exact Ext.here | apply Ext.there))) _ _ rfl)) rfl ?_
    refine OG.yield (Yield.add rfl rfl rfl) rfl ?_
    refine OG.yield (Yield.nilCheck rfl) rfl ?_
    refine OG.yield (Yield.fieldAddr fa84_4 rfl) rfl ?_
    refine OG.eff (Eff.store1 ti35 rfl rfl (by repeat (first | exact Foc.here | apply Foc.there)) rfl (by simp)) rfl ?_
    rintro ⟨⟩ -
    refine OG.nil ?_
    refine QG.then ?_
    refine CG.seq ?_
    refine CG.draw (.look 0 0 (.look 1 0 (.look 2 0 (.look 3 0 (.look 4 2 (.look 5 0 (.look 6 0 (.look 7 0 (.look 8 2 (.look 9 0 (.look 10 0 (.look 11 0 (.look 12 1 (.look 14 0 (.look 15 0 (.look 16 0 (.look 17 0 (.look 18 2 (.look 19 0 (.eff1 13 false (.look 20 1 (.eff1 21 false (.eff1 22 false (.look 23 1 (.look 24 1 (.eff1 25 true (.done))))))))))))))))))))))))))) [13, 21, 22, 25] [4, 8, 18] ([]) ([DH d s (w32 (s.last + 1)) x.a x.cas.length x.c x.ta s.told.length x.tc]) mixed (by kernel_rfl) (Imp.none _) ((by repeat (first | exact Imp.refl _ | exact Imp.none _ | apply Imp.pull (by repeat (first | exact Ext.here | apply Ext.there)) | apply Imp.trans Imp.drop))) ?_
    refine DG.look rfl rfl (Yield.move rfl) rfl ?_
    refine DG.look rfl rfl (Yield.move rfl) rfl ?_
    refine DG.look rfl rfl (Yield.nilCheck rfl) rfl ?_
    refine DG.look rfl rfl (Yield.fieldAddr fa84_5 rfl) rfl ?_
    refine DG.look rfl rfl (Yield.load (v := .slice x.a x.cas.length x.c) ti82 rfl (Cel.of_blk (b := d) (by repeat (first | exact Ext.here | apply Ext.there)) rfl)) rfl ?_
    refine DG.look rfl rfl (Yield.move rfl) rfl ?_
    refine DG.look rfl rfl (Yield.nilCheck rfl) rfl ?_
    refine DG.look rfl rfl (Yield.fieldAddr fa84_4 rfl) rfl ?_
    refine DG.look rfl rfl (Yield.load (v := .int .u32 (w32 (s.last + 1))) ti35 rfl (Cel.of_blk (b := d) (by repeat (first | exact Ext.here | apply Ext.there)) rfl)) rfl ?_
    refine DG.look rfl rfl (Yield.move rfl) rfl ?_
    refine DG.look rfl rfl (Yield.move rfl) rfl ?_
    refine DG.look rfl rfl (Yield.move rfl) rfl ?_
    refine DG.look rfl rfl (Yield.move rfl) rfl ?_
    refine DG.look rfl rfl (Yield.move rfl) rfl ?_
    refine DG.look rfl rfl (Yield.move rfl) rfl ?_
    refine DG.look rfl rfl (Yield.nilCheck rfl) rfl ?_
    refine DG.look rfl rfl (Yield.fieldAddr fa84_3 rfl) rfl ?_
    refine DG.look rfl rfl (Yield.load (v := .int .i64 s.latency) ti3 rfl (Cel.of_blk (b := d) (by repeat (first | exact Ext.here | apply Ext.there)) rfl)) rfl ?_
    refine DG.look rfl rfl (Yield.add rfl rfl (w64 (by omega) (by omega))) rfl ?_
    refine DG.eff1 ?_
    refine Chg.callo rfl rfl call38 rfl (Imp.refl _) (cloneB_spec W0 _ (a := none) (c := 0) (bs := []) (RdB.of_slR SlR.nil (Nat.le_refl _)) (by simp)) rfl (fun _ => (by repeat (first | exact Imp.refl _ | exact Imp.none _ | apply Imp.pull (by repeat (first | exact Ext.here | apply Ext.there)) | apply Imp.trans Imp.drop))) (fun _ => Imp.refl _) (fun _ => (by repeat (first | exact Imp.refl _ | exact Imp.none _ | apply Imp.pull (by repeat (first | exact Ext.here | apply Ext.there)) | apply Imp.trans Imp.drop))) ?_
    rintro m hm
    refine DG.look rfl rfl (Yield.build (pvs := [(0, .int .u32 (w32 (s.last + 1))), (1, .bool false), (2, .int .i64 sector), (3, .int .u32 addr), (4, m.cell), (5, .int .i64 (major + s.latency)), (6, .int .i64 0)]) bu86 ti86 rfl (cells := CA.cells ⟨w32 (s.last + 1), false, sector, addr, m, major + s.latency, 0⟩) rfl) rfl ?_
    refine DG.eff1 ?_
    refine Chg.eff rfl rfl (Eff.lit [.tmp 71] (vs := [.agg (CA.cells ⟨w32 (s.last + 1), false, sector, addr, m, major + s.latency, 0⟩).toArray]) (cells := CA.cells ⟨w32 (s.last + 1), false, sector, addr, m, major + s.latency, 0⟩) Try.underlying82 ti86 rfl rfl rfl rfl (by decide) (by simp [Value.cells, CA.cells]) (by simp [Value.cells])) rfl (fun _ => (by repeat (first | exact Imp.refl _ | exact Imp.none _ | apply Imp.pull (by repeat (first | exact Ext.here | apply Ext.there)) | apply Imp.trans Imp.drop))) (fun _ => Imp.refl _) (fun _ => (by repeat (first | exact Imp.refl _ | exact Imp.none _ | apply Imp.pull (by repeat (first | exact Ext.here | apply Ext.there)) | apply Imp.trans Imp.drop))) ?_
    rintro b72 -
    refine DG.eff1 ?_
    refine Chg.eff rfl rfl (Eff.append (a := x.a) (c := x.c) (k := 1) (ys := CA.cells ⟨w32 (s.last + 1), false, sector, addr, m, major + s.latency, 0⟩) rfl rfl rfl Try.underlying82 Try.underlying82 ti86 rfl (by decide) (by repeat (first | exact Foc.here | apply Foc.there)) (SlR.of_osl (a := some ⟨b72, 0, none⟩) (by repeat (first | exact Ext.here | apply Ext.there))) (CA.ones _) (by omega)) rfl (fun _ => (by repeat (first | exact Imp.refl _ | exact Imp.none _ | apply Imp.pull (by repeat (first | exact Ext.here | apply Ext.there)) | apply Imp.trans Imp.drop))) (fun _ => Imp.refl _) (fun _ => (by repeat (first | exact Imp.refl _ | exact Imp.none _ | apply Imp.pull (by repeat (first | exact Ext.here | apply Ext.there)) | apply Imp.trans Imp.drop))) ?_
    rintro ⟨a73, c73⟩ -
    refine DG.look rfl rfl (Yield.nilCheck rfl) rfl ?_
    refine DG.look rfl rfl (Yield.fieldAddr fa84_5 rfl) rfl ?_
    refine DG.eff1 ?_
    refine Chg.eff rfl rfl (Eff.store1 ti82 rfl rfl (by repeat (first | exact Foc.here | apply Foc.there)) rfl (by simp)) rfl (fun _ => (by repeat (first | exact Imp.refl _ | exact Imp.none _ | apply Imp.pull (by repeat (first | exact Ext.here | apply Ext.there)) | apply Imp.trans Imp.drop))) (fun _ => Imp.refl _) (fun _ => (by repeat (first | exact Imp.refl _ | exact Imp.none _ | apply Imp.pull (by repeat (first | exact Ext.here | apply Ext.there)) | apply Imp.trans Imp.drop))) ?_
    rintro ⟨⟩ -
    refine DG.done ?_
    refine QG.then ?_
    refine CG.seq ?_
    refine CG.region ?_
    refine OG.yield (Yield.move rfl) rfl ?_
    refine OG.yield (Yield.nilCheck rfl) rfl ?_
    refine OG.yield (Yield.fieldAddr fa84_4 rfl) rfl ?_
    refine OG.yield (Yield.load ti35 rfl (by first | exact Cel.of_blk (by repeat (first | exact Ext.here | apply Ext.there)) rfl | exact (hrow (by repeat (first | exact Ext.here | apply Ext.there))) _ _ rfl)) rfl ?_
    refine OG.yield (Yield.assign rfl) rfl ?_
    refine OG.yield (Yield.assign rfl) rfl ?_
    refine OG.nil ?_
    refine QG.then ?_
    refine CG.ret ?_
    refine QG.ret2 rfl rfl rfl () trivial rfl (Imp.trans ?_ (hclose m a73 c73 hm))
    rw [List.length_append, flat_app]
    exact Imp.trans (Imp.trans (Imp.pull (A := m.own) (by repeat (first | exact Ext.here | apply Ext.there)) (Imp.pull (A := pool x.pl) (by repeat (first | exact Ext.here | apply Ext.there)) (Imp.refl _))) pool_add) (by repeat (first | exact Imp.refl _ | exact Imp.none _ | apply Imp.pull (by repeat (first | exact Ext.here | apply Ext.there)) | apply Imp.trans Imp.drop))
  · skip
    refine CG.region ?_
    refine OG.yield (Yield.move rfl) rfl ?_
    refine OG.yield (Yield.move rfl) rfl ?_
    refine OG.yield (Yield.nilCheck rfl) rfl ?_
    refine OG.yield (Yield.fieldAddr fa84_2 rfl) rfl ?_
    refine OG.yield (Yield.load ti3 rfl (by first | exact Cel.of_blk (by repeat (first | exact Ext.here | apply Ext.there)) rfl | exact (hrow (by repeat (first | exact Ext.here | apply Ext.there))) _ _ rfl)) rfl ?_
    refine OG.yield (Yield.sub rfl rfl (w64 (by omega) (by omega))) rfl ?_
    refine OG.callo call37 rfl (Imp.refl _) (within_spec W0 _ sector 0 (s.count - 1)) rfl ?_
    rintro ⟨⟩ -
    rw [decide_eq_true (p := 0 ≤ sector ∧ sector ≤ s.count - 1) (by omega)]
    refine OG.yield (Yield.not rfl) rfl ?_
    refine OG.yield (Yield.move rfl) rfl ?_
    refine OG.guard_yes rfl rfl rfl (by decide) ?_
    refine OG.yield (Yield.move rfl) rfl ?_
    refine OG.guard_yes rfl rfl rfl (by decide) ?_
    refine OG.callo call37 rfl (Imp.refl _) (within_spec W0 _ major 0 281474976710656) rfl ?_
    rintro ⟨⟩ -
    rw [decide_eq_true (p := 0 ≤ major ∧ major ≤ 281474976710656) (by omega)]
    refine OG.guard_yes rfl rfl rfl (by decide) ?_
    refine OG.yield (Yield.not rfl) rfl ?_
    refine OG.yield (by first | exact Yield.pick_t rfl rfl | exact Yield.pick_f rfl rfl | exact Yield.pick rfl (fun _ => rfl) (fun _ => rfl)) rfl ?_
    refine OG.yield (Yield.assign rfl) rfl ?_
    refine OG.nil ?_
    refine QG.then ?_
    refine CG.cond_f rfl ?_
    refine CG.seq ?_
    refine CG.region ?_
    refine OG.yield (Yield.move rfl) rfl ?_
    refine OG.yield (Yield.move rfl) rfl ?_
    refine OG.guard_yes rfl rfl rfl (by decide) ?_
    refine OG.yield (Yield.move rfl) rfl ?_
    refine OG.guard_yes rfl rfl rfl (by decide) ?_
    refine OG.yield (Yield.len_slice Try.underlying36 rfl rfl) rfl ?_
    refine OG.guard_yes rfl rfl rfl (by decide) ?_
    refine OG.yield (Yield.as (Yield.neq rfl rfl) (bF (by have := h3 rfl; omega))) rfl ?_
    refine OG.yield (by first | exact Yield.pick_t rfl rfl | exact Yield.pick_f rfl rfl | exact Yield.pick rfl (fun _ => rfl) (fun _ => rfl)) rfl ?_
    refine OG.yield (Yield.assign rfl) rfl ?_
    refine OG.nil ?_
    refine QG.then ?_
    refine CG.cond_f rfl ?_
    refine CG.seq ?_
    refine CG.region ?_
    refine OG.yield (Yield.move rfl) rfl ?_
    refine OG.yield (Yield.nilCheck rfl) rfl ?_
    refine OG.yield (Yield.fieldAddr fa84_5 rfl) rfl ?_
    refine OG.yield (Yield.load ti82 rfl (by first | exact Cel.of_blk (by repeat (first | exact Ext.here | apply Ext.there)) rfl | exact (hrow (by repeat (first | exact Ext.here | apply Ext.there))) _ _ rfl)) rfl ?_
    refine OG.yield (Yield.len_slice Try.underlying82 rfl rfl) rfl ?_
    refine OG.yield (by first | exact Yield.as (Yield.geq rfl rfl) (bT (by omega)) | exact Yield.as (Yield.geq rfl rfl) (bF (by omega)) | exact Yield.geq rfl rfl) rfl ?_
    refine OG.yield (Yield.assign rfl) rfl ?_
    refine OG.nil ?_
    refine QG.then ?_
    refine CG.cond_f rfl ?_
    refine CG.skip ?_
    refine QG.block_normal ?_
    refine QG.then ?_
    refine CG.seq ?_
    refine CG.seq ?_
    refine CG.region ?_
    refine OG.yield (Yield.move rfl) rfl ?_
    refine OG.yield (Yield.not rfl) rfl ?_
    refine OG.nil ?_
    refine QG.then ?_
    refine CG.cond_f rfl ?_
    refine CG.skip ?_
    refine QG.then ?_
    refine CG.seq ?_
    refine CG.region ?_
    refine OG.yield (Yield.move rfl) rfl ?_
    refine OG.yield (Yield.nilCheck rfl) rfl ?_
    refine OG.yield (Yield.fieldAddr fa84_4 rfl) rfl ?_
    refine OG.yield (Yield.load ti35 rfl (by first | exact Cel.of_blk (by repeat (first | exact Ext.here | apply Ext.there)) rfl | exact (hrow (by repeat (first | exact Ext.here | apply Ext.there))) _ _ rfl)) rfl ?_
    refine OG.yield (Yield.add rfl rfl rfl) rfl ?_
    refine OG.yield (Yield.nilCheck rfl) rfl ?_
    refine OG.yield (Yield.fieldAddr fa84_4 rfl) rfl ?_
    refine OG.eff (Eff.store1 ti35 rfl rfl (by repeat (first | exact Foc.here | apply Foc.there)) rfl (by simp)) rfl ?_
    rintro ⟨⟩ -
    refine OG.nil ?_
    refine QG.then ?_
    refine CG.seq ?_
    refine CG.draw (.look 0 0 (.look 1 0 (.look 2 0 (.look 3 0 (.look 4 2 (.look 5 0 (.look 6 0 (.look 7 0 (.look 8 2 (.look 9 0 (.look 10 0 (.look 11 0 (.look 12 1 (.look 14 0 (.look 15 0 (.look 16 0 (.look 17 0 (.look 18 2 (.look 19 0 (.eff1 13 false (.look 20 1 (.eff1 21 false (.eff1 22 false (.look 23 1 (.look 24 1 (.eff1 25 true (.done))))))))))))))))))))))))))) [13, 21, 22, 25] [4, 8, 18] ([]) ([DH d s (w32 (s.last + 1)) x.a x.cas.length x.c x.ta s.told.length x.tc]) mixed (by kernel_rfl) (Imp.none _) ((by repeat (first | exact Imp.refl _ | exact Imp.none _ | apply Imp.pull (by repeat (first | exact Ext.here | apply Ext.there)) | apply Imp.trans Imp.drop))) ?_
    refine DG.look rfl rfl (Yield.move rfl) rfl ?_
    refine DG.look rfl rfl (Yield.move rfl) rfl ?_
    refine DG.look rfl rfl (Yield.nilCheck rfl) rfl ?_
    refine DG.look rfl rfl (Yield.fieldAddr fa84_5 rfl) rfl ?_
    refine DG.look rfl rfl (Yield.load (v := .slice x.a x.cas.length x.c) ti82 rfl (Cel.of_blk (b := d) (by repeat (first | exact Ext.here | apply Ext.there)) rfl)) rfl ?_
    refine DG.look rfl rfl (Yield.move rfl) rfl ?_
    refine DG.look rfl rfl (Yield.nilCheck rfl) rfl ?_
    refine DG.look rfl rfl (Yield.fieldAddr fa84_4 rfl) rfl ?_
    refine DG.look rfl rfl (Yield.load (v := .int .u32 (w32 (s.last + 1))) ti35 rfl (Cel.of_blk (b := d) (by repeat (first | exact Ext.here | apply Ext.there)) rfl)) rfl ?_
    refine DG.look rfl rfl (Yield.move rfl) rfl ?_
    refine DG.look rfl rfl (Yield.move rfl) rfl ?_
    refine DG.look rfl rfl (Yield.move rfl) rfl ?_
    refine DG.look rfl rfl (Yield.move rfl) rfl ?_
    refine DG.look rfl rfl (Yield.move rfl) rfl ?_
    refine DG.look rfl rfl (Yield.move rfl) rfl ?_
    refine DG.look rfl rfl (Yield.nilCheck rfl) rfl ?_
    refine DG.look rfl rfl (Yield.fieldAddr fa84_3 rfl) rfl ?_
    refine DG.look rfl rfl (Yield.load (v := .int .i64 s.latency) ti3 rfl (Cel.of_blk (b := d) (by repeat (first | exact Ext.here | apply Ext.there)) rfl)) rfl ?_
    refine DG.look rfl rfl (Yield.add rfl rfl (w64 (by omega) (by omega))) rfl ?_
    refine DG.eff1 ?_
    refine Chg.callo rfl rfl call38 rfl (Imp.refl _) (cloneB_spec W0 _ (a := da) (c := dc) (bs := data) (by exact hr.imp (by repeat (first | exact Imp.refl _ | exact Imp.none _ | apply Imp.pull (by repeat (first | exact Ext.here | apply Ext.there)) | apply Imp.trans Imp.drop))) (by have := h3 rfl; omega)) rfl (fun _ => (by repeat (first | exact Imp.refl _ | exact Imp.none _ | apply Imp.pull (by repeat (first | exact Ext.here | apply Ext.there)) | apply Imp.trans Imp.drop))) (fun _ => Imp.refl _) (fun _ => (by repeat (first | exact Imp.refl _ | exact Imp.none _ | apply Imp.pull (by repeat (first | exact Ext.here | apply Ext.there)) | apply Imp.trans Imp.drop))) ?_
    rintro m hm
    refine DG.look rfl rfl (Yield.build (pvs := [(0, .int .u32 (w32 (s.last + 1))), (1, .bool true), (2, .int .i64 sector), (3, .int .u32 addr), (4, m.cell), (5, .int .i64 (major + s.latency)), (6, .int .i64 0)]) bu86 ti86 rfl (cells := CA.cells ⟨w32 (s.last + 1), true, sector, addr, m, major + s.latency, 0⟩) rfl) rfl ?_
    refine DG.eff1 ?_
    refine Chg.eff rfl rfl (Eff.lit [.tmp 71] (vs := [.agg (CA.cells ⟨w32 (s.last + 1), true, sector, addr, m, major + s.latency, 0⟩).toArray]) (cells := CA.cells ⟨w32 (s.last + 1), true, sector, addr, m, major + s.latency, 0⟩) Try.underlying82 ti86 rfl rfl rfl rfl (by decide) (by simp [Value.cells, CA.cells]) (by simp [Value.cells])) rfl (fun _ => (by repeat (first | exact Imp.refl _ | exact Imp.none _ | apply Imp.pull (by repeat (first | exact Ext.here | apply Ext.there)) | apply Imp.trans Imp.drop))) (fun _ => Imp.refl _) (fun _ => (by repeat (first | exact Imp.refl _ | exact Imp.none _ | apply Imp.pull (by repeat (first | exact Ext.here | apply Ext.there)) | apply Imp.trans Imp.drop))) ?_
    rintro b72 -
    refine DG.eff1 ?_
    refine Chg.eff rfl rfl (Eff.append (a := x.a) (c := x.c) (k := 1) (ys := CA.cells ⟨w32 (s.last + 1), true, sector, addr, m, major + s.latency, 0⟩) rfl rfl rfl Try.underlying82 Try.underlying82 ti86 rfl (by decide) (by repeat (first | exact Foc.here | apply Foc.there)) (SlR.of_osl (a := some ⟨b72, 0, none⟩) (by repeat (first | exact Ext.here | apply Ext.there))) (CA.ones _) (by omega)) rfl (fun _ => (by repeat (first | exact Imp.refl _ | exact Imp.none _ | apply Imp.pull (by repeat (first | exact Ext.here | apply Ext.there)) | apply Imp.trans Imp.drop))) (fun _ => Imp.refl _) (fun _ => (by repeat (first | exact Imp.refl _ | exact Imp.none _ | apply Imp.pull (by repeat (first | exact Ext.here | apply Ext.there)) | apply Imp.trans Imp.drop))) ?_
    rintro ⟨a73, c73⟩ -
    refine DG.look rfl rfl (Yield.nilCheck rfl) rfl ?_
    refine DG.look rfl rfl (Yield.fieldAddr fa84_5 rfl) rfl ?_
    refine DG.eff1 ?_
    refine Chg.eff rfl rfl (Eff.store1 ti82 rfl rfl (by repeat (first | exact Foc.here | apply Foc.there)) rfl (by simp)) rfl (fun _ => (by repeat (first | exact Imp.refl _ | exact Imp.none _ | apply Imp.pull (by repeat (first | exact Ext.here | apply Ext.there)) | apply Imp.trans Imp.drop))) (fun _ => Imp.refl _) (fun _ => (by repeat (first | exact Imp.refl _ | exact Imp.none _ | apply Imp.pull (by repeat (first | exact Ext.here | apply Ext.there)) | apply Imp.trans Imp.drop))) ?_
    rintro ⟨⟩ -
    refine DG.done ?_
    refine QG.then ?_
    refine CG.seq ?_
    refine CG.region ?_
    refine OG.yield (Yield.move rfl) rfl ?_
    refine OG.yield (Yield.nilCheck rfl) rfl ?_
    refine OG.yield (Yield.fieldAddr fa84_4 rfl) rfl ?_
    refine OG.yield (Yield.load ti35 rfl (by first | exact Cel.of_blk (by repeat (first | exact Ext.here | apply Ext.there)) rfl | exact (hrow (by repeat (first | exact Ext.here | apply Ext.there))) _ _ rfl)) rfl ?_
    refine OG.yield (Yield.assign rfl) rfl ?_
    refine OG.yield (Yield.assign rfl) rfl ?_
    refine OG.nil ?_
    refine QG.then ?_
    refine CG.ret ?_
    refine QG.ret2 rfl rfl rfl () trivial rfl (Imp.trans ?_ (hclose m a73 c73 hm))
    rw [List.length_append, flat_app]
    exact Imp.trans (Imp.trans (Imp.pull (A := m.own) (by repeat (first | exact Ext.here | apply Ext.there)) (Imp.pull (A := pool x.pl) (by repeat (first | exact Ext.here | apply Ext.there)) (Imp.refl _))) pool_add) (by repeat (first | exact Imp.refl _ | exact Imp.none _ | apply Imp.pull (by repeat (first | exact Ext.here | apply Ext.there)) | apply Imp.trans Imp.drop))
end
end Go.Proofs.Ytoejnhfcegchhaa.Vd
