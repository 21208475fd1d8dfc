/- A part of what the last text stands on: rules for steps of the model, and what functions of the program do. -/
import Derived.Test.YtphljkplokjonaaGreatMo3
import Derived.Test.YtphljkplokjonaaGreatRows
set_option linter.unusedSimpArgs false
set_option linter.unusedVariables false
/- vdisk.Disk as a list of asks: what each function does. -/
namespace Go.Proofs.YtphljkplokjonaaGreat.Vd
open Go Go.Sl Go.RowKit Go.Proofs Go.Proofs.YtphljkplokjonaaGreat.T Go.Proofs.YtphljkplokjonaaGreat.Ms
set_option maxRecDepth 100000
/-- A request that waits. -/
structure Ak where
  tag : Int
  write : Bool
  sector : Int
  addr : Int
  data : B
  due : Int
  st : Int
/-- .. where it lies. -/
structure CA where
  tag : Int
  write : Bool
  sector : Int
  addr : Int
  m : Msg
  due : Int
  st : Int
def CA.cells (x : CA) : List Value := [.int .u32 x.tag, .bool x.write, .int .i64 x.sector, .int .u32 x.addr, x.m.cell, .int .i64 x.due, .int .i64 x.st]
def CA.abs (x : CA) : Ak := ⟨x.tag, x.write, x.sector, x.addr, x.m.b, x.due, x.st⟩
theorem CA.len (x : CA) : x.cells.length = 7 := rfl
theorem CA.ones (x : CA) : ∀ v ∈ x.cells, one v = true := by simp [CA.cells, one, Msg.cell]
structure Ds where
  part : Int
  first : Int
  count : Int
  latency : Int
  last : Int
  asks : List Ak
  told : List Int
structure Ds.OK (s : Ds) : Prop where
  part : 0 ≤ s.part ∧ s.part ≤ 7
  first : 0 ≤ s.first ∧ s.first ≤ 1024
  count : 0 ≤ s.count ∧ s.count ≤ 1024
  lat : 1 ≤ s.latency ∧ s.latency ≤ 8
  asks : s.asks.length ≤ 4
  told : s.told.length ≤ 4
  data : ∀ a ∈ s.asks, a.data.length ≤ 64
  sec : ∀ a ∈ s.asks, 0 ≤ a.sector ∧ a.sector < s.count
structure DC where
  cas : List CA
  pl : List Msg
  a : Option Addr
  c : Nat
  ta : Option Addr
  tc : Nat
abbrev DH (d : Nat) (s : Ds) (last : Int) (a : Option Addr) (m c : Nat) (ta : Option Addr) (tm tc : Nat) : HProp :=
  blk d [.int .i64 s.part, .int .i64 s.first, .int .i64 s.count, .int .i64 s.latency, .int .u32 last, .slice a m c, .slice ta tm tc] 175
abbrev oasks (a : Option Addr) (c : Nat) (l : List CA) : HProp := osl 177 7 a c l.length ((l.map CA.cells).flatten)
abbrev DO (d : Nat) (s : Ds) (x : DC) : List HProp :=
  [DH d s s.last x.a x.cas.length x.c x.ta s.told.length x.tc, oasks x.a x.c x.cas, onum 27 .u32 x.ta x.tc s.told, pool x.pl]
structure DC.OK (x : DC) (s : Ds) : Prop where
  abs : x.cas.map CA.abs = s.asks
  mem : ∀ a ∈ x.cas, a.m ∈ x.pl
  ok : s.OK
/-- At block d lies a slice of the disk. -/
def D (d : Nat) (s : Ds) : HProp := fun h => ∃ x : DC, x.OK s ∧ Star (DO d s x) h
theorem d_open {d : Nat} {s : Ds} (y : Heaplet) (h : D d s y) : ∃ x : DC, x.OK s ∧ Star (DO d s x) y := h
theorem d_close {d : Nat} {s : Ds} {G : List HProp} (x : DC) (hx : x.OK s) : Imp (DO d s x ++ G) (D d s :: G) := Imp.trans star_close (Imp.head fun y hy => ⟨x, hx, hy⟩)
theorem d_facts {W0 : World} {G R : List HProp} {d : Nat} {s : Ds} (x : Ext G (D d s) R) (w : World) (hw : Sat W0 G w) : s.OK := by
  obtain ⟨_, _, y, hy, _⟩ := Sat.ext x hw
  exact hy.ok
theorem DC.OK.len {x : DC} {s : Ds} (h : x.OK s) : x.cas.length = s.asks.length := by rw [← h.abs]; simp
theorem DC.OK.get {x : DC} {s : Ds} (h : x.OK s) {n : Nat} {a : Ak} (ha : s.asks[n]? = some a) : ∃ c, x.cas[n]? = some c ∧ c.abs = a := by
  rw [← h.abs, List.getElem?_map] at ha
  cases hc : x.cas[n]? with
  | none => rw [hc] at ha; cases ha
  | some c => rw [hc] at ha; exact ⟨c, rfl, by simpa using ha⟩
theorem shape_as {W0 : World} {G R : List HProp} {a : Option Addr} {c n : Nat} {l : List CA} (h : n < l.length) (e : Ext G (oasks a c l) R) (w : World) (hw : Sat W0 G w) : ∃ b o, a = some ⟨b, o, none⟩ :=
  (SlR.of_osl e).elem_shape (i := n) CA.len (by decide) h w hw
section
variable (W0 : World) (Fr : List HProp)
theorem within_spec (n lo hi : Int) : Ctr Tryz.prog W0 123 [.int .i64 n, .int .i64 lo, .int .i64 hi] Fr (fun _ : Unit => True) (fun _ => .bool (decide (lo ≤ n ∧ n ≤ hi))) (fun _ => Fr) := by
  refine Ctr.of_body Tryz.func123 rfl Tryz.ntmps123 rfl ?_
  refine CG.seq ?_
  refine CG.region ?_
  refine OG.sg rfl rfl ?_
  refine OG.nil ?_
  refine QG.then ?_
  refine CG.seq ?_
  rcases (show n < lo ∨ lo ≤ n by omega) with hh | hh
  · skip
    refine CG.region ?_
    refine OG.mv rfl rfl ?_
    refine OG.mv rfl rfl ?_
    refine OG.yield Yield.geqA rfl ?_
    refine OG.mv rfl rfl ?_
    refine OG.gn rfl rfl rfl rfl rfl ?_
    refine OG.gn rfl rfl rfl rfl rfl ?_
    refine OG.gn rfl rfl rfl rfl rfl ?_
    refine OG.yield Yield.pickA rfl ?_
    refine OG.sg rfl rfl ?_
    refine OG.nil ?_
    refine QG.then ?_
    refine CG.ret ?_
    exact QG.ret1 rfl rfl () trivial (by rw [decide_eq_false (by omega)]) (Imp.refl _)
  · skip
    refine CG.region ?_
    refine OG.mv rfl rfl ?_
    refine OG.mv rfl rfl ?_
    refine OG.yield Yield.geqA rfl ?_
    refine OG.mv rfl rfl ?_
    refine OG.gy rfl rfl rfl ?_
    refine OG.mv rfl rfl ?_
    refine OG.gy rfl rfl rfl ?_
    refine OG.mv rfl rfl ?_
    refine OG.gy rfl rfl rfl ?_
    refine OG.yield (Yield.leq rfl rfl) rfl ?_
    refine OG.yield Yield.pickA rfl ?_
    refine OG.sg rfl rfl ?_
    refine OG.nil ?_
    refine QG.then ?_
    refine CG.ret ?_
    exact QG.ret1 rfl rfl () trivial (by rw [show decide (lo ≤ n ∧ n ≤ hi) = decide (n ≤ hi) by simp [hh]]) (Imp.refl _)
/-- Is a new slice refused? -/
def newBad (part first count latency : Int) : Bool := !(decide (0 ≤ part ∧ part ≤ 7)) || !(decide (0 ≤ first ∧ first ≤ 1024)) || !(decide (0 ≤ count ∧ count ≤ 1024)) || decide (1024 < first + count) || !(decide (1 ≤ latency ∧ latency ≤ 8))
theorem cloneB_spec {a : Option Addr} {c : Nat} {bs : B} (hr : RdB W0 Fr a c bs) (hb : bs.length ≤ 140737488351232) : Ctr Tryz.prog W0 94 [.slice a bs.length c] Fr (fun m : Msg => m.b = bs) (fun m => m.cell) (fun m => m.own :: Fr) := by
  refine Ctr.pure (ψ := a = none → bs = []) (fun w hw h => by
    subst h
    obtain ⟨_, h2 | ⟨_, _, h2, _⟩⟩ := (hr w hw).1
    · have := congrArg List.length h2; rw [bytesV_length] at this; exact List.length_eq_zero_iff.1 this
    · cases h2) fun hn => ?_
  refine Ctr.of_body Tryz.func94 rfl Tryz.ntmps94 rfl ?_
  refine CG.seq ?_
  refine CG.region ?_
  refine OG.sg rfl rfl ?_
  refine OG.nil ?_
  refine QG.then ?_
  refine CG.seq ?_
  refine CG.seq ?_
  rcases a with _ | ad
  · skip
    refine CG.region ?_
    refine OG.mv rfl rfl ?_
    refine OG.yield (Yield.sl_nil Tryz.underlying32 rfl rfl) rfl ?_
    refine OG.nil ?_
    refine QG.then ?_
    refine CG.cond_t rfl ?_
    refine CG.seq ?_
    refine CG.region ?_
    refine OG.sg rfl rfl ?_
    refine OG.nil ?_
    refine QG.then ?_
    refine CG.ret ?_
    refine QG.pass_ret ?_
    have hb0 := hn rfl
    subst hb0
    exact QG.ret1 rfl rfl Msg.nil rfl rfl own_nil
  · skip
    refine CG.region ?_
    refine OG.mv rfl rfl ?_
    refine OG.yield (Yield.sl_nil Tryz.underlying32 rfl rfl) rfl ?_
    refine OG.nil ?_
    refine QG.then ?_
    refine CG.cond_f rfl ?_
    refine CG.skip ?_
    refine QG.then ?_
    refine CG.seq ?_
    refine CG.region ?_
    refine OG.effd (Eff.lit0 Tryz.underlying32 ti5 rfl) rfl ?_
    rintro b5 -
    refine OG.mv rfl rfl ?_
    refine OG.effd (Eff.appendB (bs := []) (ys := bs) rfl rfl rfl Tryz.underlying32 Tryz.underlying32 ti5 (by decide) fC (hr.imp iM).slR (by simp only [List.length_nil]; omega)) rfl ?_
    rintro ⟨am, cm⟩ -
    rw [List.nil_append]
    refine OG.sg rfl rfl ?_
    refine OG.nil ?_
    refine QG.then ?_
    refine CG.ret ?_
    exact QG.ret1 rfl rfl ⟨am, cm, bs⟩ rfl rfl iM
theorem cloneU_spec {a : Option Addr} {c : Nat} {l : List Int} (hr : SlR W0 Fr 1 a l.length (intsV .u32 l)) (hb : l.length ≤ 2 ^ 20) : Ctr Tryz.prog W0 92 [.slice a l.length c] Fr (fun _ : Option Addr × Nat => True) (fun q => .slice q.1 l.length q.2) (fun q => onum 27 .u32 q.1 q.2 l :: Fr) := by
  refine Ctr.pure (ψ := a = none → l = []) (fun w hw h => by
    subst h
    obtain ⟨_, h2 | ⟨_, _, h2, _⟩⟩ := hr w hw
    · have := congrArg List.length h2; rw [intsV_len] at this; exact List.length_eq_zero_iff.1 this
    · cases h2) fun hn => ?_
  refine Ctr.of_body Tryz.func92 rfl Tryz.ntmps92 rfl ?_
  refine CG.seq ?_
  refine CG.region ?_
  refine OG.sg rfl rfl ?_
  refine OG.nil ?_
  refine QG.then ?_
  refine CG.seq ?_
  refine CG.seq ?_
  rcases a with _ | ad
  · skip
    refine CG.region ?_
    refine OG.mv rfl rfl ?_
    refine OG.yield (Yield.sl_nil Tryz.underlying37 rfl rfl) rfl ?_
    refine OG.nil ?_
    refine QG.then ?_
    refine CG.cond_t rfl ?_
    refine CG.seq ?_
    refine CG.region ?_
    refine OG.sg rfl rfl ?_
    refine OG.nil ?_
    refine QG.then ?_
    refine CG.ret ?_
    refine QG.pass_ret ?_
    have hb0 := hn rfl
    subst hb0
    exact QG.ret1 rfl rfl (none, 0) trivial rfl osl_nil
  · skip
    refine CG.region ?_
    refine OG.mv rfl rfl ?_
    refine OG.yield (Yield.sl_nil Tryz.underlying37 rfl rfl) rfl ?_
    refine OG.nil ?_
    refine QG.then ?_
    refine CG.cond_f rfl ?_
    refine CG.skip ?_
    refine QG.then ?_
    refine CG.seq ?_
    refine CG.region ?_
    refine OG.effd (Eff.lit0 Tryz.underlying37 ti27 rfl) rfl ?_
    rintro b5 -
    refine OG.mv rfl rfl ?_
    refine OG.effd (Eff.append (a := some ⟨b5, 0, none⟩) (c := 0) (m := 0) (xs := []) (k := l.length) (ys := intsV .u32 l) rfl rfl rfl Tryz.underlying37 Tryz.underlying37 ti27 rfl (by decide) fC (hr.imp iM) (intsV_ones _ _) (by omega)) rfl ?_
    rintro ⟨am, cm⟩ -
    rw [Nat.zero_add, List.nil_append]
    refine OG.sg rfl rfl ?_
    refine OG.nil ?_
    refine QG.then ?_
    refine CG.ret ?_
    exact QG.ret1 rfl rfl (am, cm) trivial rfl iM
theorem new_ok {part first count latency : Int} (h : newBad part first count latency = false) : Ctr Tryz.prog W0 58 [.int .i64 part, .int .i64 first, .int .i64 count, .int .i64 latency] Fr (fun _ : Nat => True) (fun d => .tuple #[.pointer (some ⟨d, 0, none⟩), .int .i64 0]) (fun d => D d ⟨part, first, count, latency, 0, [], []⟩ :: Fr) := by
  unfold newBad at h
  simp only [Bool.or_eq_false_iff, Bool.not_eq_false', decide_eq_false_iff_not, decide_eq_true_eq] at h
  obtain ⟨⟨⟨⟨h1, h2⟩, h3⟩, h4⟩, h5⟩ := h
  refine Ctr.of_body Tryz.func58 rfl Tryz.ntmps58 rfl ?_
  refine CG.seq ?_
  refine CG.region ?_
  refine OG.sg rfl rfl ?_
  refine OG.sg rfl rfl ?_
  refine OG.nil ?_
  refine QG.then ?_
  refine CG.seq ?_
  refine CG.seq ?_
  refine CG.region ?_
  refine OG.mv rfl rfl ?_
  refine OG.callo call123 rfl (Imp.refl _) (within_spec W0 _ part 0 7) rfl ?_
  rintro ⟨⟩ -
  rw [decide_eq_true (p := 0 ≤ part ∧ part ≤ 7) (by omega)]
  refine OG.yield (Yield.not rfl) rfl ?_
  refine OG.mv rfl rfl ?_
  refine OG.gy rfl rfl rfl ?_
  refine OG.mv rfl rfl ?_
  refine OG.gy rfl rfl rfl ?_
  refine OG.callo call123 rfl (Imp.refl _) (within_spec W0 _ first 0 1024) rfl ?_
  rintro ⟨⟩ -
  rw [decide_eq_true (p := 0 ≤ first ∧ first ≤ 1024) (by omega)]
  refine OG.gy rfl rfl rfl ?_
  refine OG.yield (Yield.not rfl) rfl ?_
  refine OG.yield Yield.pickA rfl ?_
  refine OG.mv rfl rfl ?_
  refine OG.gy rfl rfl rfl ?_
  refine OG.mv rfl rfl ?_
  refine OG.gy rfl rfl rfl ?_
  refine OG.callo call123 rfl (Imp.refl _) (within_spec W0 _ count 0 1024) rfl ?_
  rintro ⟨⟩ -
  rw [decide_eq_true (p := 0 ≤ count ∧ count ≤ 1024) (by omega)]
  refine OG.gy rfl rfl rfl ?_
  refine OG.yield (Yield.not rfl) rfl ?_
  refine OG.yield Yield.pickA rfl ?_
  refine OG.mv rfl rfl ?_
  refine OG.gy rfl rfl rfl ?_
  refine OG.mv rfl rfl ?_
  refine OG.gy rfl rfl rfl ?_
  refine OG.mv rfl rfl ?_
  refine OG.gy rfl rfl rfl ?_
  refine OG.yield (Yield.add rfl rfl (w64 (by omega) (by omega))) rfl ?_
  refine OG.gy rfl rfl rfl ?_
  refine OG.yield Yield.gtrA rfl ?_
  refine OG.yield Yield.pickA rfl ?_
  refine OG.mv rfl rfl ?_
  refine OG.gy rfl rfl rfl ?_
  refine OG.mv rfl rfl ?_
  refine OG.gy rfl rfl rfl ?_
  refine OG.callo call123 rfl (Imp.refl _) (within_spec W0 _ latency 1 8) rfl ?_
  rintro ⟨⟩ -
  rw [decide_eq_true (p := 1 ≤ latency ∧ latency ≤ 8) (by omega)]
  refine OG.gy rfl rfl rfl ?_
  refine OG.yield (Yield.not rfl) rfl ?_
  refine OG.yield Yield.pickA rfl ?_
  refine OG.nil ?_
  refine QG.then ?_
  refine CG.cond_f rfl ?_
  refine CG.skip ?_
  refine QG.then ?_
  refine CG.seq ?_
  refine CG.region ?_
  refine OG.mv rfl rfl ?_
  refine OG.mv rfl rfl ?_
  refine OG.mv rfl rfl ?_
  refine OG.mv rfl rfl ?_
  refine OG.yield (Yield.build (pvs := [(0, .int .i64 part), (1, .int .i64 first), (2, .int .i64 count), (3, .int .i64 latency)]) bu175 ti175 rfl (cells := [.int .i64 part, .int .i64 first, .int .i64 count, .int .i64 latency, .int .u32 0, .slice none 0 0, .slice none 0 0]) rfl) rfl ?_
  refine OG.effd (Eff.box rfl) rfl ?_
  rintro b39 -
  refine OG.sg rfl rfl ?_
  refine OG.sg rfl rfl ?_
  refine OG.nil ?_
  refine QG.then ?_
  refine CG.ret ?_
  have hcl := d_close (d := b39) (G := Fr) (s := ⟨part, first, count, latency, 0, [], []⟩) ⟨[], [], none, 0, none, 0⟩ ⟨rfl, fun a h => absurd h List.not_mem_nil, ⟨h1, h2, h3, h5, Nat.zero_le _, Nat.zero_le _, fun a h => absurd h List.not_mem_nil, fun a h => absurd h List.not_mem_nil⟩⟩
  exact QG.ret2 rfl rfl rfl b39 trivial rfl (Imp.trans (Imp.trans pool_nil (Imp.trans (osl_nil (E := 27) (sz := 1)) (Imp.trans (osl_nil (E := 177) (sz := 7)) iM))) hcl)
/-- What a submission is answered. -/
def subE (s : Ds) (write : Bool) (sector : Int) (len : Nat) (major : Int) : Int :=
  if ¬(0 ≤ sector ∧ sector ≤ s.count - 1) then 2 else if ¬(0 ≤ major ∧ major ≤ 281474976710656) then 2 else if write = true ∧ len ≠ 64 then 6 else if 4 ≤ s.asks.length then 4 else 0
theorem submit_bad {d dm dc : Nat} {s : Ds} {write : Bool} {sector addr major : Int} {da : Option Addr} (he : subE s write sector dm major ≠ 0) :
    Ctr Tryz.prog W0 91 [.pointer (some ⟨d, 0, none⟩), .bool write, .int .i64 sector, .int .u32 addr, .slice da dm dc, .int .i64 major] (D d s :: Fr) (fun _ : Unit => True) (fun _ => .tuple #[.int .u32 0, .int .i64 (subE s write sector dm major)]) (fun _ => D d s :: Fr) := by
  refine Ctr.ex Ext.here d_open ?_
  intro x hx
  refine Ctr.imp star_open ?_
  have hln := hx.len
  have hcnt := hx.ok.count
  have hcl := d_close (d := d) (G := Fr) x hx
  dsimp only [DO, List.cons_append, List.nil_append] at hcl ⊢
  refine Ctr.of_body Tryz.func91 rfl Tryz.ntmps91 rfl ?_
  refine CG.seq ?_
  refine CG.region ?_
  refine OG.sg rfl rfl ?_
  refine OG.sg rfl rfl ?_
  refine OG.nil ?_
  refine QG.then ?_
  refine CG.seq ?_
  refine CG.block ?_
  refine CG.seq ?_
  rcases (show ¬(0 ≤ sector ∧ sector ≤ s.count - 1) ∨ ((0 ≤ sector ∧ sector ≤ s.count - 1) ∧ ¬(0 ≤ major ∧ major ≤ 281474976710656)) ∨ ((0 ≤ sector ∧ sector ≤ s.count - 1) ∧ (0 ≤ major ∧ major ≤ 281474976710656) ∧ write = true ∧ dm ≠ 64) ∨ ((0 ≤ sector ∧ sector ≤ s.count - 1) ∧ (0 ≤ major ∧ major ≤ 281474976710656) ∧ write = false ∧ 4 ≤ s.asks.length) ∨ ((0 ≤ sector ∧ sector ≤ s.count - 1) ∧ (0 ≤ major ∧ major ≤ 281474976710656) ∧ (write = true ∧ dm = 64) ∧ 4 ≤ s.asks.length) by unfold subE at he; cases write <;> (simp only [true_and, false_and, if_false, reduceCtorEq] at he ⊢; (repeat' split at he) <;> first | omega | exact absurd rfl he)) with hh | hh | ⟨hh1, hh2, rfl, hh⟩ | ⟨hh1, hh2, rfl, hh⟩ | ⟨hh1, hh2, ⟨rfl, hh3⟩, hh⟩
  · skip
    refine CG.region ?_
    refine OG.mv rfl rfl ?_
    refine OG.mv rfl rfl ?_
    refine OG.yield (Yield.nilCheck rfl) rfl ?_
    refine OG.yield (Yield.fieldAddr fa175_2 rfl) rfl ?_
    refine OG.yield (Yield.load ti3 rfl (by first | exact Cel.of_blk eX rfl | exact (hrow eX) _ _ rfl)) rfl ?_
    refine OG.yield (Yield.sub rfl rfl (w64 (by omega) (by omega))) rfl ?_
    refine OG.callo call123 rfl (Imp.refl _) (within_spec W0 _ sector 0 (s.count - 1)) rfl ?_
    rintro ⟨⟩ -
    first | rw [decide_eq_true (p := 0 ≤ sector ∧ sector ≤ s.count - 1) (by omega)] | rw [decide_eq_false (p := 0 ≤ sector ∧ sector ≤ s.count - 1) (by omega)]
    refine OG.yield (Yield.not rfl) rfl ?_
    refine OG.mv rfl rfl ?_
    refine OG.gn rfl rfl rfl rfl rfl ?_
    refine OG.gn rfl rfl rfl rfl rfl ?_
    refine OG.gn rfl rfl rfl rfl rfl ?_
    refine OG.yield Yield.pickA rfl ?_
    refine OG.sg rfl rfl ?_
    refine OG.nil ?_
    refine QG.then ?_
    refine CG.cond_t rfl ?_
    refine CG.seq ?_
    refine CG.region ?_
    refine OG.sg rfl rfl ?_
    refine OG.sg rfl rfl ?_
    refine OG.nil ?_
    refine QG.then ?_
    refine CG.ret ?_
    refine QG.block_ret ?_
    refine QG.pass_ret ?_
    exact QG.ret2 rfl rfl rfl () trivial (by unfold subE; rw [if_pos hh]) (Imp.trans iM hcl)
  · skip
    refine CG.region ?_
    refine OG.mv rfl rfl ?_
    refine OG.mv rfl rfl ?_
    refine OG.yield (Yield.nilCheck rfl) rfl ?_
    refine OG.yield (Yield.fieldAddr fa175_2 rfl) rfl ?_
    refine OG.yield (Yield.load ti3 rfl (by first | exact Cel.of_blk eX rfl | exact (hrow eX) _ _ rfl)) rfl ?_
    refine OG.yield (Yield.sub rfl rfl (w64 (by omega) (by omega))) rfl ?_
    refine OG.callo call123 rfl (Imp.refl _) (within_spec W0 _ sector 0 (s.count - 1)) rfl ?_
    rintro ⟨⟩ -
    first | rw [decide_eq_true (p := 0 ≤ sector ∧ sector ≤ s.count - 1) (by omega)] | rw [decide_eq_false (p := 0 ≤ sector ∧ sector ≤ s.count - 1) (by omega)]
    refine OG.yield (Yield.not rfl) rfl ?_
    refine OG.mv rfl rfl ?_
    refine OG.gy rfl rfl rfl ?_
    refine OG.mv rfl rfl ?_
    refine OG.gy rfl rfl rfl ?_
    refine OG.callo call123 rfl (Imp.refl _) (within_spec W0 _ major 0 281474976710656) rfl ?_
    rintro ⟨⟩ -
    first | rw [decide_eq_true (p := 0 ≤ major ∧ major ≤ 281474976710656) (by omega)] | rw [decide_eq_false (p := 0 ≤ major ∧ major ≤ 281474976710656) (by omega)]
    refine OG.gy rfl rfl rfl ?_
    refine OG.yield (Yield.not rfl) rfl ?_
    refine OG.yield Yield.pickA rfl ?_
    refine OG.sg rfl rfl ?_
    refine OG.nil ?_
    refine QG.then ?_
    refine CG.cond_t rfl ?_
    refine CG.seq ?_
    refine CG.region ?_
    refine OG.sg rfl rfl ?_
    refine OG.sg rfl rfl ?_
    refine OG.nil ?_
    refine QG.then ?_
    refine CG.ret ?_
    refine QG.block_ret ?_
    refine QG.pass_ret ?_
    exact QG.ret2 rfl rfl rfl () trivial (by unfold subE; rw [if_neg (not_not_intro hh.1), if_pos hh.2]) (Imp.trans iM hcl)
  · skip
    refine CG.region ?_
    refine OG.mv rfl rfl ?_
    refine OG.mv rfl rfl ?_
    refine OG.yield (Yield.nilCheck rfl) rfl ?_
    refine OG.yield (Yield.fieldAddr fa175_2 rfl) rfl ?_
    refine OG.yield (Yield.load ti3 rfl (by first | exact Cel.of_blk eX rfl | exact (hrow eX) _ _ rfl)) rfl ?_
    refine OG.yield (Yield.sub rfl rfl (w64 (by omega) (by omega))) rfl ?_
    refine OG.callo call123 rfl (Imp.refl _) (within_spec W0 _ sector 0 (s.count - 1)) rfl ?_
    rintro ⟨⟩ -
    first | rw [decide_eq_true (p := 0 ≤ sector ∧ sector ≤ s.count - 1) (by omega)] | rw [decide_eq_false (p := 0 ≤ sector ∧ sector ≤ s.count - 1) (by omega)]
    refine OG.yield (Yield.not rfl) rfl ?_
    refine OG.mv rfl rfl ?_
    refine OG.gy rfl rfl rfl ?_
    refine OG.mv rfl rfl ?_
    refine OG.gy rfl rfl rfl ?_
    refine OG.callo call123 rfl (Imp.refl _) (within_spec W0 _ major 0 281474976710656) rfl ?_
    rintro ⟨⟩ -
    first | rw [decide_eq_true (p := 0 ≤ major ∧ major ≤ 281474976710656) (by omega)] | rw [decide_eq_false (p := 0 ≤ major ∧ major ≤ 281474976710656) (by omega)]
    refine OG.gy rfl rfl rfl ?_
    refine OG.yield (Yield.not rfl) rfl ?_
    refine OG.yield Yield.pickA rfl ?_
    refine OG.sg rfl rfl ?_
    refine OG.nil ?_
    refine QG.then ?_
    refine CG.cond_f rfl ?_
    refine CG.seq ?_
    refine CG.region ?_
    refine OG.mv rfl rfl ?_
    refine OG.mv rfl rfl ?_
    refine OG.gy rfl rfl rfl ?_
    refine OG.mv rfl rfl ?_
    refine OG.gy rfl rfl rfl ?_
    refine OG.yield (Yield.len_slice Tryz.underlying32 rfl rfl) rfl ?_
    refine OG.gy rfl rfl rfl ?_
    refine OG.yield Yield.neqA rfl ?_
    refine OG.yield Yield.pickA rfl ?_
    refine OG.sg rfl rfl ?_
    refine OG.nil ?_
    refine QG.then ?_
    refine CG.cond_t rfl ?_
    refine CG.seq ?_
    refine CG.region ?_
    refine OG.sg rfl rfl ?_
    refine OG.sg rfl rfl ?_
    refine OG.nil ?_
    refine QG.then ?_
    refine CG.ret ?_
    refine QG.block_ret ?_
    refine QG.pass_ret ?_
    exact QG.ret2 rfl rfl rfl () trivial (by unfold subE; rw [if_neg (not_not_intro hh1), if_neg (not_not_intro hh2), if_pos ⟨rfl, hh⟩]) (Imp.trans iM hcl)
  · skip
    refine CG.region ?_
    refine OG.mv rfl rfl ?_
    refine OG.mv rfl rfl ?_
    refine OG.yield (Yield.nilCheck rfl) rfl ?_
    refine OG.yield (Yield.fieldAddr fa175_2 rfl) rfl ?_
    refine OG.yield (Yield.load ti3 rfl (by first | exact Cel.of_blk eX rfl | exact (hrow eX) _ _ rfl)) rfl ?_
    refine OG.yield (Yield.sub rfl rfl (w64 (by omega) (by omega))) rfl ?_
    refine OG.callo call123 rfl (Imp.refl _) (within_spec W0 _ sector 0 (s.count - 1)) rfl ?_
    rintro ⟨⟩ -
    first | rw [decide_eq_true (p := 0 ≤ sector ∧ sector ≤ s.count - 1) (by omega)] | rw [decide_eq_false (p := 0 ≤ sector ∧ sector ≤ s.count - 1) (by omega)]
    refine OG.yield (Yield.not rfl) rfl ?_
    refine OG.mv rfl rfl ?_
    refine OG.gy rfl rfl rfl ?_
    refine OG.mv rfl rfl ?_
    refine OG.gy rfl rfl rfl ?_
    refine OG.callo call123 rfl (Imp.refl _) (within_spec W0 _ major 0 281474976710656) rfl ?_
    rintro ⟨⟩ -
    first | rw [decide_eq_true (p := 0 ≤ major ∧ major ≤ 281474976710656) (by omega)] | rw [decide_eq_false (p := 0 ≤ major ∧ major ≤ 281474976710656) (by omega)]
    refine OG.gy rfl rfl rfl ?_
    refine OG.yield (Yield.not rfl) rfl ?_
    refine OG.yield Yield.pickA rfl ?_
    refine OG.sg rfl rfl ?_
    refine OG.nil ?_
    refine QG.then ?_
    refine CG.cond_f rfl ?_
    refine CG.seq ?_
    refine CG.region ?_
    refine OG.mv rfl rfl ?_
    refine OG.mv rfl rfl ?_
    refine OG.gn rfl rfl rfl rfl rfl ?_
    refine OG.gn rfl rfl rfl rfl rfl ?_
    refine OG.gn rfl rfl rfl rfl rfl ?_
    refine OG.yield Yield.pickA rfl ?_
    refine OG.sg rfl rfl ?_
    refine OG.nil ?_
    refine QG.then ?_
    refine CG.cond_f rfl ?_
    refine CG.seq ?_
    refine CG.region ?_
    refine OG.mv rfl rfl ?_
    refine OG.yield (Yield.nilCheck rfl) rfl ?_
    refine OG.yield (Yield.fieldAddr fa175_5 rfl) rfl ?_
    refine OG.yield (Yield.load ti173 rfl (by first | exact Cel.of_blk eX rfl | exact (hrow eX) _ _ rfl)) rfl ?_
    refine OG.yield (Yield.len_slice Tryz.underlying173 rfl rfl) rfl ?_
    refine OG.yield Yield.geqA rfl ?_
    refine OG.sg rfl rfl ?_
    refine OG.nil ?_
    refine QG.then ?_
    refine CG.cond_t rfl ?_
    refine CG.seq ?_
    refine CG.region ?_
    refine OG.sg rfl rfl ?_
    refine OG.sg rfl rfl ?_
    refine OG.nil ?_
    refine QG.then ?_
    refine CG.ret ?_
    refine QG.block_ret ?_
    refine QG.pass_ret ?_
    exact QG.ret2 rfl rfl rfl () trivial (by unfold subE; rw [if_neg (not_not_intro hh1), if_neg (not_not_intro hh2), if_neg (by simp), if_pos hh]) (Imp.trans iM hcl)
  · skip
    refine CG.region ?_
    refine OG.mv rfl rfl ?_
    refine OG.mv rfl rfl ?_
    refine OG.yield (Yield.nilCheck rfl) rfl ?_
    refine OG.yield (Yield.fieldAddr fa175_2 rfl) rfl ?_
    refine OG.yield (Yield.load ti3 rfl (by first | exact Cel.of_blk eX rfl | exact (hrow eX) _ _ rfl)) rfl ?_
    refine OG.yield (Yield.sub rfl rfl (w64 (by omega) (by omega))) rfl ?_
    refine OG.callo call123 rfl (Imp.refl _) (within_spec W0 _ sector 0 (s.count - 1)) rfl ?_
    rintro ⟨⟩ -
    first | rw [decide_eq_true (p := 0 ≤ sector ∧ sector ≤ s.count - 1) (by omega)] | rw [decide_eq_false (p := 0 ≤ sector ∧ sector ≤ s.count - 1) (by omega)]
    refine OG.yield (Yield.not rfl) rfl ?_
    refine OG.mv rfl rfl ?_
    refine OG.gy rfl rfl rfl ?_
    refine OG.mv rfl rfl ?_
    refine OG.gy rfl rfl rfl ?_
    refine OG.callo call123 rfl (Imp.refl _) (within_spec W0 _ major 0 281474976710656) rfl ?_
    rintro ⟨⟩ -
    first | rw [decide_eq_true (p := 0 ≤ major ∧ major ≤ 281474976710656) (by omega)] | rw [decide_eq_false (p := 0 ≤ major ∧ major ≤ 281474976710656) (by omega)]
    refine OG.gy rfl rfl rfl ?_
    refine OG.yield (Yield.not rfl) rfl ?_
    refine OG.yield Yield.pickA rfl ?_
    refine OG.sg rfl rfl ?_
    refine OG.nil ?_
    refine QG.then ?_
    refine CG.cond_f rfl ?_
    refine CG.seq ?_
    refine CG.region ?_
    refine OG.mv rfl rfl ?_
    refine OG.mv rfl rfl ?_
    refine OG.gy rfl rfl rfl ?_
    refine OG.mv rfl rfl ?_
    refine OG.gy rfl rfl rfl ?_
    refine OG.yield (Yield.len_slice Tryz.underlying32 rfl rfl) rfl ?_
    refine OG.gy rfl rfl rfl ?_
    refine OG.yield Yield.neqA rfl ?_
    refine OG.yield Yield.pickA rfl ?_
    refine OG.sg rfl rfl ?_
    refine OG.nil ?_
    refine QG.then ?_
    refine CG.cond_f rfl ?_
    refine CG.seq ?_
    refine CG.region ?_
    refine OG.mv rfl rfl ?_
    refine OG.yield (Yield.nilCheck rfl) rfl ?_
    refine OG.yield (Yield.fieldAddr fa175_5 rfl) rfl ?_
    refine OG.yield (Yield.load ti173 rfl (by first | exact Cel.of_blk eX rfl | exact (hrow eX) _ _ rfl)) rfl ?_
    refine OG.yield (Yield.len_slice Tryz.underlying173 rfl rfl) rfl ?_
    refine OG.yield Yield.geqA rfl ?_
    refine OG.sg rfl rfl ?_
    refine OG.nil ?_
    refine QG.then ?_
    refine CG.cond_t rfl ?_
    refine CG.seq ?_
    refine CG.region ?_
    refine OG.sg rfl rfl ?_
    refine OG.sg rfl rfl ?_
    refine OG.nil ?_
    refine QG.then ?_
    refine CG.ret ?_
    refine QG.block_ret ?_
    refine QG.pass_ret ?_
    exact QG.ret2 rfl rfl rfl () trivial (by unfold subE; rw [if_neg (not_not_intro hh1), if_neg (not_not_intro hh2), if_neg (by simp [hh3]), if_pos hh]) (Imp.trans iM hcl)
def w32 (n : Int) : Int := IntKind.u32.wrap n
/-- The slice behind a request that was taken. -/
def subR (s : Ds) (write : Bool) (sector addr : Int) (data : B) (major : Int) : Ds :=
  { s with last := w32 (s.last + 1), asks := s.asks ++ [⟨w32 (s.last + 1), write, sector, addr, if write then data else [], major + s.latency, 0⟩] }
set_option maxHeartbeats 1000000 in
theorem submit_ok {d dc : Nat} {s : Ds} {write : Bool} {sector addr major : Int} {da : Option Addr} {data : B} (hr : RdB W0 Fr da dc data) (hdl : data.length ≤ 2 ^ 47) (he : subE s write sector data.length major = 0) :
    Ctr Tryz.prog W0 91 [.pointer (some ⟨d, 0, none⟩), .bool write, .int .i64 sector, .int .u32 addr, .slice da data.length dc, .int .i64 major] (D d s :: Fr) (fun _ : Unit => True) (fun _ => .tuple #[.int .u32 (w32 (s.last + 1)), .int .i64 0]) (fun _ => D d (subR s write sector addr data major) :: Fr) := by
  refine Ctr.ex Ext.here d_open ?_
  intro x hx
  refine Ctr.imp star_open ?_
  have hln := hx.len
  have hok := hx.ok
  have hcnt := hx.ok.count
  have hlat := hx.ok.lat
  obtain ⟨h1, h2, h3, h4⟩ : (0 ≤ sector ∧ sector ≤ s.count - 1) ∧ (0 ≤ major ∧ major ≤ 281474976710656) ∧ (write = true → data.length = 64) ∧ s.asks.length < 4 := by
    unfold subE at he
    cases write <;> (simp only [true_and, false_and, if_false, reduceCtorEq] at he; (repeat' split at he) <;> first | omega | (refine ⟨by omega, by omega, ?_, by omega⟩; intro _; first | omega | contradiction))
  have hclose : ∀ (m : Msg) (a' : Option Addr) (c' : Nat), m.b = (if write then data else []) → Imp (DO d (subR s write sector addr data major) ⟨x.cas ++ [⟨w32 (s.last + 1), write, sector, addr, m, major + s.latency, 0⟩], x.pl ++ [m], a', c', x.ta, x.tc⟩ ++ Fr) (D d (subR s write sector addr data major) :: Fr) := by
    intro m a' c' hm
    refine d_close _ ⟨?_, ?_, ⟨hok.part, hok.first, hok.count, hok.lat, ?_, hok.told, ?_, ?_⟩⟩
    · dsimp only [subR]; rw [List.map_append, hx.abs]; simp [CA.abs, hm]
    · intro a ha
      rcases List.mem_append.1 ha with ha | ha
      · exact List.mem_append.2 (.inl (hx.mem a ha))
      · simp only [List.mem_cons, List.not_mem_nil, or_false] at ha; subst ha; simp
    · dsimp only [subR]; rw [List.length_append]; simp only [List.length_cons, List.length_nil]; omega
    · intro a ha
      rcases List.mem_append.1 ha with ha | ha
      · exact hok.data a ha
      · simp only [List.mem_cons, List.not_mem_nil, or_false] at ha; subst ha
        dsimp only
        split
        · rename_i hw; rw [h3 hw]; exact Nat.le_refl _
        · simp
    · intro a ha
      rcases List.mem_append.1 ha with ha | ha
      · exact hok.sec a ha
      · simp only [List.mem_cons, List.not_mem_nil, or_false] at ha; subst ha; dsimp only [subR]; omega
  dsimp only [DO, subR, oasks, List.cons_append, List.nil_append] at hclose ⊢
  refine Ctr.of_body Tryz.func91 rfl Tryz.ntmps91 rfl ?_
  refine CG.seq ?_
  refine CG.region ?_
  refine OG.sg rfl rfl ?_
  refine OG.sg rfl rfl ?_
  refine OG.nil ?_
  refine QG.then ?_
  refine CG.seq ?_
  refine CG.block ?_
  refine CG.seq ?_
  cases write
  · skip
    refine CG.region ?_
    refine OG.mv rfl rfl ?_
    refine OG.mv rfl rfl ?_
    refine OG.yield (Yield.nilCheck rfl) rfl ?_
    refine OG.yield (Yield.fieldAddr fa175_2 rfl) rfl ?_
    refine OG.yield (Yield.load ti3 rfl (by first | exact Cel.of_blk eX rfl | exact (hrow eX) _ _ rfl)) rfl ?_
    refine OG.yield (Yield.sub rfl rfl (w64 (by omega) (by omega))) rfl ?_
    refine OG.callo call123 rfl (Imp.refl _) (within_spec W0 _ sector 0 (s.count - 1)) rfl ?_
    rintro ⟨⟩ -
    rw [decide_eq_true (p := 0 ≤ sector ∧ sector ≤ s.count - 1) (by omega)]
    refine OG.yield (Yield.not rfl) rfl ?_
    refine OG.mv rfl rfl ?_
    refine OG.gy rfl rfl rfl ?_
    refine OG.mv rfl rfl ?_
    refine OG.gy rfl rfl rfl ?_
    refine OG.callo call123 rfl (Imp.refl _) (within_spec W0 _ major 0 281474976710656) rfl ?_
    rintro ⟨⟩ -
    rw [decide_eq_true (p := 0 ≤ major ∧ major ≤ 281474976710656) (by omega)]
    refine OG.gy rfl rfl rfl ?_
    refine OG.yield (Yield.not rfl) rfl ?_
    refine OG.yield Yield.pickA rfl ?_
    refine OG.sg rfl rfl ?_
    refine OG.nil ?_
    refine QG.then ?_
    refine CG.cond_f rfl ?_
    refine CG.seq ?_
    refine CG.region ?_
    refine OG.mv rfl rfl ?_
    refine OG.mv rfl rfl ?_
    refine OG.gn rfl rfl rfl rfl rfl ?_
    refine OG.gn rfl rfl rfl rfl rfl ?_
    refine OG.gn rfl rfl rfl rfl rfl ?_
    refine OG.yield Yield.pickA rfl ?_
    refine OG.sg rfl rfl ?_
    refine OG.nil ?_
    refine QG.then ?_
    refine CG.cond_f rfl ?_
    refine CG.seq ?_
    refine CG.region ?_
    refine OG.mv rfl rfl ?_
    refine OG.yield (Yield.nilCheck rfl) rfl ?_
    refine OG.yield (Yield.fieldAddr fa175_5 rfl) rfl ?_
    refine OG.yield (Yield.load ti173 rfl (by first | exact Cel.of_blk eX rfl | exact (hrow eX) _ _ rfl)) rfl ?_
    refine OG.yield (Yield.len_slice Tryz.underlying173 rfl rfl) rfl ?_
    refine OG.yield Yield.geqA rfl ?_
    refine OG.sg rfl rfl ?_
    refine OG.nil ?_
    refine QG.then ?_
    refine CG.cond_f rfl ?_
    refine CG.skip ?_
    refine QG.block_normal ?_
    refine QG.then ?_
    refine CG.seq ?_
    refine CG.seq ?_
    refine CG.region ?_
    refine OG.mv rfl rfl ?_
    refine OG.yield (Yield.not rfl) rfl ?_
    refine OG.nil ?_
    refine QG.then ?_
    refine CG.cond_t rfl ?_
    refine CG.region ?_
    refine OG.sg rfl rfl ?_
    refine OG.nil ?_
    refine QG.then ?_
    refine CG.seq ?_
    refine CG.region ?_
    refine OG.mv rfl rfl ?_
    refine OG.yield (Yield.nilCheck rfl) rfl ?_
    refine OG.yield (Yield.fieldAddr fa175_4 rfl) rfl ?_
    refine OG.yield (Yield.load ti27 rfl (by first | exact Cel.of_blk eX rfl | exact (hrow eX) _ _ rfl)) rfl ?_
    refine OG.yield (Yield.add rfl rfl rfl) rfl ?_
    refine OG.yield (Yield.nilCheck rfl) rfl ?_
    refine OG.yield (Yield.fieldAddr fa175_4 rfl) rfl ?_
    refine OG.eff (Eff.store1 ti27 rfl rfl fC rfl (by first | (simp; done) | decide)) rfl ?_
    rintro ⟨⟩ -
    refine OG.nil ?_
    refine QG.then ?_
    refine CG.seq ?_
    refine CG.draw (.look 0 0 (.look 1 0 (.look 2 0 (.look 3 0 (.look 4 2 (.look 5 0 (.look 6 0 (.look 7 0 (.look 8 2 (.look 9 0 (.look 10 0 (.look 11 0 (.look 12 1 (.look 14 0 (.look 15 0 (.look 16 0 (.look 17 0 (.look 18 2 (.look 19 0 (.eff1 13 false (.look 20 1 (.eff1 21 false (.eff1 22 false (.look 23 1 (.look 24 1 (.eff1 25 true (.done))))))))))))))))))))))))))) [13, 21, 22, 25] [4, 8, 18] ([]) ([DH d s (w32 (s.last + 1)) x.a x.cas.length x.c x.ta s.told.length x.tc]) mixed (by kernel_rfl) (Imp.none _) (iM) ?_
    refine DG.look rfl rfl (Yield.move rfl) rfl ?_
    refine DG.look rfl rfl (Yield.move rfl) rfl ?_
    refine DG.look rfl rfl (Yield.nilCheck rfl) rfl ?_
    refine DG.look rfl rfl (Yield.fieldAddr fa175_5 rfl) rfl ?_
    refine DG.look rfl rfl (Yield.load (v := .slice x.a x.cas.length x.c) ti173 rfl (Cel.of_blk (b := d) eX rfl)) rfl ?_
    refine DG.look rfl rfl (Yield.move rfl) rfl ?_
    refine DG.look rfl rfl (Yield.nilCheck rfl) rfl ?_
    refine DG.look rfl rfl (Yield.fieldAddr fa175_4 rfl) rfl ?_
    refine DG.look rfl rfl (Yield.load (v := .int .u32 (w32 (s.last + 1))) ti27 rfl (Cel.of_blk (b := d) eX rfl)) rfl ?_
    refine DG.look rfl rfl (Yield.move rfl) rfl ?_
    refine DG.look rfl rfl (Yield.move rfl) rfl ?_
    refine DG.look rfl rfl (Yield.move rfl) rfl ?_
    refine DG.look rfl rfl (Yield.move rfl) rfl ?_
    refine DG.look rfl rfl (Yield.move rfl) rfl ?_
    refine DG.look rfl rfl (Yield.move rfl) rfl ?_
    refine DG.look rfl rfl (Yield.nilCheck rfl) rfl ?_
    refine DG.look rfl rfl (Yield.fieldAddr fa175_3 rfl) rfl ?_
    refine DG.look rfl rfl (Yield.load (v := .int .i64 s.latency) ti3 rfl (Cel.of_blk (b := d) eX rfl)) rfl ?_
    refine DG.look rfl rfl (Yield.add rfl rfl (w64 (by omega) (by omega))) rfl ?_
    refine DG.eff1 ?_
    refine Chg.callo rfl rfl call94 rfl (Imp.refl _) (cloneB_spec W0 _ (a := none) (c := 0) (bs := []) (RdB.of_slR SlR.nil (Nat.le_refl _)) (by simp)) rfl (fun _ => iM) (fun _ => Imp.refl _) (fun _ => iM) ?_
    rintro m hm
    refine DG.look rfl rfl (Yield.build (pvs := [(0, .int .u32 (w32 (s.last + 1))), (1, .bool false), (2, .int .i64 sector), (3, .int .u32 addr), (4, m.cell), (5, .int .i64 (major + s.latency)), (6, .int .i64 0)]) bu177 ti177 rfl (cells := CA.cells ⟨w32 (s.last + 1), false, sector, addr, m, major + s.latency, 0⟩) rfl) rfl ?_
    refine DG.eff1 ?_
    refine Chg.eff rfl rfl (Eff.lit [.tmp 71] (vs := [.agg (CA.cells ⟨w32 (s.last + 1), false, sector, addr, m, major + s.latency, 0⟩).toArray]) (cells := CA.cells ⟨w32 (s.last + 1), false, sector, addr, m, major + s.latency, 0⟩) Tryz.underlying173 ti177 rfl rfl rfl rfl (by decide) (by simp [Value.cells, CA.cells]) (by simp [Value.cells])) rfl (fun _ => iM) (fun _ => Imp.refl _) (fun _ => iM) ?_
    rintro b72 -
    refine DG.eff1 ?_
    refine Chg.eff rfl rfl (Eff.append (a := x.a) (c := x.c) (k := 1) (ys := CA.cells ⟨w32 (s.last + 1), false, sector, addr, m, major + s.latency, 0⟩) rfl rfl rfl Tryz.underlying173 Tryz.underlying173 ti177 rfl (by decide) fC (SlR.of_osl (a := some ⟨b72, 0, none⟩) eX) (CA.ones _) (by omega)) rfl (fun _ => iM) (fun _ => Imp.refl _) (fun _ => iM) ?_
    rintro ⟨a73, c73⟩ -
    refine DG.look rfl rfl (Yield.nilCheck rfl) rfl ?_
    refine DG.look rfl rfl (Yield.fieldAddr fa175_5 rfl) rfl ?_
    refine DG.eff1 ?_
    refine Chg.eff rfl rfl (Eff.store1 ti173 rfl rfl fC rfl (by first | (simp; done) | decide)) rfl (fun _ => iM) (fun _ => Imp.refl _) (fun _ => iM) ?_
    rintro ⟨⟩ -
    refine DG.done ?_
    refine QG.then ?_
    refine CG.seq ?_
    refine CG.region ?_
    refine OG.mv rfl rfl ?_
    refine OG.yield (Yield.nilCheck rfl) rfl ?_
    refine OG.yield (Yield.fieldAddr fa175_4 rfl) rfl ?_
    refine OG.yield (Yield.load ti27 rfl (by first | exact Cel.of_blk eX rfl | exact (hrow eX) _ _ rfl)) rfl ?_
    refine OG.sg rfl rfl ?_
    refine OG.sg rfl rfl ?_
    refine OG.nil ?_
    refine QG.then ?_
    refine CG.ret ?_
    refine QG.ret2 rfl rfl rfl () trivial rfl (Imp.trans ?_ (hclose m a73 c73 hm))
    rw [List.length_append, flat_app]
    exact Imp.trans (Imp.trans (Imp.pull (A := m.own) eX (Imp.pull (A := pool x.pl) eX (Imp.refl _))) pool_add) iM
  · skip
    refine CG.region ?_
    refine OG.mv rfl rfl ?_
    refine OG.mv rfl rfl ?_
    refine OG.yield (Yield.nilCheck rfl) rfl ?_
    refine OG.yield (Yield.fieldAddr fa175_2 rfl) rfl ?_
    refine OG.yield (Yield.load ti3 rfl (by first | exact Cel.of_blk eX rfl | exact (hrow eX) _ _ rfl)) rfl ?_
    refine OG.yield (Yield.sub rfl rfl (w64 (by omega) (by omega))) rfl ?_
    refine OG.callo call123 rfl (Imp.refl _) (within_spec W0 _ sector 0 (s.count - 1)) rfl ?_
    rintro ⟨⟩ -
    rw [decide_eq_true (p := 0 ≤ sector ∧ sector ≤ s.count - 1) (by omega)]
    refine OG.yield (Yield.not rfl) rfl ?_
    refine OG.mv rfl rfl ?_
    refine OG.gy rfl rfl rfl ?_
    refine OG.mv rfl rfl ?_
    refine OG.gy rfl rfl rfl ?_
    refine OG.callo call123 rfl (Imp.refl _) (within_spec W0 _ major 0 281474976710656) rfl ?_
    rintro ⟨⟩ -
    rw [decide_eq_true (p := 0 ≤ major ∧ major ≤ 281474976710656) (by omega)]
    refine OG.gy rfl rfl rfl ?_
    refine OG.yield (Yield.not rfl) rfl ?_
    refine OG.yield Yield.pickA rfl ?_
    refine OG.sg rfl rfl ?_
    refine OG.nil ?_
    refine QG.then ?_
    refine CG.cond_f rfl ?_
    refine CG.seq ?_
    refine CG.region ?_
    refine OG.mv rfl rfl ?_
    refine OG.mv rfl rfl ?_
    refine OG.gy rfl rfl rfl ?_
    refine OG.mv rfl rfl ?_
    refine OG.gy rfl rfl rfl ?_
    refine OG.yield (Yield.len_slice Tryz.underlying32 rfl rfl) rfl ?_
    refine OG.gy rfl rfl rfl ?_
    refine OG.yield (Yield.as (Yield.neq rfl rfl) (bF (by have := h3 rfl; omega))) rfl ?_
    refine OG.yield Yield.pickA rfl ?_
    refine OG.sg rfl rfl ?_
    refine OG.nil ?_
    refine QG.then ?_
    refine CG.cond_f rfl ?_
    refine CG.seq ?_
    refine CG.region ?_
    refine OG.mv rfl rfl ?_
    refine OG.yield (Yield.nilCheck rfl) rfl ?_
    refine OG.yield (Yield.fieldAddr fa175_5 rfl) rfl ?_
    refine OG.yield (Yield.load ti173 rfl (by first | exact Cel.of_blk eX rfl | exact (hrow eX) _ _ rfl)) rfl ?_
    refine OG.yield (Yield.len_slice Tryz.underlying173 rfl rfl) rfl ?_
    refine OG.yield Yield.geqA rfl ?_
    refine OG.sg rfl rfl ?_
    refine OG.nil ?_
    refine QG.then ?_
    refine CG.cond_f rfl ?_
    refine CG.skip ?_
    refine QG.block_normal ?_
    refine QG.then ?_
    refine CG.seq ?_
    refine CG.seq ?_
    refine CG.region ?_
    refine OG.mv rfl rfl ?_
    refine OG.yield (Yield.not rfl) rfl ?_
    refine OG.nil ?_
    refine QG.then ?_
    refine CG.cond_f rfl ?_
    refine CG.skip ?_
    refine QG.then ?_
    refine CG.seq ?_
    refine CG.region ?_
    refine OG.mv rfl rfl ?_
    refine OG.yield (Yield.nilCheck rfl) rfl ?_
    refine OG.yield (Yield.fieldAddr fa175_4 rfl) rfl ?_
    refine OG.yield (Yield.load ti27 rfl (by first | exact Cel.of_blk eX rfl | exact (hrow eX) _ _ rfl)) rfl ?_
    refine OG.yield (Yield.add rfl rfl rfl) rfl ?_
    refine OG.yield (Yield.nilCheck rfl) rfl ?_
    refine OG.yield (Yield.fieldAddr fa175_4 rfl) rfl ?_
    refine OG.eff (Eff.store1 ti27 rfl rfl fC rfl (by first | (simp; done) | decide)) rfl ?_
    rintro ⟨⟩ -
    refine OG.nil ?_
    refine QG.then ?_
    refine CG.seq ?_
    refine CG.draw (.look 0 0 (.look 1 0 (.look 2 0 (.look 3 0 (.look 4 2 (.look 5 0 (.look 6 0 (.look 7 0 (.look 8 2 (.look 9 0 (.look 10 0 (.look 11 0 (.look 12 1 (.look 14 0 (.look 15 0 (.look 16 0 (.look 17 0 (.look 18 2 (.look 19 0 (.eff1 13 false (.look 20 1 (.eff1 21 false (.eff1 22 false (.look 23 1 (.look 24 1 (.eff1 25 true (.done))))))))))))))))))))))))))) [13, 21, 22, 25] [4, 8, 18] ([]) ([DH d s (w32 (s.last + 1)) x.a x.cas.length x.c x.ta s.told.length x.tc]) mixed (by kernel_rfl) (Imp.none _) (iM) ?_
    refine DG.look rfl rfl (Yield.move rfl) rfl ?_
    refine DG.look rfl rfl (Yield.move rfl) rfl ?_
    refine DG.look rfl rfl (Yield.nilCheck rfl) rfl ?_
    refine DG.look rfl rfl (Yield.fieldAddr fa175_5 rfl) rfl ?_
    refine DG.look rfl rfl (Yield.load (v := .slice x.a x.cas.length x.c) ti173 rfl (Cel.of_blk (b := d) eX rfl)) rfl ?_
    refine DG.look rfl rfl (Yield.move rfl) rfl ?_
    refine DG.look rfl rfl (Yield.nilCheck rfl) rfl ?_
    refine DG.look rfl rfl (Yield.fieldAddr fa175_4 rfl) rfl ?_
    refine DG.look rfl rfl (Yield.load (v := .int .u32 (w32 (s.last + 1))) ti27 rfl (Cel.of_blk (b := d) eX rfl)) rfl ?_
    refine DG.look rfl rfl (Yield.move rfl) rfl ?_
    refine DG.look rfl rfl (Yield.move rfl) rfl ?_
    refine DG.look rfl rfl (Yield.move rfl) rfl ?_
    refine DG.look rfl rfl (Yield.move rfl) rfl ?_
    refine DG.look rfl rfl (Yield.move rfl) rfl ?_
    refine DG.look rfl rfl (Yield.move rfl) rfl ?_
    refine DG.look rfl rfl (Yield.nilCheck rfl) rfl ?_
    refine DG.look rfl rfl (Yield.fieldAddr fa175_3 rfl) rfl ?_
    refine DG.look rfl rfl (Yield.load (v := .int .i64 s.latency) ti3 rfl (Cel.of_blk (b := d) eX rfl)) rfl ?_
    refine DG.look rfl rfl (Yield.add rfl rfl (w64 (by omega) (by omega))) rfl ?_
    refine DG.eff1 ?_
    refine Chg.callo rfl rfl call94 rfl (Imp.refl _) (cloneB_spec W0 _ (a := da) (c := dc) (bs := data) (by exact hr.imp iM) (by have := h3 rfl; omega)) rfl (fun _ => iM) (fun _ => Imp.refl _) (fun _ => iM) ?_
    rintro m hm
    refine DG.look rfl rfl (Yield.build (pvs := [(0, .int .u32 (w32 (s.last + 1))), (1, .bool true), (2, .int .i64 sector), (3, .int .u32 addr), (4, m.cell), (5, .int .i64 (major + s.latency)), (6, .int .i64 0)]) bu177 ti177 rfl (cells := CA.cells ⟨w32 (s.last + 1), true, sector, addr, m, major + s.latency, 0⟩) rfl) rfl ?_
    refine DG.eff1 ?_
    refine Chg.eff rfl rfl (Eff.lit [.tmp 71] (vs := [.agg (CA.cells ⟨w32 (s.last + 1), true, sector, addr, m, major + s.latency, 0⟩).toArray]) (cells := CA.cells ⟨w32 (s.last + 1), true, sector, addr, m, major + s.latency, 0⟩) Tryz.underlying173 ti177 rfl rfl rfl rfl (by decide) (by simp [Value.cells, CA.cells]) (by simp [Value.cells])) rfl (fun _ => iM) (fun _ => Imp.refl _) (fun _ => iM) ?_
    rintro b72 -
    refine DG.eff1 ?_
    refine Chg.eff rfl rfl (Eff.append (a := x.a) (c := x.c) (k := 1) (ys := CA.cells ⟨w32 (s.last + 1), true, sector, addr, m, major + s.latency, 0⟩) rfl rfl rfl Tryz.underlying173 Tryz.underlying173 ti177 rfl (by decide) fC (SlR.of_osl (a := some ⟨b72, 0, none⟩) eX) (CA.ones _) (by omega)) rfl (fun _ => iM) (fun _ => Imp.refl _) (fun _ => iM) ?_
    rintro ⟨a73, c73⟩ -
    refine DG.look rfl rfl (Yield.nilCheck rfl) rfl ?_
    refine DG.look rfl rfl (Yield.fieldAddr fa175_5 rfl) rfl ?_
    refine DG.eff1 ?_
    refine Chg.eff rfl rfl (Eff.store1 ti173 rfl rfl fC rfl (by first | (simp; done) | decide)) rfl (fun _ => iM) (fun _ => Imp.refl _) (fun _ => iM) ?_
    rintro ⟨⟩ -
    refine DG.done ?_
    refine QG.then ?_
    refine CG.seq ?_
    refine CG.region ?_
    refine OG.mv rfl rfl ?_
    refine OG.yield (Yield.nilCheck rfl) rfl ?_
    refine OG.yield (Yield.fieldAddr fa175_4 rfl) rfl ?_
    refine OG.yield (Yield.load ti27 rfl (by first | exact Cel.of_blk eX rfl | exact (hrow eX) _ _ rfl)) rfl ?_
    refine OG.sg rfl rfl ?_
    refine OG.sg rfl rfl ?_
    refine OG.nil ?_
    refine QG.then ?_
    refine CG.ret ?_
    refine QG.ret2 rfl rfl rfl () trivial rfl (Imp.trans ?_ (hclose m a73 c73 hm))
    rw [List.length_append, flat_app]
    exact Imp.trans (Imp.trans (Imp.pull (A := m.own) eX (Imp.pull (A := pool x.pl) eX (Imp.refl _))) pool_add) iM
end
end Go.Proofs.YtphljkplokjonaaGreat.Vd
/- vdisk.Disk: Issue, Complete. -/
namespace Go.Proofs.YtphljkplokjonaaGreat.Vd
open Go Go.Sl Go.RowKit Go.Proofs Go.Proofs.YtphljkplokjonaaGreat.T Go.Proofs.YtphljkplokjonaaGreat.Ms
set_option maxRecDepth 100000
/-- A request to the disk. -/
structure Rq where
  part : Int
  tag : Int
  write : Bool
  sector : Int
  data : B
structure CR where
  part : Int
  tag : Int
  write : Bool
  sector : Int
  m : Msg
def CR.cells (r : CR) : List Value := [.int .i64 r.part, .int .u32 r.tag, .bool r.write, .int .i64 r.sector, r.m.cell]
def CR.abs (r : CR) : Rq := ⟨r.part, r.tag, r.write, r.sector, r.m.b⟩
theorem CR.len (r : CR) : r.cells.length = 5 := rfl
theorem CR.ones (r : CR) : ∀ v ∈ r.cells, one v = true := by simp [CR.cells, one, Msg.cell]
abbrev oreqs (a : Option Addr) (c : Nat) (l : List CR) : HProp := osl 101 5 a c l.length ((l.map CR.cells).flatten)
/-- Requests where they lie. -/
structure Rqs where
  l : List CR
  a : Option Addr
  c : Nat
def Rqs.ms (r : Rqs) : List Msg := r.l.map CR.m
abbrev Rqs.G (r : Rqs) : List HProp := [oreqs r.a r.c r.l, pool r.ms]
def Rqs.cell (r : Rqs) : Value := .slice r.a r.l.length r.c
def iss (a : Ak) : Ak := { a with st := if a.st = 0 then 1 else a.st }
theorem iss_one {a : Ak} (h : a.st = 0) : iss a = { a with st := 1 } := by unfold iss; rw [if_pos h]
theorem iss_no {a : Ak} (h : a.st ≠ 0) : iss a = a := by unfold iss; rw [if_neg h]
def req (s : Ds) (a : Ak) : Rq := ⟨s.part, a.tag, a.write, s.first + a.sector, a.data⟩
def issR (s : Ds) : List Rq := (s.asks.filter fun a => a.st == 0).map (req s)
def issS (s : Ds) : Ds := { s with asks := s.asks.map iss }
theorem mapto_step {α : Type} {f : α → α} {l : List α} {i : Nat} {x : α} (h : l[i]? = some x) : (l.take (i + 1)).map f ++ l.drop (i + 1) = ((l.take i).map f ++ l.drop i).set i (f x) := by
  obtain ⟨hi, rfl⟩ := List.getElem?_eq_some_iff.1 h
  have hl : ((l.take i).map f).length = i := by simp; omega
  rw [List.set_append_right _ _ (by omega), hl, Nat.sub_self, List.drop_eq_getElem_cons hi, List.set_cons_zero, List.take_succ_eq_append_getElem hi, List.map_append, List.append_assoc]; rfl
theorem mapto_get {α : Type} {f : α → α} {l : List α} {i : Nat} {x : α} (h : l[i]? = some x) : ((l.take i).map f ++ l.drop i)[i]? = some x := by
  obtain ⟨hi, rfl⟩ := List.getElem?_eq_some_iff.1 h
  have hl : ((l.take i).map f).length = i := by simp; omega
  rw [List.getElem?_append_right (by omega), hl, Nat.sub_self]; simp [hi]
theorem mapto_len {α : Type} {f : α → α} {l : List α} {i : Nat} (h : i ≤ l.length) : ((l.take i).map f ++ l.drop i).length = l.length := by simp; omega
structure It where
  i : Nat
  cas : List CA
  out : Rqs
structure It.OK (s : Ds) (pl : List Msg) (t : It) : Prop where
  le : t.i ≤ s.asks.length
  abs : t.cas.map CA.abs = (s.asks.take t.i).map iss ++ s.asks.drop t.i
  mem : ∀ a ∈ t.cas, a.m ∈ pl
  out : t.out.l.map CR.abs = ((s.asks.take t.i).filter fun a => a.st == 0).map (req s)
  outl : t.out.l.length ≤ t.i
section
variable (W0 : World) (Fr : List HProp)
set_option maxHeartbeats 2000000 in
theorem issue_spec {d : Nat} {s : Ds} : Ctr Tryz.prog W0 42 [.pointer (some ⟨d, 0, none⟩)] (D d s :: Fr) (fun r : Rqs => r.l.map CR.abs = issR s) (fun r => r.cell) (fun r => r.G ++ (D d (issS s) :: Fr)) := by
  refine Ctr.ex Ext.here d_open ?_
  intro x hx
  refine Ctr.imp star_open ?_
  have hln := hx.len
  have hok := hx.ok
  have hal := hx.ok.asks
  have hfst := hx.ok.first
  have hcnt := hx.ok.count
  dsimp only [DO, List.cons_append, List.nil_append]
  refine Ctr.of_body Tryz.func42 rfl Tryz.ntmps42 rfl ?_
  refine CG.seq ?_
  refine CG.region ?_
  refine OG.sg rfl rfl ?_
  refine OG.nil ?_
  refine QG.then ?_
  refine CG.seq ?_
  refine CG.region ?_
  refine OG.sg rfl rfl ?_
  refine OG.nil ?_
  refine QG.then ?_
  refine CG.seq ?_
  refine CG.seq ?_
  refine CG.region ?_
  refine OG.mv rfl rfl ?_
  refine OG.yield (Yield.nilCheck rfl) rfl ?_
  refine OG.yield (Yield.fieldAddr fa175_5 rfl) rfl ?_
  refine OG.yield (Yield.load ti173 rfl (by first | exact Cel.of_blk eX rfl | exact (hrow eX) _ _ rfl)) rfl ?_
  refine OG.yield (Yield.len_slice Tryz.underlying173 rfl rfl) rfl ?_
  refine OG.mv rfl rfl ?_
  refine OG.nil ?_
  refine QG.then ?_
  refine CG.block ?_
  refine CG.loop (fun t : It => t.OK s x.pl) (fun t => [(0, .pointer (some ⟨d, 0, none⟩)), (3, t.out.cell), (10, .int .i64 s.asks.length), (11, .int .i64 t.i)]) (fun t => DH d s s.last x.a s.asks.length x.c x.ta s.told.length x.tc :: oasks x.a x.c t.cas :: oreqs t.out.a t.out.c t.out.l :: pool t.out.ms :: onum 27 .u32 x.ta x.tc s.told :: pool x.pl :: Fr) (fun t => s.asks.length - t.i) ⟨0, x.cas, ⟨[], none, 0⟩⟩ ⟨Nat.zero_le _, by rw [List.take_zero, List.drop_zero, hx.abs]; rfl, hx.mem, rfl, Nat.le_refl _⟩ (by rw [← hln]; exact eS) (by rw [← hln]; exact Imp.trans pool_nil (Imp.trans (osl_nil (E := 101) (sz := 5)) iM)) ?_
  rintro ⟨i, cas, ⟨l, la, lc⟩⟩ ⟨hi, habs, hmem, hout, hol⟩
  dsimp only at hi habs hmem hout hol ⊢
  have hcl : cas.length = s.asks.length := by have := congrArg List.length habs; rw [mapto_len hi, List.length_map] at this; exact this
  refine CG.seq ?_
  refine CG.region ?_
  refine OG.yield Yield.lssA rfl ?_
  refine OG.nil ?_
  refine QG.then ?_
  refine CG.seq ?_
  refine CG.cond rfl (fun hc => ?_) (fun hc => ?_)
  · try replace hc := of_decide_eq_true hc
    have hi' : i < s.asks.length := by omega
    have hget : s.asks[i]? = some s.asks[i] := by simp [hi']
    generalize s.asks[i] = ak at hget
    have hgm := mapto_get (f := iss) hget
    have hst := mapto_step (f := iss) hget
    have hsec := hok.sec ak (List.mem_of_getElem? hget)
    have hdat := hok.data ak (List.mem_of_getElem? hget)
    obtain ⟨ca, hgc, hca⟩ : ∃ ca, cas[i]? = some ca ∧ ca.abs = ak := by
      rw [← habs, List.getElem?_map] at hgm
      cases hc : cas[i]? with
      | none => rw [hc] at hgm; cases hgm
      | some c => rw [hc] at hgm; exact ⟨c, rfl, by simpa using hgm⟩
    have hcm := hmem ca (List.mem_of_getElem? hgc)
    have htk : s.asks.take (i + 1) = s.asks.take i ++ [ak] := by obtain ⟨hlt, rfl⟩ := List.getElem?_eq_some_iff.1 hget; exact List.take_succ_eq_append_getElem hlt
    subst hca
    refine CG.pure (fun w hw => shape_as (n := i) (l := cas) (by omega) eX w hw) ?_
    rintro ⟨b, o, hxa⟩
    rw [hxa]
    rw [hxa] at *
    refine CG.skip ?_
    refine QG.then ?_
    refine CG.seq ?_
    refine CG.block ?_
    refine CG.seq ?_
    refine CG.region ?_
    refine OG.mv rfl rfl ?_
    refine OG.sg rfl rfl ?_
    refine OG.nil ?_
    refine QG.then ?_
    refine CG.seq ?_
    refine CG.region ?_
    refine OG.mv rfl rfl ?_
    refine OG.yield (Yield.nilCheck rfl) rfl ?_
    refine OG.yield (Yield.fieldAddr fa175_5 rfl) rfl ?_
    refine OG.yield (Yield.load (v := .slice (some ⟨b, o, none⟩) s.asks.length x.c) ti173 rfl (Cel.of_blk (b := d) eX rfl)) rfl ?_
    refine OG.mv rfl rfl ?_
    refine OG.yield (Yield.index_slice Tryz.underlying173 ti177 rfl rfl (by omega) (by omega)) rfl ?_
    refine OG.sg rfl rfl ?_
    refine OG.nil ?_
    refine QG.then ?_
    refine CG.seq ?_
    refine CG.seq ?_
    rcases (show ca.st ≠ 0 ∨ ca.st = 0 by omega) with hs | hs
    · skip
      refine CG.region ?_
      refine OG.mv rfl rfl ?_
      refine OG.yield (Yield.nilCheck rfl) rfl ?_
      refine OG.yield (Yield.fieldAddr fa177_6 rfl) rfl ?_
      refine OG.yield (Yield.load (v := .int .i64 ca.st) ti3 rfl (((SlR.of_osl (E := 177) (a := some ⟨b, o, none⟩) eX).elem CA.len hgc) 6 _ rfl)) rfl ?_
      refine OG.yield Yield.neqA rfl ?_
      refine OG.nil ?_
      refine QG.then ?_
      refine CG.cond_t rfl ?_
      refine CG.exit ?_
      refine QG.pass_exit ?_
      refine QG.block_exit ?_
      refine QG.then ?_
      refine CG.region ?_
      refine OG.yield (Yield.add rfl rfl (w64 (by omega) (by omega))) rfl ?_
      refine OG.mv rfl rfl ?_
      refine OG.nil ?_
      refine QG.next ⟨i + 1, cas, ⟨l, la, lc⟩⟩ ⟨by simp only; omega, ?_, hmem, ?_, by simp only; omega⟩ (by simp only; omega) eS (by dsimp only; rw [hxa]; exact iM)
      · dsimp only; rw [hst, habs]; symm; refine set_self ?_; rw [iss_no (a := ca.abs) hs]; exact hgm
      · dsimp only; rw [htk, List.filter_append, hout]; simp [hs, CA.abs]
    · skip
      refine CG.region ?_
      refine OG.mv rfl rfl ?_
      refine OG.yield (Yield.nilCheck rfl) rfl ?_
      refine OG.yield (Yield.fieldAddr fa177_6 rfl) rfl ?_
      refine OG.yield (Yield.load (v := .int .i64 ca.st) ti3 rfl (((SlR.of_osl (E := 177) (a := some ⟨b, o, none⟩) eX).elem CA.len hgc) 6 _ rfl)) rfl ?_
      refine OG.yield Yield.neqA rfl ?_
      refine OG.nil ?_
      refine QG.then ?_
      refine CG.cond_f rfl ?_
      refine CG.skip ?_
      refine QG.then ?_
      refine CG.seq ?_
      refine CG.region ?_
      refine OG.mv rfl rfl ?_
      refine OG.yield (Yield.nilCheck rfl) rfl ?_
      refine OG.yield (Yield.fieldAddr fa177_6 rfl) rfl ?_
      refine OG.eff (Eff.storeFld (i := i) 6 (r := ca) (r' := { ca with st := 1 }) (rs := cas) CA.len hgc rfl (by decide) ti3 rfl rfl fC rfl (by omega)) rfl ?_
      rintro ⟨⟩ -
      have hgc2 : (cas.set i { ca with st := 1 })[i]? = some { ca with st := 1 } := by rw [List.getElem?_set_self (by omega)]
      refine OG.nil ?_
      refine QG.then ?_
      refine CG.draw (.look 0 0 (.look 1 0 (.look 2 0 (.look 3 0 (.look 4 0 (.look 5 0 (.look 6 0 (.look 7 0 (.look 8 0 (.look 9 0 (.look 10 0 (.look 11 0 (.look 12 0 (.look 13 0 (.look 14 0 (.look 15 0 (.look 16 0 (.look 17 0 (.look 18 0 (.look 19 0 (.look 20 0 (.look 21 0 (.look 22 1 (.look 23 1 (.look 24 1 (.look 25 1 (.eff1 26 false (.look 27 1 (.eff1 28 false (.eff1 29 false (.look 30 1 (.done)))))))))))))))))))))))))))))))) [26, 28, 29] [] ([DH d s s.last (some ⟨b, o, none⟩) s.asks.length x.c x.ta s.told.length x.tc, osl 177 7 (some ⟨b, o, none⟩) x.c cas.length (((cas.set i { ca with st := 1 }).map CA.cells).flatten)]) ([]) mixed (by kernel_rfl) (iM) (Imp.none _) ?_
      refine DG.look rfl rfl (Yield.move rfl) rfl ?_
      refine DG.look rfl rfl (Yield.move rfl) rfl ?_
      refine DG.look rfl rfl (Yield.nilCheck rfl) rfl ?_
      refine DG.look rfl rfl (Yield.fieldAddr fa175_0 rfl) rfl ?_
      refine DG.look rfl rfl (Yield.load (v := .int .i64 s.part) ti3 rfl (Cel.of_blk (b := d) eX rfl)) rfl ?_
      refine DG.look rfl rfl (Yield.move rfl) rfl ?_
      refine DG.look rfl rfl (Yield.nilCheck rfl) rfl ?_
      refine DG.look rfl rfl (Yield.fieldAddr fa177_0 rfl) rfl ?_
      refine DG.look rfl rfl (Yield.load (v := .int .u32 ca.tag) ti27 rfl (((SlR.of_osl (E := 177) (a := some ⟨b, o, none⟩) eX).elem CA.len hgc2) 0 _ rfl)) rfl ?_
      refine DG.look rfl rfl (Yield.move rfl) rfl ?_
      refine DG.look rfl rfl (Yield.nilCheck rfl) rfl ?_
      refine DG.look rfl rfl (Yield.fieldAddr fa177_1 rfl) rfl ?_
      refine DG.look rfl rfl (Yield.load (v := .bool ca.write) ti4 rfl (((SlR.of_osl (E := 177) (a := some ⟨b, o, none⟩) eX).elem CA.len hgc2) 1 _ rfl)) rfl ?_
      refine DG.look rfl rfl (Yield.move rfl) rfl ?_
      refine DG.look rfl rfl (Yield.nilCheck rfl) rfl ?_
      refine DG.look rfl rfl (Yield.fieldAddr fa175_1 rfl) rfl ?_
      refine DG.look rfl rfl (Yield.load (v := .int .i64 s.first) ti3 rfl (Cel.of_blk (b := d) eX rfl)) rfl ?_
      refine DG.look rfl rfl (Yield.move rfl) rfl ?_
      refine DG.look rfl rfl (Yield.nilCheck rfl) rfl ?_
      refine DG.look rfl rfl (Yield.fieldAddr fa177_2 rfl) rfl ?_
      refine DG.look rfl rfl (Yield.load (v := .int .i64 ca.sector) ti3 rfl (((SlR.of_osl (E := 177) (a := some ⟨b, o, none⟩) eX).elem CA.len hgc2) 2 _ rfl)) rfl ?_
      refine DG.look rfl rfl (Yield.add rfl rfl (w64 (by have := hsec.1; have h9 : (CA.abs ca).sector = ca.sector := rfl; omega) (by have := hsec.2; have h9 : (CA.abs ca).sector = ca.sector := rfl; omega))) rfl ?_
      refine DG.look rfl rfl (Yield.move rfl) rfl ?_
      refine DG.look rfl rfl (Yield.nilCheck rfl) rfl ?_
      refine DG.look rfl rfl (Yield.fieldAddr fa177_4 rfl) rfl ?_
      refine DG.look rfl rfl (Yield.load (v := ca.m.cell) ti32 rfl (((SlR.of_osl (E := 177) (a := some ⟨b, o, none⟩) eX).elem CA.len hgc2) 4 _ rfl)) rfl ?_
      refine DG.eff1 ?_
      refine Chg.callo rfl rfl call94 rfl (Imp.refl _) (cloneB_spec W0 _ (a := ca.m.a) (c := ca.m.c) (bs := ca.m.b) (by exact pool_rd (ms := x.pl) eX hcm) (by have h9 : (CA.abs ca).data = ca.m.b := rfl; rw [h9] at hdat; omega)) rfl (fun _ => iM) (fun _ => Imp.refl _) (fun _ => iM) ?_
      rintro m hm
      refine DG.look rfl rfl (Yield.build (pvs := [(0, .int .i64 s.part), (1, .int .u32 ca.tag), (2, .bool ca.write), (3, .int .i64 (s.first + ca.sector)), (4, m.cell)]) bu101 ti101 rfl (cells := CR.cells ⟨s.part, ca.tag, ca.write, s.first + ca.sector, m⟩) rfl) rfl ?_
      refine DG.eff1 ?_
      refine Chg.eff rfl rfl (Eff.lit [.tmp 55] (vs := [.agg (CR.cells ⟨s.part, ca.tag, ca.write, s.first + ca.sector, m⟩).toArray]) (cells := CR.cells ⟨s.part, ca.tag, ca.write, s.first + ca.sector, m⟩) Tryz.underlying98 ti101 rfl rfl rfl rfl (by decide) (by simp [Value.cells, CR.cells]) (by simp [Value.cells])) rfl (fun _ => iM) (fun _ => Imp.refl _) (fun _ => iM) ?_
      rintro b56 -
      refine DG.eff1 ?_
      refine Chg.eff rfl rfl (Eff.append (a := la) (c := lc) (k := 1) (ys := CR.cells ⟨s.part, ca.tag, ca.write, s.first + ca.sector, m⟩) rfl rfl rfl Tryz.underlying98 Tryz.underlying98 ti101 rfl (by decide) fC (SlR.of_osl (a := some ⟨b56, 0, none⟩) eX) (CR.ones _) (by dsimp only; omega)) rfl (fun _ => iM) (fun _ => Imp.refl _) (fun _ => iM) ?_
      rintro ⟨a57, c57⟩ -
      refine DG.look rfl rfl (Yield.assign rfl) rfl ?_
      refine DG.done ?_
      refine QG.block_normal ?_
      refine QG.then ?_
      refine CG.region ?_
      refine OG.yield (Yield.add rfl rfl (w64 (by omega) (by omega))) rfl ?_
      refine OG.mv rfl rfl ?_
      refine OG.nil ?_
      refine QG.next ⟨i + 1, cas.set i { ca with st := 1 }, ⟨l ++ [⟨s.part, ca.tag, ca.write, s.first + ca.sector, m⟩], a57, c57⟩⟩ ⟨by simp only; omega, ?_, ?_, ?_, ?_⟩ (by simp only; omega) ?_ ?_
      · dsimp only; rw [hst, List.map_set, habs]; rw [iss_one (a := ca.abs) hs]; rfl
      · dsimp only; intro a ha; rcases List.mem_or_eq_of_mem_set ha with ha | rfl; exact hmem a ha; exact hcm
      · dsimp only; rw [htk, List.filter_append, List.map_append, List.map_append, hout]; simp [hs, CA.abs, CR.abs, req, hm]
      · simp only [List.length_append, List.length_cons, List.length_nil]; omega
      · dsimp only [Rqs.cell]; rw [List.length_append]; exact eS
      · dsimp only [Rqs.ms, oasks, oreqs]
        try rw [hxa]
        rw [List.length_append, flat_app, List.length_set, List.map_append]
        exact Imp.trans (Imp.trans (Imp.pull (A := m.own) eX (Imp.pull (A := pool (l.map CR.m)) eX (Imp.refl _))) pool_add) iM
  · try replace hc := of_decide_eq_false hc
    refine CG.exit ?_
    refine QG.pass_exit ?_
    refine QG.pass_exit ?_
    refine QG.block_exit ?_
    refine QG.then ?_
    refine CG.seq ?_
    refine CG.region ?_
    refine OG.mv rfl rfl ?_
    refine OG.sg rfl rfl ?_
    refine OG.nil ?_
    refine QG.then ?_
    refine CG.ret ?_
    have hie : i = s.asks.length := by omega
    subst hie
    rw [List.take_length, List.drop_length, List.append_nil] at habs
    rw [List.take_length] at hout
    have hcl2 := d_close (d := d) (G := Fr) (s := issS s) ⟨cas, x.pl, x.a, x.c, x.ta, x.tc⟩ ⟨habs, hmem, ⟨hok.part, hok.first, hok.count, hok.lat, by simp only [issS, List.length_map]; exact hok.asks, hok.told, fun a ha => by simp only [issS, List.mem_map] at ha; obtain ⟨q, hq, rfl⟩ := ha; exact hok.data q hq, fun a ha => by simp only [issS, List.mem_map] at ha; obtain ⟨q, hq, rfl⟩ := ha; exact hok.sec q hq⟩⟩
    dsimp only [DO, issS, List.cons_append, List.nil_append] at hcl2
    rw [hcl] at hcl2
    exact QG.ret1 rfl rfl ⟨l, la, lc⟩ hout rfl (Imp.pull eX (Imp.pull eX (Imp.trans iM hcl2)))
def oi : Option Nat → Int
  | some i => i
  | none => -1
/-- Is it the ask that is looked for? -/
def isB (tag : Int) (a : Ak) : Bool := decide (a.tag = tag) && decide (a.st = 1)
theorem pred_spec {b : Nat} {ca : CA} {tag : Int} (h : Cel W0 Fr ⟨b, 1, none⟩ (.int .u32 tag)) : Ctr Tryz.prog W0 125 [.agg ca.cells.toArray, .pointer (some ⟨b, 0, none⟩)] Fr (fun _ : Unit => True) (fun _ => .bool (isB tag ca.abs)) (fun _ => Fr) := by
  refine Ctr.of_body Tryz.func125 rfl Tryz.ntmps125 rfl ?_
  refine CG.seq ?_
  refine CG.region ?_
  refine OG.effd (Eff.box rfl) rfl ?_
  rintro b2 -
  refine OG.sg rfl rfl ?_
  refine OG.nil ?_
  refine QG.then ?_
  refine CG.seq ?_
  rcases (show ca.tag = tag ∨ ca.tag ≠ tag by omega) with hh | hh
  · skip
    refine CG.region ?_
    refine OG.yield (Yield.fieldAddr fa177_0 rfl) rfl ?_
    refine OG.yield (Yield.load (v := .int .u32 ca.tag) ti27 rfl (Cel.of_blk (b := b2) eX rfl)) rfl ?_
    refine OG.yield (Yield.fieldAddr fa101_1 rfl) rfl ?_
    refine OG.yield (Yield.load (v := .int .u32 tag) ti27 rfl (fun w hw => h w (hw.imp iM))) rfl ?_
    refine OG.yield (Yield.as (Yield.eql rfl rfl) (bT hh)) rfl ?_
    refine OG.mv rfl rfl ?_
    refine OG.gy rfl rfl rfl ?_
    refine OG.yield (Yield.fieldAddr fa177_6 rfl) rfl ?_
    refine OG.gy rfl rfl rfl ?_
    refine OG.yield (Yield.load (v := .int .i64 ca.st) ti3 rfl (Cel.of_blk (b := b2) eX rfl)) rfl ?_
    refine OG.gy rfl rfl rfl ?_
    refine OG.yield (Yield.eql rfl rfl) rfl ?_
    refine OG.yield Yield.pickA rfl ?_
    refine OG.sg rfl rfl ?_
    refine OG.nil ?_
    refine QG.then ?_
    refine CG.ret ?_
    exact QG.ret1 rfl rfl () trivial (by simp [isB, CA.abs, hh]) iM
  · skip
    refine CG.region ?_
    refine OG.yield (Yield.fieldAddr fa177_0 rfl) rfl ?_
    refine OG.yield (Yield.load (v := .int .u32 ca.tag) ti27 rfl (Cel.of_blk (b := b2) eX rfl)) rfl ?_
    refine OG.yield (Yield.fieldAddr fa101_1 rfl) rfl ?_
    refine OG.yield (Yield.load (v := .int .u32 tag) ti27 rfl (fun w hw => h w (hw.imp iM))) rfl ?_
    refine OG.yield (Yield.as (Yield.eql rfl rfl) (bF hh)) rfl ?_
    refine OG.mv rfl rfl ?_
    refine OG.gn rfl rfl rfl rfl rfl ?_
    refine OG.gn rfl rfl rfl rfl rfl ?_
    refine OG.gn rfl rfl rfl rfl rfl ?_
    refine OG.yield Yield.pickA rfl ?_
    refine OG.sg rfl rfl ?_
    refine OG.nil ?_
    refine QG.then ?_
    refine CG.ret ?_
    exact QG.ret1 rfl rfl () trivial (by simp [isB, CA.abs, hh]) iM
theorem find_take {α : Type} {p : α → Bool} {l : List α} {i : Nat} (h : ∀ x ∈ l.take i, p x = false) : ∀ {x : α}, l[i]? = some x → p x = true → l.findIdx? p = some i := by
  intro x hx hp
  rw [List.findIdx?_eq_some_iff_getElem]
  obtain ⟨hi, rfl⟩ := List.getElem?_eq_some_iff.1 hx
  exact ⟨hi, hp, fun j hj => by rw [h _ (List.mem_take_iff_getElem.2 ⟨j, by omega, rfl⟩)]; decide⟩
theorem index_spec {b c : Nat} {a : Option Addr} {cas : List CA} {tag : Int} (hs : SlR W0 Fr 7 a cas.length ((cas.map CA.cells).flatten)) (h : Cel W0 Fr ⟨b, 1, none⟩ (.int .u32 tag)) (hl : cas.length ≤ 2 ^ 20) :
    Ctr Tryz.prog W0 124 [.slice a cas.length c, .func (.func 125) [].toArray [.pointer (some ⟨b, 0, none⟩)].toArray] Fr (fun _ : Unit => True) (fun _ => .int .i64 (oi ((cas.map CA.abs).findIdx? (isB tag)))) (fun _ => Fr) := by
  refine Ctr.of_body Tryz.func124 rfl Tryz.ntmps124 rfl ?_
  refine CG.seq ?_
  refine CG.region ?_
  refine OG.sg rfl rfl ?_
  refine OG.nil ?_
  refine QG.then ?_
  refine CG.seq ?_
  refine CG.seq ?_
  refine CG.region ?_
  refine OG.mv rfl rfl ?_
  refine OG.yield (Yield.len_slice Tryz.underlying173 rfl rfl) rfl ?_
  refine OG.mv rfl rfl ?_
  refine OG.nil ?_
  refine QG.then ?_
  refine CG.block ?_
  refine CG.loop (fun i : Nat => i ≤ cas.length ∧ ∀ y ∈ (cas.map CA.abs).take i, isB tag y = false) (fun i => [(0, .slice a cas.length c), (1, .func (.func 125) [].toArray [.pointer (some ⟨b, 0, none⟩)].toArray), (7, .int .i64 cas.length), (8, .int .i64 i)]) (fun _ => Fr) (fun i => cas.length - i) 0 ⟨Nat.zero_le _, fun y h => absurd h (by simp)⟩ eS (Imp.refl _) ?_
  rintro i ⟨hi, hno⟩
  refine CG.seq ?_
  refine CG.region ?_
  refine OG.yield Yield.lssA rfl ?_
  refine OG.nil ?_
  refine QG.then ?_
  refine CG.seq ?_
  refine CG.cond rfl (fun hc => ?_) (fun hc => ?_)
  · try replace hc := of_decide_eq_true hc
    have hi' : i < cas.length := by omega
    have hget : cas[i]? = some cas[i] := by simp [hi']
    generalize cas[i] = ca at hget
    have hga : (cas.map CA.abs)[i]? = some ca.abs := by rw [List.getElem?_map, hget]; rfl
    refine CG.pure (fun w hw => hs.elem_shape (i := i) CA.len (by decide) hi' w hw) ?_
    rintro ⟨ba, oa, rfl⟩
    refine CG.skip ?_
    refine QG.then ?_
    refine CG.seq ?_
    refine CG.block ?_
    refine CG.seq ?_
    refine CG.region ?_
    refine OG.mv rfl rfl ?_
    refine OG.sg rfl rfl ?_
    refine OG.nil ?_
    refine QG.then ?_
    refine CG.seq ?_
    refine CG.region ?_
    refine OG.mv rfl rfl ?_
    refine OG.mv rfl rfl ?_
    refine OG.mv rfl rfl ?_
    refine OG.yield (Yield.index_slice Tryz.underlying173 ti177 rfl rfl (by omega) (by omega)) rfl ?_
    refine OG.yield (Yield.load_agg (vs := ca.cells) ti177 rfl (CA.len ca) (by rw [show oa + (i : Int).toNat * 7 = oa + i * 7 by omega]; exact hs.elem CA.len hget)) rfl ?_
    refine OG.callv call125 rfl rfl (Imp.refl _) (pred_spec W0 _ (b := b) (ca := ca) (tag := tag) h) rfl ?_
    rintro ⟨⟩ -
    refine OG.nil ?_
    refine QG.then ?_
    refine CG.cond rfl (fun hc => ?_) (fun hc => ?_)
    · try replace hc := of_decide_eq_true hc
      refine CG.seq ?_
      refine CG.region ?_
      refine OG.mv rfl rfl ?_
      refine OG.sg rfl rfl ?_
      refine OG.nil ?_
      refine QG.then ?_
      refine CG.ret ?_
      refine QG.block_ret ?_
      refine QG.pass_ret ?_
      refine QG.pass_ret ?_
      refine QG.block_ret ?_
      refine QG.pass_ret ?_
      exact QG.ret1 rfl rfl () trivial (by rw [find_take hno hga hc]; rfl) iM
    · try replace hc := of_decide_eq_false hc
      refine CG.skip ?_
      refine QG.block_normal ?_
      refine QG.then ?_
      refine CG.region ?_
      refine OG.yield (Yield.add rfl rfl (w64 (by omega) (by omega))) rfl ?_
      refine OG.mv rfl rfl ?_
      refine OG.nil ?_
      refine QG.next (i + 1) ⟨by omega, ?_⟩ (by omega) eS iM
      intro y hy
      obtain ⟨hlt, hq⟩ := List.getElem?_eq_some_iff.1 hga
      rw [List.take_succ_eq_append_getElem hlt, hq] at hy
      rcases List.mem_append.1 hy with hy | hy
      · exact hno y hy
      · simp only [List.mem_cons, List.not_mem_nil, or_false] at hy; subst hy; exact hc
  · try replace hc := of_decide_eq_false hc
    refine CG.exit ?_
    refine QG.pass_exit ?_
    refine QG.pass_exit ?_
    refine QG.block_exit ?_
    refine QG.then ?_
    refine CG.seq ?_
    refine CG.region ?_
    refine OG.sg rfl rfl ?_
    refine OG.nil ?_
    refine QG.then ?_
    refine CG.ret ?_
    have hie : i = cas.length := by omega
    subst hie
    refine QG.ret1 rfl rfl () trivial ?_ iM
    rw [show (cas.map CA.abs).findIdx? (isB tag) = none by rw [List.findIdx?_eq_none_iff]; intro y hy; exact hno y (by rw [List.take_of_length_le (by simp)]; exact hy)]
    rfl
/-- What Complete answers, and the asks behind it. -/
def comR (s : Ds) (tag : Int) (data : B) : Int × Ds :=
  match s.asks.findIdx? (isB tag) with
  | none => (302, s)
  | some i => match s.asks[i]? with
    | none => (302, s)
    | some a => if a.write = false ∧ data.length ≠ 64 then (6, s) else (0, { s with asks := s.asks.set i { a with st := 2, data := if a.write then a.data else data } })
set_option maxHeartbeats 1000000 in
theorem complete_spec {d : Nat} {s : Ds} {r : CR} (hr : RdB W0 Fr r.m.a r.m.c r.m.b) (hrl : r.m.b.length ≤ 2 ^ 47) : Ctr Tryz.prog W0 63 [.pointer (some ⟨d, 0, none⟩), .agg r.cells.toArray] (D d s :: Fr) (fun _ : Unit => True) (fun _ => .int .i64 (comR s r.tag r.m.b).1) (fun _ => D d (comR s r.tag r.m.b).2 :: Fr) := by
  refine Ctr.ex Ext.here d_open ?_
  intro x hx
  refine Ctr.imp star_open ?_
  have hln := hx.len
  have hok := hx.ok
  have hal := hx.ok.asks
  have hcl := d_close (d := d) (G := Fr) x hx
  dsimp only [DO, List.cons_append, List.nil_append] at hcl ⊢
  have hab := hx.abs
  refine Ctr.of_body Tryz.func63 rfl Tryz.ntmps63 rfl ?_
  refine CG.seq ?_
  refine CG.region ?_
  refine OG.effd (Eff.box rfl) rfl ?_
  rintro b3 -
  refine OG.sg rfl rfl ?_
  refine OG.nil ?_
  refine QG.then ?_
  refine CG.seq ?_
  refine CG.region ?_
  refine OG.mv rfl rfl ?_
  refine OG.yield (Yield.nilCheck rfl) rfl ?_
  refine OG.yield (Yield.fieldAddr fa175_5 rfl) rfl ?_
  refine OG.yield (Yield.load ti173 rfl (by first | exact Cel.of_blk eX rfl | exact (hrow eX) _ _ rfl)) rfl ?_
  refine OG.yield (Yield.makeFunc (first := []) (cap := [.tmp 3]) rfl rfl) rfl ?_
  refine OG.callo call124 rfl (Imp.refl _) (index_spec W0 _ (b := b3) (a := x.a) (c := x.c) (cas := x.cas) (tag := r.tag) (by exact SlR.of_osl (E := 177) eX) (by exact Cel.of_blk (b := b3) eX rfl) (by omega)) rfl ?_
  rintro ⟨⟩ -
  rw [hab]
  refine OG.sg rfl rfl ?_
  refine OG.nil ?_
  refine QG.then ?_
  refine CG.seq ?_
  refine CG.seq ?_
  rcases hf : s.asks.findIdx? (isB r.tag) with _ | i
  · skip
    refine CG.region ?_
    refine OG.mv rfl rfl ?_
    refine OG.yield Yield.lssA rfl ?_
    refine OG.nil ?_
    refine QG.then ?_
    refine CG.cond_t rfl ?_
    refine CG.seq ?_
    refine CG.region ?_
    refine OG.sg rfl rfl ?_
    refine OG.nil ?_
    refine QG.then ?_
    refine CG.ret ?_
    refine QG.pass_ret ?_
    have hcr : comR s r.tag r.m.b = (302, s) := by unfold comR; rw [hf]
    rw [hcr]
    exact QG.ret1 rfl rfl () trivial rfl (Imp.trans iM hcl)
  · skip
    obtain ⟨hi, hp, -⟩ := List.findIdx?_eq_some_iff_getElem.1 hf
    have hget : s.asks[i]? = some s.asks[i] := by simp [hi]
    generalize s.asks[i] = ak at hget hp
    obtain ⟨ca, hgc, hca⟩ := hx.get hget
    subst hca
    have hcm := hx.mem ca (List.mem_of_getElem? hgc)
    have hcr : comR s r.tag r.m.b = if ca.write = false ∧ r.m.b.length ≠ 64 then (6, s) else (0, { s with asks := s.asks.set i { ca.abs with st := 2, data := if ca.write then ca.m.b else r.m.b } }) := by unfold comR; rw [hf]; dsimp only; rw [hget]; rfl
    refine CG.region ?_
    refine OG.mv rfl rfl ?_
    refine OG.yield Yield.lssA rfl ?_
    refine OG.nil ?_
    refine QG.then ?_
    refine CG.cond_f rfl ?_
    refine CG.skip ?_
    refine QG.then ?_
    refine CG.seq ?_
    refine CG.pure (fun w hw => shape_as (n := i) (l := x.cas) (by omega) eX w hw) ?_
    rintro ⟨b, o, hxa⟩
    rw [hxa] at hcl ⊢
    refine CG.region ?_
    refine OG.mv rfl rfl ?_
    refine OG.yield (Yield.nilCheck rfl) rfl ?_
    refine OG.yield (Yield.fieldAddr fa175_5 rfl) rfl ?_
    refine OG.yield (Yield.load (v := .slice (some ⟨b, o, none⟩) x.cas.length x.c) ti173 rfl (Cel.of_blk (b := d) eX rfl)) rfl ?_
    refine OG.mv rfl rfl ?_
    refine OG.yield (Yield.index_slice (b := b) (o := o) (m := x.cas.length) (c := x.c) (j := (i : Int)) Tryz.underlying173 ti177 rfl rfl (by omega) (by omega)) rfl ?_
    refine OG.sg rfl rfl ?_
    refine OG.nil ?_
    refine QG.then ?_
    refine CG.seq ?_
    refine CG.seq ?_
    rcases (show (ca.write = false ∧ r.m.b.length ≠ 64) ∨ (ca.write = false ∧ r.m.b.length = 64) ∨ ca.write = true by cases ca.write <;> simp <;> omega) with hh | hh | hh
    · skip
      refine CG.region ?_
      refine OG.mv rfl rfl ?_
      refine OG.yield (Yield.nilCheck rfl) rfl ?_
      refine OG.yield (Yield.fieldAddr fa177_1 rfl) rfl ?_
      refine OG.yield (Yield.load (v := .bool ca.write) ti4 rfl (((SlR.of_osl (E := 177) (a := some ⟨b, o, none⟩) eX).elem CA.len hgc) 1 _ rfl)) rfl ?_
      refine OG.yield (Yield.as (Yield.not rfl) (v' := .bool true) (by rw [hh.1]; rfl)) rfl ?_
      refine OG.nil ?_
      refine QG.then ?_
      refine CG.cond_t rfl ?_
      refine CG.seq ?_
      refine CG.seq ?_
      refine CG.region ?_
      refine OG.yield (Yield.fieldAddr fa101_4 rfl) rfl ?_
      refine OG.yield (Yield.load (v := r.m.cell) ti32 rfl (Cel.of_blk (b := b3) eX rfl)) rfl ?_
      refine OG.yield (Yield.len_slice (a := r.m.a) (m := r.m.b.length) (c := r.m.c) Tryz.underlying32 rfl rfl) rfl ?_
      refine OG.yield Yield.neqA rfl ?_
      refine OG.nil ?_
      refine QG.then ?_
      refine CG.cond_t rfl ?_
      refine CG.seq ?_
      refine CG.region ?_
      refine OG.sg rfl rfl ?_
      refine OG.nil ?_
      refine QG.then ?_
      refine CG.ret ?_
      refine QG.pass_ret ?_
      refine QG.pass_ret ?_
      rw [hcr, if_pos hh]
      exact QG.ret1 rfl rfl () trivial rfl (Imp.trans iM hcl)
    · skip
      refine CG.region ?_
      refine OG.mv rfl rfl ?_
      refine OG.yield (Yield.nilCheck rfl) rfl ?_
      refine OG.yield (Yield.fieldAddr fa177_1 rfl) rfl ?_
      refine OG.yield (Yield.load (v := .bool ca.write) ti4 rfl (((SlR.of_osl (E := 177) (a := some ⟨b, o, none⟩) eX).elem CA.len hgc) 1 _ rfl)) rfl ?_
      refine OG.yield (Yield.as (Yield.not rfl) (v' := .bool true) (by rw [hh.1]; rfl)) rfl ?_
      refine OG.nil ?_
      refine QG.then ?_
      refine CG.cond_t rfl ?_
      refine CG.seq ?_
      refine CG.seq ?_
      refine CG.region ?_
      refine OG.yield (Yield.fieldAddr fa101_4 rfl) rfl ?_
      refine OG.yield (Yield.load (v := r.m.cell) ti32 rfl (Cel.of_blk (b := b3) eX rfl)) rfl ?_
      refine OG.yield (Yield.len_slice (a := r.m.a) (m := r.m.b.length) (c := r.m.c) Tryz.underlying32 rfl rfl) rfl ?_
      refine OG.yield Yield.neqA rfl ?_
      refine OG.nil ?_
      refine QG.then ?_
      refine CG.cond_f rfl ?_
      refine CG.skip ?_
      refine QG.then ?_
      refine CG.region ?_
      refine OG.mv rfl rfl ?_
      refine OG.yield (Yield.fieldAddr fa101_4 rfl) rfl ?_
      refine OG.yield (Yield.load (v := r.m.cell) ti32 rfl (Cel.of_blk (b := b3) eX rfl)) rfl ?_
      refine OG.callo call94 rfl (Imp.refl _) (cloneB_spec W0 _ (a := r.m.a) (c := r.m.c) (bs := r.m.b) (by exact hr.imp iM) (by omega)) rfl ?_
      rintro m hm
      refine OG.yield (Yield.nilCheck rfl) rfl ?_
      refine OG.yield (Yield.fieldAddr fa177_4 rfl) rfl ?_
      refine OG.eff (Eff.storeFld (i := i) 4 (r := ca) (r' := { ca with m := m }) (rs := x.cas) CA.len hgc rfl (by decide) ti32 rfl rfl fC rfl rfl) rfl ?_
      rintro ⟨⟩ -
      refine OG.nil ?_
      refine QG.then ?_
      refine CG.seq ?_
      refine CG.region ?_
      refine OG.mv rfl rfl ?_
      refine OG.yield (Yield.nilCheck rfl) rfl ?_
      refine OG.yield (Yield.fieldAddr fa177_6 rfl) rfl ?_
      refine OG.eff (Eff.storeFld (i := i) 6 (r := { ca with m := m }) (r' := { ca with m := m, st := 2 }) (rs := x.cas.set i { ca with m := m }) CA.len (by rw [List.getElem?_set_self (by omega)]) rfl (by decide) ti3 rfl rfl fC rfl (by rw [List.length_set])) rfl ?_
      rintro ⟨⟩ -
      refine OG.nil ?_
      refine QG.then ?_
      refine CG.seq ?_
      refine CG.region ?_
      refine OG.sg rfl rfl ?_
      refine OG.nil ?_
      refine QG.then ?_
      refine CG.ret ?_
      rw [hcr, if_neg (by rw [hh.2]; simp), if_neg (by rw [hh.1]; decide)]
      have hcl2 := d_close (d := d) (G := Fr) (s := { s with asks := s.asks.set i { ca.abs with st := 2, data := r.m.b } }) ⟨x.cas.set i { ca with m := m, st := 2 }, x.pl ++ [m], some ⟨b, o, none⟩, x.c, x.ta, x.tc⟩ ⟨by dsimp only; rw [List.map_set, hab]; simp [CA.abs, hm], fun a ha => by rcases List.mem_or_eq_of_mem_set ha with ha | rfl; exact List.mem_append.2 (.inl (hx.mem a ha)); simp, ⟨hok.part, hok.first, hok.count, hok.lat, by dsimp only; rw [List.length_set]; exact hok.asks, hok.told, fun a ha => by rcases List.mem_or_eq_of_mem_set ha with ha | rfl; exact hok.data a ha; dsimp only; omega, fun a ha => by rcases List.mem_or_eq_of_mem_set ha with ha | rfl; exact hok.sec a ha; exact hok.sec ca.abs (List.mem_of_getElem? hget)⟩⟩
      dsimp only [DO, oasks, List.cons_append, List.nil_append] at hcl2
      rw [List.length_set] at hcl2
      refine QG.ret1 rfl rfl () trivial rfl (Imp.trans ?_ hcl2)
      rw [List.set_set]
      exact Imp.trans (Imp.trans (Imp.pull (A := m.own) eX (Imp.pull (A := pool x.pl) eX (Imp.refl _))) pool_add) iM
    · skip
      refine CG.region ?_
      refine OG.mv rfl rfl ?_
      refine OG.yield (Yield.nilCheck rfl) rfl ?_
      refine OG.yield (Yield.fieldAddr fa177_1 rfl) rfl ?_
      refine OG.yield (Yield.load (v := .bool ca.write) ti4 rfl (((SlR.of_osl (E := 177) (a := some ⟨b, o, none⟩) eX).elem CA.len hgc) 1 _ rfl)) rfl ?_
      refine OG.yield (Yield.as (Yield.not rfl) (v' := .bool false) (by rw [hh]; rfl)) rfl ?_
      refine OG.nil ?_
      refine QG.then ?_
      refine CG.cond_f rfl ?_
      refine CG.skip ?_
      refine QG.then ?_
      refine CG.seq ?_
      refine CG.region ?_
      refine OG.mv rfl rfl ?_
      refine OG.yield (Yield.nilCheck rfl) rfl ?_
      refine OG.yield (Yield.fieldAddr fa177_6 rfl) rfl ?_
      refine OG.eff (Eff.storeFld (i := i) 6 (r := ca) (r' := { ca with st := 2 }) (rs := x.cas) CA.len hgc rfl (by decide) ti3 rfl rfl fC rfl rfl) rfl ?_
      rintro ⟨⟩ -
      refine OG.nil ?_
      refine QG.then ?_
      refine CG.seq ?_
      refine CG.region ?_
      refine OG.sg rfl rfl ?_
      refine OG.nil ?_
      refine QG.then ?_
      refine CG.ret ?_
      rw [hcr, if_neg (by rw [hh]; simp), if_pos hh]
      have hcl2 := d_close (d := d) (G := Fr) (s := { s with asks := s.asks.set i { ca.abs with st := 2, data := ca.m.b } }) ⟨x.cas.set i { ca with st := 2 }, x.pl, some ⟨b, o, none⟩, x.c, x.ta, x.tc⟩ ⟨by dsimp only; rw [List.map_set, hab]; simp [CA.abs], fun a ha => by rcases List.mem_or_eq_of_mem_set ha with ha | rfl; exact hx.mem a ha; exact hcm, ⟨hok.part, hok.first, hok.count, hok.lat, by dsimp only; rw [List.length_set]; exact hok.asks, hok.told, fun a ha => by rcases List.mem_or_eq_of_mem_set ha with ha | rfl; exact hok.data a ha; exact hok.data ca.abs (List.mem_of_getElem? hget), fun a ha => by rcases List.mem_or_eq_of_mem_set ha with ha | rfl; exact hok.sec a ha; exact hok.sec ca.abs (List.mem_of_getElem? hget)⟩⟩
      dsimp only [DO, oasks, List.cons_append, List.nil_append] at hcl2
      rw [List.length_set] at hcl2
      exact QG.ret1 rfl rfl () trivial rfl (Imp.trans iM hcl2)
end
end Go.Proofs.YtphljkplokjonaaGreat.Vd
/- vdisk.Disk: Ready, Waiting, Told, Clone. -/
namespace Go.Proofs.YtphljkplokjonaaGreat.Vd
open Go Go.Sl Go.RowKit Go.Proofs Go.Proofs.YtphljkplokjonaaGreat.T Go.Proofs.YtphljkplokjonaaGreat.Ms
set_option maxRecDepth 100000
/-- A request that is over. -/
structure Dn where
  tag : Int
  write : Bool
  addr : Int
  data : B
structure CD where
  tag : Int
  write : Bool
  addr : Int
  m : Msg
def CD.cells (r : CD) : List Value := [.int .u32 r.tag, .bool r.write, .int .u32 r.addr, r.m.cell]
def CD.abs (r : CD) : Dn := ⟨r.tag, r.write, r.addr, r.m.b⟩
theorem CD.len (r : CD) : r.cells.length = 4 := rfl
theorem CD.ones (r : CD) : ∀ v ∈ r.cells, one v = true := by simp [CD.cells, one, Msg.cell]
abbrev odone (a : Option Addr) (c : Nat) (l : List CD) : HProp := osl 158 4 a c l.length ((l.map CD.cells).flatten)
structure Dns where
  l : List CD
  a : Option Addr
  c : Nat
def Dns.ms (r : Dns) : List Msg := r.l.map CD.m
abbrev Dns.G (r : Dns) : List HProp := [odone r.a r.c r.l, pool r.ms]
def Dns.cell (r : Dns) : Value := .slice r.a r.l.length r.c
def over (major : Int) (a : Ak) : Bool := decide (a.st = 2) && decide (a.due ≤ major)
theorem over_no1 {major : Int} {a : Ak} (h : a.st ≠ 2) : over major a = false := by unfold over; rw [decide_eq_false h, Bool.false_and]
theorem over_no2 {major : Int} {a : Ak} (h : major < a.due) : over major a = false := by unfold over; rw [decide_eq_false (p := a.due ≤ major) (by omega), Bool.and_false]
theorem over_yes {major : Int} {a : Ak} (h : a.st = 2) (h2 : a.due ≤ major) : over major a = true := by unfold over; rw [decide_eq_true h, decide_eq_true h2]; rfl
def done (a : Ak) : Dn := ⟨a.tag, a.write, a.addr, if a.write then [] else a.data⟩
def rdyL (s : Ds) (major : Int) : List Dn := (s.asks.filter (over major)).map done
def rdyS (s : Ds) (major : Int) : Ds := { s with asks := s.asks.filter (fun a => !over major a), told := (s.asks.filter (over major)).map Ak.tag }
structure Rt where
  i : Nat
  out : Dns
  rest : List CA
  ra : Option Addr
  rc : Nat
  told : List Int
  ta : Option Addr
  tc : Nat
structure Rt.OK (s : Ds) (major : Int) (pl : List Msg) (t : Rt) : Prop where
  le : t.i ≤ s.asks.length
  out : t.out.l.map CD.abs = ((s.asks.take t.i).filter (over major)).map done
  outl : t.out.l.length ≤ t.i
  rest : t.rest.map CA.abs = (s.asks.take t.i).filter (fun a => !over major a)
  restl : t.rest.length ≤ t.i
  mem : ∀ a ∈ t.rest, a.m ∈ pl
  told : t.told = ((s.asks.take t.i).filter (over major)).map Ak.tag
  toldl : t.told.length ≤ t.i
theorem DC.OK.mems {x : DC} {s : Ds} (h : x.OK s) {n : Nat} {c : CA} (hc : x.cas[n]? = some c) : c.m ∈ x.pl := h.mem c (List.mem_of_getElem? hc)
section
variable (W0 : World) (Fr : List HProp)
set_option maxHeartbeats 2000000 in
theorem ready_spec {d : Nat} {s : Ds} (major : Int) : Ctr Tryz.prog W0 64 [.pointer (some ⟨d, 0, none⟩), .int .i64 major] (D d s :: Fr) (fun r : Dns => r.l.map CD.abs = rdyL s major) (fun r => r.cell) (fun r => r.G ++ (D d (rdyS s major) :: Fr)) := by
  refine Ctr.ex Ext.here d_open ?_
  intro x hx
  refine Ctr.imp star_open ?_
  have hln := hx.len
  have hok := hx.ok
  have hal := hx.ok.asks
  have hab := hx.abs
  dsimp only [DO, List.cons_append, List.nil_append]
  refine Ctr.of_body Tryz.func64 rfl Tryz.ntmps64 rfl ?_
  refine CG.seq ?_
  refine CG.region ?_
  refine OG.sg rfl rfl ?_
  refine OG.nil ?_
  refine QG.then ?_
  refine CG.seq ?_
  refine CG.region ?_
  refine OG.sg rfl rfl ?_
  refine OG.nil ?_
  refine QG.then ?_
  refine CG.seq ?_
  refine CG.region ?_
  refine OG.sg rfl rfl ?_
  refine OG.nil ?_
  refine QG.then ?_
  refine CG.seq ?_
  refine CG.region ?_
  refine OG.mv rfl rfl ?_
  refine OG.yield (Yield.nilCheck rfl) rfl ?_
  refine OG.yield (Yield.fieldAddr fa175_6 rfl) rfl ?_
  refine OG.eff (Eff.store1 ti37 rfl rfl fC rfl (by first | (simp; done) | decide)) rfl ?_
  rintro ⟨⟩ -
  refine OG.nil ?_
  refine QG.then ?_
  refine CG.seq ?_
  refine CG.seq ?_
  refine CG.region ?_
  refine OG.mv rfl rfl ?_
  refine OG.yield (Yield.nilCheck rfl) rfl ?_
  refine OG.yield (Yield.fieldAddr fa175_5 rfl) rfl ?_
  refine OG.yield (Yield.load ti173 rfl (by first | exact Cel.of_blk eX rfl | exact (hrow eX) _ _ rfl)) rfl ?_
  refine OG.yield (Yield.len_slice Tryz.underlying173 rfl rfl) rfl ?_
  refine OG.mv rfl rfl ?_
  refine OG.nil ?_
  refine QG.then ?_
  refine CG.block ?_
  refine CG.loop (fun t : Rt => t.OK s major x.pl) (fun t => [(0, .pointer (some ⟨d, 0, none⟩)), (1, .int .i64 major), (5, t.out.cell), (6, .slice t.ra t.rest.length t.rc), (16, .slice x.a x.cas.length x.c), (17, .int .i64 x.cas.length), (18, .int .i64 t.i)]) (fun t => DH d s s.last x.a x.cas.length x.c t.ta t.told.length t.tc :: oasks x.a x.c x.cas :: odone t.out.a t.out.c t.out.l :: pool t.out.ms :: oasks t.ra t.rc t.rest :: onum 27 .u32 t.ta t.tc t.told :: pool x.pl :: Fr) (fun t => x.cas.length - t.i) ⟨0, ⟨[], none, 0⟩, [], none, 0, [], none, 0⟩ ⟨Nat.zero_le _, rfl, Nat.le_refl _, rfl, Nat.le_refl _, fun a h => absurd h List.not_mem_nil, rfl, Nat.le_refl _⟩ eS (Imp.trans pool_nil (Imp.trans (osl_nil (E := 27) (sz := 1)) (Imp.trans (osl_nil (E := 177) (sz := 7)) (Imp.trans (osl_nil (E := 158) (sz := 4)) (Imp.pull eX (Imp.pull (A := oasks x.a x.c x.cas) eX (Imp.pull (A := odone none 0 []) eX (Imp.pull (A := pool []) eX (Imp.pull (A := oasks none 0 []) eX (Imp.pull (A := onum 27 .u32 none 0 []) eX (Imp.pull (A := pool x.pl) eX iM))))))))))) ?_
  rintro ⟨i, ⟨l, la, lc⟩, rest, ra, rc, told, ta, tc⟩ ⟨hi, hout, hol, hrest, hrl, hmem, htold, htl⟩
  dsimp only at hi hout hol hrest hrl hmem htold htl ⊢
  refine CG.seq ?_
  refine CG.region ?_
  refine OG.yield Yield.lssA rfl ?_
  refine OG.nil ?_
  refine QG.then ?_
  refine CG.seq ?_
  refine CG.cond rfl (fun hc => ?_) (fun hc => ?_)
  · try replace hc := of_decide_eq_true hc
    have hi' : i < x.cas.length := by omega
    have hgc : x.cas[i]? = some x.cas[i] := by simp [hi']
    generalize x.cas[i] = ca at hgc
    have hget : s.asks[i]? = some ca.abs := by rw [← hab, List.getElem?_map, hgc]; rfl
    have hdat := hok.data _ (List.mem_of_getElem? hget)
    have hcm := hx.mems hgc
    have htk : s.asks.take (i + 1) = s.asks.take i ++ [ca.abs] := by obtain ⟨hlt, hq⟩ := List.getElem?_eq_some_iff.1 hget; rw [List.take_succ_eq_append_getElem hlt, hq]
    refine CG.pure (fun w hw => shape_as (n := i) (l := x.cas) (by omega) (Ext.there Ext.here) w hw) ?_
    rintro ⟨b, o, hxa⟩
    rw [hxa]
    refine CG.skip ?_
    refine QG.then ?_
    refine CG.seq ?_
    refine CG.block ?_
    refine CG.seq ?_
    refine CG.region ?_
    refine OG.yield (Yield.index_slice Tryz.underlying173 ti177 rfl rfl (by omega) (by omega)) rfl ?_
    refine OG.yield (Yield.load_agg (vs := ca.cells) ti177 rfl (CA.len ca) (by rw [show o + (i : Int).toNat * 7 = o + i * 7 by omega]; exact (SlR.of_osl (E := 177) (a := some ⟨b, o, none⟩) eX).elem CA.len hgc)) rfl ?_
    refine OG.effd (Eff.alloc ti177) rfl ?_
    rintro b8 -
    refine OG.eff (Eff.storeAll ti177 rfl rfl fC (CA.len ca) (CA.ones ca) rfl) rfl ?_
    rintro ⟨⟩ -
    refine OG.nil ?_
    refine QG.then ?_
    refine CG.seq ?_
    refine CG.seq ?_
    rcases (show ca.st ≠ 2 ∨ (ca.st = 2 ∧ major < ca.due) ∨ (ca.st = 2 ∧ ca.due ≤ major) by omega) with hh | hh | hh
    · skip
      have hov : over major ca.abs = false := over_no1 (a := ca.abs) hh
      refine CG.region ?_
      refine OG.yield (Yield.fieldAddr fa177_6 rfl) rfl ?_
      refine OG.yield (Yield.load (v := .int .i64 ca.st) ti3 rfl (Cel.of_blk (b := b8) eX rfl)) rfl ?_
      refine OG.yield (Yield.as (Yield.neq rfl rfl) (bT hh)) rfl ?_
      refine OG.mv rfl rfl ?_
      refine OG.gn rfl rfl rfl rfl rfl ?_
      refine OG.gn rfl rfl rfl rfl rfl ?_
      refine OG.gn rfl rfl rfl rfl rfl ?_
      refine OG.gn rfl rfl rfl rfl rfl ?_
      refine OG.yield Yield.pickA rfl ?_
      refine OG.nil ?_
      refine QG.then ?_
      refine CG.cond_t rfl ?_
      refine CG.seq ?_
      refine CG.region ?_
      refine OG.mv rfl rfl ?_
      refine OG.yield (Yield.load_agg (vs := ca.cells) ti177 rfl (CA.len ca) (Row.of_blk (b := b8) eX rfl)) rfl ?_
      refine OG.effd (Eff.lit [.tmp 32] (vs := [.agg ca.cells.toArray]) (cells := ca.cells) Tryz.underlying173 ti177 rfl rfl rfl rfl (by decide) (by simp [Value.cells, CA.cells]) (by simp [Value.cells])) rfl ?_
      rintro b33 -
      refine OG.effd (Eff.append (a := ra) (c := rc) (m := rest.length) (xs := (rest.map CA.cells).flatten) (k := 1) (ys := ca.cells) rfl rfl rfl Tryz.underlying173 Tryz.underlying173 ti177 rfl (by decide) fC (SlR.of_osl (a := some ⟨b33, 0, none⟩) eX) (CA.ones _) (by omega)) rfl ?_
      rintro ⟨a34, c34⟩ -
      refine OG.sg rfl rfl ?_
      refine OG.nil ?_
      refine QG.then ?_
      refine CG.exit ?_
      refine QG.pass_exit ?_
      refine QG.block_exit ?_
      refine QG.then ?_
      refine CG.region ?_
      refine OG.yield (Yield.add rfl rfl (w64 (by omega) (by omega))) rfl ?_
      refine OG.mv rfl rfl ?_
      refine OG.nil ?_
      refine QG.next ⟨i + 1, ⟨l, la, lc⟩, rest ++ [ca], a34, c34, told, ta, tc⟩ ⟨by simp only; omega, by dsimp only; rw [htk, List.filter_append, List.map_append, hout]; simp [hov], by simp only; omega, by dsimp only; rw [htk, List.filter_append, List.map_append, hrest]; simp [hov], by simp only [List.length_append, List.length_cons, List.length_nil]; omega, fun a ha => by rcases List.mem_append.1 ha with ha | ha; exact hmem a ha; (simp only [List.mem_cons, List.not_mem_nil, or_false] at ha; subst ha; exact hcm), by dsimp only; rw [htk, List.filter_append, List.map_append, htold]; simp [hov], by simp only; omega⟩ (show x.cas.length - (i + 1) < x.cas.length - i by omega) (by dsimp only; rw [List.length_append]; exact eS) (by dsimp only [oasks]; rw [List.length_append, flat_app]; exact iM)
    · skip
      have hov : over major ca.abs = false := over_no2 (a := ca.abs) hh.2
      refine CG.region ?_
      refine OG.yield (Yield.fieldAddr fa177_6 rfl) rfl ?_
      refine OG.yield (Yield.load (v := .int .i64 ca.st) ti3 rfl (Cel.of_blk (b := b8) eX rfl)) rfl ?_
      refine OG.yield (Yield.as (Yield.neq rfl rfl) (bF (not_not_intro hh.1))) rfl ?_
      refine OG.mv rfl rfl ?_
      refine OG.gy rfl rfl rfl ?_
      refine OG.mv rfl rfl ?_
      refine OG.gy rfl rfl rfl ?_
      refine OG.yield (Yield.fieldAddr fa177_5 rfl) rfl ?_
      refine OG.gy rfl rfl rfl ?_
      refine OG.yield (Yield.load (v := .int .i64 ca.due) ti3 rfl (Cel.of_blk (b := b8) eX rfl)) rfl ?_
      refine OG.gy rfl rfl rfl ?_
      refine OG.yield Yield.lssA rfl ?_
      refine OG.yield Yield.pickA rfl ?_
      refine OG.nil ?_
      refine QG.then ?_
      refine CG.cond_t rfl ?_
      refine CG.seq ?_
      refine CG.region ?_
      refine OG.mv rfl rfl ?_
      refine OG.yield (Yield.load_agg (vs := ca.cells) ti177 rfl (CA.len ca) (Row.of_blk (b := b8) eX rfl)) rfl ?_
      refine OG.effd (Eff.lit [.tmp 32] (vs := [.agg ca.cells.toArray]) (cells := ca.cells) Tryz.underlying173 ti177 rfl rfl rfl rfl (by decide) (by simp [Value.cells, CA.cells]) (by simp [Value.cells])) rfl ?_
      rintro b33 -
      refine OG.effd (Eff.append (a := ra) (c := rc) (m := rest.length) (xs := (rest.map CA.cells).flatten) (k := 1) (ys := ca.cells) rfl rfl rfl Tryz.underlying173 Tryz.underlying173 ti177 rfl (by decide) fC (SlR.of_osl (a := some ⟨b33, 0, none⟩) eX) (CA.ones _) (by omega)) rfl ?_
      rintro ⟨a34, c34⟩ -
      refine OG.sg rfl rfl ?_
      refine OG.nil ?_
      refine QG.then ?_
      refine CG.exit ?_
      refine QG.pass_exit ?_
      refine QG.block_exit ?_
      refine QG.then ?_
      refine CG.region ?_
      refine OG.yield (Yield.add rfl rfl (w64 (by omega) (by omega))) rfl ?_
      refine OG.mv rfl rfl ?_
      refine OG.nil ?_
      refine QG.next ⟨i + 1, ⟨l, la, lc⟩, rest ++ [ca], a34, c34, told, ta, tc⟩ ⟨by simp only; omega, by dsimp only; rw [htk, List.filter_append, List.map_append, hout]; simp [hov], by simp only; omega, by dsimp only; rw [htk, List.filter_append, List.map_append, hrest]; simp [hov], by simp only [List.length_append, List.length_cons, List.length_nil]; omega, fun a ha => by rcases List.mem_append.1 ha with ha | ha; exact hmem a ha; (simp only [List.mem_cons, List.not_mem_nil, or_false] at ha; subst ha; exact hcm), by dsimp only; rw [htk, List.filter_append, List.map_append, htold]; simp [hov], by simp only; omega⟩ (show x.cas.length - (i + 1) < x.cas.length - i by omega) (by dsimp only; rw [List.length_append]; exact eS) (by dsimp only [oasks]; rw [List.length_append, flat_app]; exact iM)
    · skip
      have hov : over major ca.abs = true := over_yes (a := ca.abs) hh.1 hh.2
      refine CG.region ?_
      refine OG.yield (Yield.fieldAddr fa177_6 rfl) rfl ?_
      refine OG.yield (Yield.load (v := .int .i64 ca.st) ti3 rfl (Cel.of_blk (b := b8) eX rfl)) rfl ?_
      refine OG.yield (Yield.as (Yield.neq rfl rfl) (bF (not_not_intro hh.1))) rfl ?_
      refine OG.mv rfl rfl ?_
      refine OG.gy rfl rfl rfl ?_
      refine OG.mv rfl rfl ?_
      refine OG.gy rfl rfl rfl ?_
      refine OG.yield (Yield.fieldAddr fa177_5 rfl) rfl ?_
      refine OG.gy rfl rfl rfl ?_
      refine OG.yield (Yield.load (v := .int .i64 ca.due) ti3 rfl (Cel.of_blk (b := b8) eX rfl)) rfl ?_
      refine OG.gy rfl rfl rfl ?_
      refine OG.yield Yield.lssA rfl ?_
      refine OG.yield Yield.pickA rfl ?_
      refine OG.nil ?_
      refine QG.then ?_
      refine CG.cond_f rfl ?_
      refine CG.skip ?_
      refine QG.then ?_
      refine CG.seq ?_
      refine CG.region ?_
      refine OG.yield (Yield.fieldAddr fa177_0 rfl) rfl ?_
      refine OG.yield (Yield.load (v := .int .u32 ca.tag) ti27 rfl (Cel.of_blk (b := b8) eX rfl)) rfl ?_
      refine OG.yield (Yield.fieldAddr fa177_1 rfl) rfl ?_
      refine OG.yield (Yield.load (v := .bool ca.write) ti4 rfl (Cel.of_blk (b := b8) eX rfl)) rfl ?_
      refine OG.yield (Yield.fieldAddr fa177_3 rfl) rfl ?_
      refine OG.yield (Yield.load (v := .int .u32 ca.addr) ti27 rfl (Cel.of_blk (b := b8) eX rfl)) rfl ?_
      refine OG.yield (Yield.build (pvs := [(0, .int .u32 ca.tag), (1, .bool ca.write), (2, .int .u32 ca.addr)]) bu158 ti158 rfl (cells := CD.cells ⟨ca.tag, ca.write, ca.addr, Msg.nil⟩) rfl) rfl ?_
      refine OG.effd (Eff.alloc ti158) rfl ?_
      rintro b9 -
      refine OG.eff (Eff.storeAll ti158 rfl rfl fC (CD.len ⟨ca.tag, ca.write, ca.addr, Msg.nil⟩) (CD.ones ⟨ca.tag, ca.write, ca.addr, Msg.nil⟩) rfl) rfl ?_
      rintro ⟨⟩ -
      refine OG.nil ?_
      refine QG.then ?_
      refine CG.cut (fun m : Msg => m.b = if ca.write then [] else ca.m.b) (fun _ => [(0, .pointer (some ⟨d, 0, none⟩)), (1, .int .i64 major), (5, .slice la l.length lc), (6, .slice ra rest.length rc), (8, .pointer (some ⟨b8, 0, none⟩)), (9, .pointer (some ⟨b9, 0, none⟩)), (16, .slice (some ⟨b, o, none⟩) x.cas.length x.c), (17, .int .i64 x.cas.length), (18, .int .i64 i)]) (fun m => blk b9 (CD.cells ⟨ca.tag, ca.write, ca.addr, m⟩) 158 :: m.own :: blk b8 ca.cells 177 :: DH d s s.last (some ⟨b, o, none⟩) x.cas.length x.c ta told.length tc :: oasks (some ⟨b, o, none⟩) x.c x.cas :: odone la lc l :: pool (l.map CD.m) :: oasks ra rc rest :: onum 27 .u32 ta tc told :: pool x.pl :: Fr) ?_ ?_
      · skip
        refine CG.seq ?_
        refine CG.region ?_
        refine OG.yield (Yield.fieldAddr fa177_1 rfl) rfl ?_
        refine OG.yield (Yield.load (v := .bool ca.write) ti4 rfl (Cel.of_blk (b := b8) eX rfl)) rfl ?_
        refine OG.yield (Yield.not rfl) rfl ?_
        refine OG.nil ?_
        refine QG.then ?_
        refine CG.cond rfl (fun hc => ?_) (fun hc => ?_)
        · try replace hc := of_decide_eq_true hc
          have hwf : ca.write = false := by simpa using hc
          refine CG.region ?_
          refine OG.yield (Yield.fieldAddr fa177_4 rfl) rfl ?_
          refine OG.yield (Yield.load (v := ca.m.cell) ti32 rfl (Cel.of_blk (b := b8) eX rfl)) rfl ?_
          refine OG.callo call94 rfl (Imp.refl _) (cloneB_spec W0 _ (a := ca.m.a) (c := ca.m.c) (bs := ca.m.b) (by exact pool_rd (ms := x.pl) eX hcm) (by have h9 : (CA.abs ca).data = ca.m.b := rfl; rw [h9] at hdat; omega)) rfl ?_
          rintro m hm
          refine OG.yield (Yield.fieldAddr fa158_3 rfl) rfl ?_
          refine OG.eff (Eff.store1 ti32 rfl rfl fC rfl (by rw [CD.len]; decide)) rfl ?_
          rintro ⟨⟩ -
          refine OG.nil ?_
          exact QG.mid m (by rw [hwf]; exact hm) eS iM
        · try replace hc := of_decide_eq_false hc
          have hwt : ca.write = true := by simpa using hc
          refine CG.skip ?_
          exact QG.mid Msg.nil (by rw [hwt]; rfl) eS (Imp.trans own_nil iM)
      rintro m hm
      refine CG.seq ?_
      refine CG.region ?_
      refine OG.mv rfl rfl ?_
      refine OG.yield (Yield.load_agg (vs := CD.cells ⟨ca.tag, ca.write, ca.addr, m⟩) ti158 rfl (CD.len _) (Row.of_blk (b := b9) eX rfl)) rfl ?_
      refine OG.effd (Eff.lit [.tmp 50] (vs := [.agg (CD.cells ⟨ca.tag, ca.write, ca.addr, m⟩).toArray]) (cells := CD.cells ⟨ca.tag, ca.write, ca.addr, m⟩) Tryz.underlying130 ti158 rfl rfl rfl rfl (by decide) (by simp [Value.cells, CD.cells]) (by simp [Value.cells])) rfl ?_
      rintro b51 -
      refine OG.effd (Eff.append (a := la) (c := lc) (m := l.length) (xs := (l.map CD.cells).flatten) (k := 1) (ys := CD.cells ⟨ca.tag, ca.write, ca.addr, m⟩) rfl rfl rfl Tryz.underlying130 Tryz.underlying130 ti158 rfl (by decide) fC (SlR.of_osl (a := some ⟨b51, 0, none⟩) eX) (CD.ones _) (by omega)) rfl ?_
      rintro ⟨a52, c52⟩ -
      refine OG.sg rfl rfl ?_
      refine OG.nil ?_
      refine QG.then ?_
      refine CG.draw (.look 0 0 (.look 1 0 (.look 2 0 (.look 3 0 (.look 4 2 (.look 5 1 (.look 6 1 (.eff1 7 false (.eff1 8 false (.look 9 1 (.look 10 1 (.eff1 11 true (.done))))))))))))) [7, 8, 11] [4] ([]) ([DH d s s.last (some ⟨b, o, none⟩) x.cas.length x.c ta told.length tc]) mixed (by kernel_rfl) (Imp.none _) (iM) ?_
      refine DG.look rfl rfl (Yield.move rfl) rfl ?_
      refine DG.look rfl rfl (Yield.move rfl) rfl ?_
      refine DG.look rfl rfl (Yield.nilCheck rfl) rfl ?_
      refine DG.look rfl rfl (Yield.fieldAddr fa175_6 rfl) rfl ?_
      refine DG.look rfl rfl (Yield.load (v := .slice ta told.length tc) ti37 rfl (Cel.of_blk (b := d) eX rfl)) rfl ?_
      refine DG.look rfl rfl (Yield.fieldAddr fa177_0 rfl) rfl ?_
      refine DG.look rfl rfl (Yield.load (v := .int .u32 ca.tag) ti27 rfl (Cel.of_blk (b := b8) eX rfl)) rfl ?_
      refine DG.eff1 ?_
      refine Chg.eff rfl rfl (Eff.lit1 Tryz.underlying37 ti27 rfl rfl rfl) rfl (fun _ => iM) (fun _ => Imp.refl _) (fun _ => iM) ?_
      rintro b60 -
      refine DG.eff1 ?_
      refine Chg.eff rfl rfl (Eff.append (a := ta) (c := tc) (m := told.length) (xs := intsV .u32 told) (k := 1) (ys := [.int .u32 ca.tag]) rfl rfl rfl Tryz.underlying37 Tryz.underlying37 ti27 rfl (by decide) fC (SlR.of_osl (a := some ⟨b60, 0, none⟩) eX) (by simp [one]) (by omega)) rfl (fun _ => iM) (fun _ => Imp.refl _) (fun _ => iM) ?_
      rintro ⟨a61, c61⟩ -
      refine DG.look rfl rfl (Yield.nilCheck rfl) rfl ?_
      refine DG.look rfl rfl (Yield.fieldAddr fa175_6 rfl) rfl ?_
      refine DG.eff1 ?_
      refine Chg.eff rfl rfl (Eff.store1 ti37 rfl rfl fC rfl (by first | (simp; done) | decide)) rfl (fun _ => iM) (fun _ => Imp.refl _) (fun _ => iM) ?_
      rintro ⟨⟩ -
      refine DG.done ?_
      refine QG.block_normal ?_
      refine QG.then ?_
      refine CG.region ?_
      refine OG.yield (Yield.add rfl rfl (w64 (by omega) (by omega))) rfl ?_
      refine OG.mv rfl rfl ?_
      refine OG.nil ?_
      refine QG.next ⟨i + 1, ⟨l ++ [⟨ca.tag, ca.write, ca.addr, m⟩], a52, c52⟩, rest, ra, rc, told ++ [ca.tag], a61, c61⟩ ⟨?_, ?_, ?_, ?_, ?_, hmem, ?_, ?_⟩ (show x.cas.length - (i + 1) < x.cas.length - i by omega) (by dsimp only [Dns.cell]; rw [List.length_append]; exact eS) ?_
      · simp only; omega
      · dsimp only; rw [htk, List.filter_append, List.map_append, List.map_append, hout, show [ca.abs].filter (over major) = [ca.abs] by simp [hov]]; simp [CD.abs, done, CA.abs, hm]
      · simp only [List.length_append, List.length_cons, List.length_nil]; omega
      · dsimp only; rw [htk, List.filter_append, hrest]; simp [hov]
      · simp only; omega
      · dsimp only; rw [htk, List.filter_append, List.map_append, htold, show [ca.abs].filter (over major) = [ca.abs] by simp [hov]]; rfl
      · simp only [List.length_append, List.length_cons, List.length_nil]; omega
      · dsimp only [Dns.ms, odone]
        rw [show (l ++ [(⟨ca.tag, ca.write, ca.addr, m⟩ : CD)]).length = l.length + 1 by simp, flat_app, List.map_append, onum_app, show (told ++ [ca.tag]).length = told.length + 1 by simp]
        exact Imp.trans (Imp.trans (Imp.pull (A := m.own) eX (Imp.pull (A := pool (l.map CD.m)) eX (Imp.refl _))) pool_add) iM
  · try replace hc := of_decide_eq_false hc
    refine CG.exit ?_
    refine QG.pass_exit ?_
    refine QG.pass_exit ?_
    refine QG.block_exit ?_
    refine QG.then ?_
    refine CG.seq ?_
    refine CG.region ?_
    refine OG.mv rfl rfl ?_
    refine OG.mv rfl rfl ?_
    refine OG.yield (Yield.nilCheck rfl) rfl ?_
    refine OG.yield (Yield.fieldAddr fa175_5 rfl) rfl ?_
    refine OG.eff (Eff.store1 ti173 rfl rfl fC rfl (by first | (simp; done) | decide)) rfl ?_
    rintro ⟨⟩ -
    refine OG.nil ?_
    refine QG.then ?_
    refine CG.seq ?_
    refine CG.region ?_
    refine OG.mv rfl rfl ?_
    refine OG.sg rfl rfl ?_
    refine OG.nil ?_
    refine QG.then ?_
    refine CG.ret ?_
    have hie : i = s.asks.length := by omega
    subst hie
    rw [List.take_length] at hout hrest htold
    subst htold
    have hcl2 := d_close (d := d) (G := Fr) (s := rdyS s major) ⟨rest, x.pl, ra, rc, ta, tc⟩ ⟨hrest, hmem, ⟨hok.part, hok.first, hok.count, hok.lat, Nat.le_trans (List.length_filter_le _ _) hok.asks, by dsimp only [rdyS]; omega, fun a ha => hok.data a (List.mem_filter.1 ha).1, fun a ha => hok.sec a (List.mem_filter.1 ha).1⟩⟩
    dsimp only [DO, List.cons_append, List.nil_append] at hcl2
    exact QG.ret1 rfl rfl ⟨l, la, lc⟩ hout rfl (Imp.pull eX (Imp.pull eX (Imp.trans iM hcl2)))
theorem waiting_spec {d : Nat} {s : Ds} : Ctr Tryz.prog W0 38 [.pointer (some ⟨d, 0, none⟩)] (D d s :: Fr) (fun _ : Option Addr × Nat => True) (fun q => .slice q.1 (s.asks.map Ak.tag).length q.2) (fun q => onum 27 .u32 q.1 q.2 (s.asks.map Ak.tag) :: D d s :: Fr) := by
  refine Ctr.ex Ext.here d_open ?_
  intro x hx
  refine Ctr.imp star_open ?_
  have hln := hx.len
  have hok := hx.ok
  have hal := hx.ok.asks
  have hab := hx.abs
  have hcl := d_close (d := d) (G := Fr) x hx
  dsimp only [DO, List.cons_append, List.nil_append] at hcl ⊢
  refine Ctr.of_body Tryz.func38 rfl Tryz.ntmps38 rfl ?_
  refine CG.seq ?_
  refine CG.region ?_
  refine OG.sg rfl rfl ?_
  refine OG.nil ?_
  refine QG.then ?_
  refine CG.seq ?_
  refine CG.region ?_
  refine OG.sg rfl rfl ?_
  refine OG.nil ?_
  refine QG.then ?_
  refine CG.seq ?_
  refine CG.seq ?_
  refine CG.region ?_
  refine OG.mv rfl rfl ?_
  refine OG.yield (Yield.nilCheck rfl) rfl ?_
  refine OG.yield (Yield.fieldAddr fa175_5 rfl) rfl ?_
  refine OG.yield (Yield.load ti173 rfl (by first | exact Cel.of_blk eX rfl | exact (hrow eX) _ _ rfl)) rfl ?_
  refine OG.yield (Yield.len_slice Tryz.underlying173 rfl rfl) rfl ?_
  refine OG.mv rfl rfl ?_
  refine OG.nil ?_
  refine QG.then ?_
  refine CG.block ?_
  refine CG.loop (fun t : Nat × List Int × Option Addr × Nat => t.1 ≤ s.asks.length ∧ t.2.1 = (s.asks.take t.1).map Ak.tag) (fun t => [(0, .pointer (some ⟨d, 0, none⟩)), (3, .slice t.2.2.1 t.2.1.length t.2.2.2), (9, .slice x.a x.cas.length x.c), (10, .int .i64 x.cas.length), (11, .int .i64 t.1)]) (fun t => onum 27 .u32 t.2.2.1 t.2.2.2 t.2.1 :: DH d s s.last x.a x.cas.length x.c x.ta s.told.length x.tc :: oasks x.a x.c x.cas :: onum 27 .u32 x.ta x.tc s.told :: pool x.pl :: Fr) (fun t => x.cas.length - t.1) (0, [], none, 0) ⟨Nat.zero_le _, rfl⟩ eS (osl_nil (E := 27) (sz := 1)) ?_
  rintro ⟨i, l, la, lc⟩ ⟨hi, hl⟩
  dsimp only at hi hl ⊢
  have hll : l.length = i := by rw [hl, List.length_map, List.length_take]; omega
  refine CG.seq ?_
  refine CG.region ?_
  refine OG.yield Yield.lssA rfl ?_
  refine OG.nil ?_
  refine QG.then ?_
  refine CG.seq ?_
  refine CG.cond rfl (fun hc => ?_) (fun hc => ?_)
  · try replace hc := of_decide_eq_true hc
    have hi' : i < x.cas.length := by omega
    have hgc : x.cas[i]? = some x.cas[i] := by simp [hi']
    generalize x.cas[i] = ca at hgc
    have hget : s.asks[i]? = some ca.abs := by rw [← hab, List.getElem?_map, hgc]; rfl
    have htk : s.asks.take (i + 1) = s.asks.take i ++ [ca.abs] := by obtain ⟨hlt, hq⟩ := List.getElem?_eq_some_iff.1 hget; rw [List.take_succ_eq_append_getElem hlt, hq]
    refine CG.pure (fun w hw => shape_as (n := i) (l := x.cas) (by omega) eX w hw) ?_
    rintro ⟨b, o, hxa⟩
    rw [hxa]
    refine CG.skip ?_
    refine QG.then ?_
    refine CG.seq ?_
    refine CG.block ?_
    refine CG.seq ?_
    refine CG.region ?_
    refine OG.yield (Yield.index_slice Tryz.underlying173 ti177 rfl rfl (by omega) (by omega)) rfl ?_
    refine OG.yield (Yield.load_agg (vs := ca.cells) ti177 rfl (CA.len ca) (by rw [show o + (i : Int).toNat * 7 = o + i * 7 by omega]; exact (SlR.of_osl (E := 177) (a := some ⟨b, o, none⟩) eX).elem CA.len hgc)) rfl ?_
    refine OG.effd (Eff.alloc ti177) rfl ?_
    rintro b5 -
    refine OG.eff (Eff.storeAll ti177 rfl rfl fC (CA.len ca) (CA.ones ca) rfl) rfl ?_
    rintro ⟨⟩ -
    refine OG.nil ?_
    refine QG.then ?_
    refine CG.region ?_
    refine OG.mv rfl rfl ?_
    refine OG.yield (Yield.fieldAddr fa177_0 rfl) rfl ?_
    refine OG.yield (Yield.load (v := .int .u32 ca.tag) ti27 rfl (Cel.of_blk (b := b5) eX rfl)) rfl ?_
    refine OG.effd (Eff.lit1 Tryz.underlying37 ti27 rfl rfl rfl) rfl ?_
    rintro b18 -
    refine OG.effd (Eff.append (a := la) (c := lc) (m := l.length) (xs := intsV .u32 l) (k := 1) (ys := [.int .u32 ca.tag]) rfl rfl rfl Tryz.underlying37 Tryz.underlying37 ti27 rfl (by decide) fC (SlR.of_osl (a := some ⟨b18, 0, none⟩) eX) (by simp [one]) (by omega)) rfl ?_
    rintro ⟨a19, c19⟩ -
    refine OG.sg rfl rfl ?_
    refine OG.nil ?_
    refine QG.block_normal ?_
    refine QG.then ?_
    refine CG.region ?_
    refine OG.yield (Yield.add rfl rfl (w64 (by omega) (by omega))) rfl ?_
    refine OG.mv rfl rfl ?_
    refine OG.nil ?_
    refine QG.next (i + 1, l ++ [ca.tag], a19, c19) ⟨by simp only; omega, ?_⟩ (show x.cas.length - (i + 1) < x.cas.length - i by omega) (by dsimp only; rw [List.length_append]; exact eS) (by dsimp only; rw [onum_app]; exact iM)
    dsimp only; rw [htk, List.map_append, hl]; rfl
  · try replace hc := of_decide_eq_false hc
    refine CG.exit ?_
    refine QG.pass_exit ?_
    refine QG.pass_exit ?_
    refine QG.block_exit ?_
    refine QG.then ?_
    refine CG.seq ?_
    refine CG.region ?_
    refine OG.mv rfl rfl ?_
    refine OG.sg rfl rfl ?_
    refine OG.nil ?_
    refine QG.then ?_
    refine CG.ret ?_
    have hie : i = s.asks.length := by omega
    subst hie
    rw [List.take_length] at hl
    subst hl
    exact QG.ret1 rfl rfl (la, lc) trivial rfl (Imp.pull eX (Imp.trans iM hcl))
theorem told_spec {d : Nat} {s : Ds} : Ctr Tryz.prog W0 39 [.pointer (some ⟨d, 0, none⟩)] (D d s :: Fr) (fun _ : Option Addr × Nat => True) (fun q => .slice q.1 s.told.length q.2) (fun q => onum 27 .u32 q.1 q.2 s.told :: D d s :: Fr) := by
  refine Ctr.ex Ext.here d_open ?_
  intro x hx
  refine Ctr.imp star_open ?_
  have htl := hx.ok.told
  have hcl := d_close (d := d) (G := Fr) x hx
  dsimp only [DO, List.cons_append, List.nil_append] at hcl ⊢
  refine Ctr.of_body Tryz.func39 rfl Tryz.ntmps39 rfl ?_
  refine CG.seq ?_
  refine CG.region ?_
  refine OG.sg rfl rfl ?_
  refine OG.nil ?_
  refine QG.then ?_
  refine CG.seq ?_
  refine CG.region ?_
  refine OG.mv rfl rfl ?_
  refine OG.yield (Yield.nilCheck rfl) rfl ?_
  refine OG.yield (Yield.fieldAddr fa175_6 rfl) rfl ?_
  refine OG.yield (Yield.load ti37 rfl (by first | exact Cel.of_blk eX rfl | exact (hrow eX) _ _ rfl)) rfl ?_
  refine OG.callo call92 rfl (Imp.refl _) (cloneU_spec W0 _ (a := x.ta) (c := x.tc) (l := s.told) (by exact SlR.of_osl (E := 27) eX) (by omega)) rfl ?_
  rintro ⟨a7, c7⟩ -
  refine OG.sg rfl rfl ?_
  refine OG.nil ?_
  refine QG.then ?_
  refine CG.ret ?_
  exact QG.ret1 rfl rfl (a7, c7) trivial rfl (Imp.cons hcl)
end
end Go.Proofs.YtphljkplokjonaaGreat.Vd
/- ports.Ports as channels with lists of messages: what each function does. -/
namespace Go.Proofs.YtphljkplokjonaaGreat.Po
open Go Go.Sl Go.RowKit Go.Proofs Go.Proofs.YtphljkplokjonaaGreat.T
set_option maxRecDepth 100000
abbrev B := List UInt8
/-- A message where it lies. -/
structure Msg where
  a : Option Addr
  c : Nat
  b : B
def Msg.cell (m : Msg) : Value := .slice m.a m.b.length m.c
abbrev Msg.own (m : Msg) : HProp := oby 5 m.a m.c m.b
abbrev pool (ms : List Msg) : HProp := Star (ms.map Msg.own)
/-- An end where it lies: its slice of messages. -/
structure End where
  a : Option Addr
  c : Nat
  ms : List Msg
def End.bs (x : End) : List B := x.ms.map Msg.b
def End.cell (x : End) : Value := .slice x.a x.ms.length x.c
abbrev oend (x : End) : HProp := osl 32 1 x.a x.c x.ms.length (x.ms.map Msg.cell)
theorem pool_nil {G : List HProp} : Imp G (pool [] :: G) := star_nil
theorem pool_add {G : List HProp} {m : Msg} {ms : List Msg} : Imp (m.own :: pool ms :: G) (pool (ms ++ [m]) :: G) := by
  have h := star_add (L := ms.map Msg.own) (A := m.own) (G := G)
  unfold pool; rw [List.map_append]; exact h
theorem pool_one {G : List HProp} {m : Msg} : Imp (m.own :: G) (pool [m] :: G) := Imp.trans (Imp.cons star_nil) (pool_add (ms := []))
theorem pool_join {G : List HProp} {ms ns : List Msg} : Imp (pool ms :: pool ns :: G) (pool (ms ++ ns) :: G) := by
  have h := star_join (L := ms.map Msg.own) (M := ns.map Msg.own) (G := G)
  unfold pool; rw [List.map_append]; exact h
theorem pool_rd {W0 : World} {G R : List HProp} {ms : List Msg} (x : Ext G (pool ms) R) {m : Msg} (h : m ∈ ms) : RdB W0 G m.a m.c m.b :=
  RdB.of_star (E := 5) x (List.mem_map_of_mem h)
section
variable (W0 : World) (Fr : List HProp)
theorem own_spec {a : Option Addr} {c : Nat} {bs : B} (hr : SlR W0 Fr 1 a bs.length (bytesV bs)) (hb : bs.length ≤ 2 ^ 47) : Ctr Tryz.prog W0 98 [.slice a bs.length c] Fr (fun _ : Nat => True) (fun x => .slice (some ⟨x, 0, none⟩) bs.length bs.length) (fun x => oby 5 (some ⟨x, 0, none⟩) bs.length bs :: Fr) := by
  refine Ctr.of_body Tryz.func98 rfl Tryz.ntmps98 rfl ?_
  refine CG.seq ?_
  refine CG.region ?_
  refine OG.sg rfl rfl ?_
  refine OG.nil ?_
  refine QG.then ?_
  refine CG.seq ?_
  refine CG.region ?_
  refine OG.mv rfl rfl ?_
  refine OG.yield (Yield.len_slice Tryz.underlying32 rfl rfl) rfl ?_
  refine OG.effd (Eff.makeB bs.length Tryz.underlying32 ti5 rfl rfl (by omega)) rfl ?_
  rintro b6 -
  refine OG.sg rfl rfl ?_
  refine OG.nil ?_
  refine QG.then ?_
  refine CG.seq ?_
  refine CG.region ?_
  refine OG.mv rfl rfl ?_
  refine OG.mv rfl rfl ?_
  refine OG.effd (Eff.copyB (bs := List.replicate bs.length 0) (ys := bs) rfl rfl rfl Tryz.underlying32 ti5 fC (hr.imp iM) (by rw [List.length_replicate]) rfl) rfl ?_
  rintro ⟨⟩ -
  refine OG.nil ?_
  refine QG.then ?_
  refine CG.seq ?_
  refine CG.region ?_
  refine OG.mv rfl rfl ?_
  refine OG.sg rfl rfl ?_
  refine OG.nil ?_
  refine QG.then ?_
  refine CG.ret ?_
  exact QG.ret1 rfl rfl b6 trivial (by rw [List.length_replicate]) iM
theorem all_spec {b o : Nat} {x : End} (hc : Cel W0 Fr ⟨b, o, none⟩ x.cell) (hs : SlR W0 Fr 1 x.a x.ms.length (x.ms.map Msg.cell)) (hm : ∀ m ∈ x.ms, RdB W0 Fr m.a m.c m.b) (hl : x.ms.length ≤ 1000) (hbl : ∀ m ∈ x.ms, m.b.length ≤ 2 ^ 40) :
    Ctr Tryz.prog W0 96 [.pointer (some ⟨b, o, none⟩)] Fr (fun y : End => y.bs = x.bs) (fun y => y.cell) (fun y => oend y :: pool y.ms :: Fr) := by
  refine Ctr.of_body Tryz.func96 rfl Tryz.ntmps96 rfl ?_
  refine CG.seq ?_
  refine CG.region ?_
  refine OG.sg rfl rfl ?_
  refine OG.nil ?_
  refine QG.then ?_
  refine CG.seq ?_
  refine CG.region ?_
  refine OG.sg rfl rfl ?_
  refine OG.nil ?_
  refine QG.then ?_
  refine CG.seq ?_
  refine CG.seq ?_
  refine CG.region ?_
  refine OG.mv rfl rfl ?_
  refine OG.yield (Yield.nilCheck rfl) rfl ?_
  refine OG.yield (Yield.fieldAddr fa189_0 rfl) rfl ?_
  refine OG.yield (Yield.load (v := x.cell) ti67 rfl hc) rfl ?_
  refine OG.yield (Yield.len_slice (a := x.a) (m := x.ms.length) (c := x.c) Tryz.underlying67 rfl rfl) rfl ?_
  refine OG.mv rfl rfl ?_
  refine OG.nil ?_
  refine QG.then ?_
  refine CG.block ?_
  refine CG.loop (fun s : Nat × End => s.1 ≤ x.ms.length ∧ s.2.bs = (x.ms.take s.1).map Msg.b) (fun s => [(3, s.2.cell), (9, x.cell), (10, .int .i64 x.ms.length), (11, .int .i64 s.1)]) (fun s => oend s.2 :: pool s.2.ms :: Fr) (fun s => x.ms.length - s.1) (0, ⟨none, 0, []⟩) ⟨Nat.zero_le _, rfl⟩ eS (Imp.trans pool_nil (osl_nil (E := 32) (sz := 1))) ?_
  rintro ⟨i, y⟩ ⟨hi, hy⟩
  dsimp only at hi hy ⊢
  have hyl : y.ms.length = i := by have := congrArg List.length hy; unfold End.bs at this; simp only [List.length_map, List.length_take] at this; omega
  refine CG.seq ?_
  refine CG.region ?_
  refine OG.yield Yield.lssA rfl ?_
  refine OG.nil ?_
  refine QG.then ?_
  refine CG.seq ?_
  refine CG.cond rfl (fun hc => ?_) (fun hc => ?_)
  · try replace hc := of_decide_eq_true hc
    have hi' : i < x.ms.length := by omega
    have hget : x.ms[i]? = some x.ms[i] := by simp [hi']
    have hmm := hm x.ms[i] (List.getElem_mem hi')
    have hml := hbl x.ms[i] (List.getElem_mem hi')
    generalize x.ms[i] = m at hget hmm hml
    refine CG.pure (fun w hw => SlR.shape (hs.imp iM) (by intro h; have := congrArg List.length h; simp only [List.length_map, List.length_nil] at this; omega) w hw) ?_
    rintro ⟨bx, ox, hxa⟩
    refine CG.skip ?_
    refine QG.then ?_
    refine CG.seq ?_
    refine CG.block ?_
    refine CG.seq ?_
    refine CG.region ?_
    refine OG.yield (Yield.index_slice (b := bx) (o := ox) (m := x.ms.length) (c := x.c) Tryz.underlying67 ti32 (by unfold End.cell; rw [hxa]; rfl) rfl (by omega) (by omega)) rfl ?_
    refine OG.yield (Yield.load (v := m.cell) ti32 rfl (by rw [show ox + (i : Int).toNat * 1 = ox + i by omega]; exact SlR.cel (by rw [← hxa]; exact hs.imp iM) (by rw [List.getElem?_map, hget]; rfl))) rfl ?_
    refine OG.sg rfl rfl ?_
    refine OG.nil ?_
    refine QG.then ?_
    refine CG.region ?_
    refine OG.mv rfl rfl ?_
    refine OG.mv rfl rfl ?_
    refine OG.callo call98 rfl (Imp.refl _) (own_spec W0 _ (a := m.a) (c := m.c) (bs := m.b) (by exact (hmm.imp iM).slR) (by omega)) rfl ?_
    rintro bm -
    refine OG.effd (Eff.lit1 Tryz.underlying67 ti32 rfl rfl rfl) rfl ?_
    rintro b18 -
    refine OG.effd (Eff.append (a := y.a) (c := y.c) (k := 1) (ys := [Msg.cell ⟨some ⟨bm, 0, none⟩, m.b.length, m.b⟩]) rfl rfl rfl Tryz.underlying67 Tryz.underlying67 ti32 rfl (by decide) fC (SlR.of_osl (a := some ⟨b18, 0, none⟩) eX) (by simp [one, Msg.cell]) (by omega)) rfl ?_
    rintro ⟨a19, c19⟩ -
    refine OG.sg rfl rfl ?_
    refine OG.nil ?_
    refine QG.block_normal ?_
    refine QG.then ?_
    refine CG.region ?_
    refine OG.yield (Yield.add rfl rfl (w64 (by omega) (by omega))) rfl ?_
    refine OG.mv rfl rfl ?_
    refine OG.nil ?_
    refine QG.next (i + 1, ⟨a19, c19, y.ms ++ [⟨some ⟨bm, 0, none⟩, m.b.length, m.b⟩]⟩) ⟨by simp only; omega, ?_⟩ (by simp only; omega) ?_ ?_
    · obtain ⟨hlt, rfl⟩ := List.getElem?_eq_some_iff.1 hget
      unfold End.bs at hy ⊢
      rw [List.map_append, hy, List.take_succ_eq_append_getElem hlt, List.map_append]; rfl
    · unfold End.cell; dsimp only; rw [List.length_append]; exact eS
    · dsimp only; rw [show oend ⟨a19, c19, y.ms ++ [⟨some ⟨bm, 0, none⟩, m.b.length, m.b⟩]⟩ = osl 32 1 a19 c19 (y.ms.length + 1) (y.ms.map Msg.cell ++ [Msg.cell ⟨some ⟨bm, 0, none⟩, m.b.length, m.b⟩]) by unfold oend; rw [List.length_append, List.map_append]; rfl]
      exact Imp.trans (Imp.pull eX (Imp.pull (A := Msg.own ⟨some ⟨bm, 0, none⟩, m.b.length, m.b⟩) eX iM)) (Imp.cons pool_add)
  · try replace hc := of_decide_eq_false hc
    refine CG.exit ?_
    refine QG.pass_exit ?_
    refine QG.pass_exit ?_
    refine QG.block_exit ?_
    refine QG.then ?_
    refine CG.seq ?_
    refine CG.region ?_
    refine OG.mv rfl rfl ?_
    refine OG.sg rfl rfl ?_
    refine OG.nil ?_
    refine QG.then ?_
    refine CG.ret ?_
    have : i = x.ms.length := by omega
    subst this
    rw [List.take_length] at hy
    exact QG.ret1 rfl rfl y hy rfl iM
theorem size_spec {b o : Nat} {sz : Int} (h : Cel W0 Fr ⟨b, o + 3, none⟩ (.int .i64 sz)) : Ctr Tryz.prog W0 97 [.pointer (some ⟨b, o, none⟩)] Fr (fun _ : Unit => True) (fun _ => .int .i64 (max 0 (min sz 64))) (fun _ => Fr) := by
  refine Ctr.of_body Tryz.func97 rfl Tryz.ntmps97 rfl ?_
  refine CG.seq ?_
  refine CG.region ?_
  refine OG.sg rfl rfl ?_
  refine OG.nil ?_
  refine QG.then ?_
  refine CG.seq ?_
  refine CG.region ?_
  refine OG.mv rfl rfl ?_
  refine OG.yield (Yield.nilCheck rfl) rfl ?_
  refine OG.yield (Yield.fieldAddr fa191_0 rfl) rfl ?_
  refine OG.yield (Yield.fieldAddr fa156_3 rfl) rfl ?_
  refine OG.yield (Yield.load (v := .int .i64 sz) ti3 rfl h) rfl ?_
  refine OG.yield (Yield.min2 rfl rfl) rfl ?_
  refine OG.yield (Yield.max2 rfl rfl) rfl ?_
  refine OG.sg rfl rfl ?_
  refine OG.nil ?_
  refine QG.then ?_
  refine CG.ret ?_
  exact QG.ret1 rfl rfl () trivial rfl (Imp.refl _)
def dep (kind depth : Int) : Int := if kind = 2 then max 1 (min depth 8) else 1
theorem depth_spec {b o : Nat} {kd d : Int} (h0 : Cel W0 Fr ⟨b, o, none⟩ (.int .i64 kd)) (h4 : Cel W0 Fr ⟨b, o + 4, none⟩ (.int .i64 d)) : Ctr Tryz.prog W0 99 [.pointer (some ⟨b, o, none⟩)] Fr (fun _ : Unit => True) (fun _ => .int .i64 (dep kd d)) (fun _ => Fr) := by
  refine Ctr.of_body Tryz.func99 rfl Tryz.ntmps99 rfl ?_
  refine CG.seq ?_
  refine CG.region ?_
  refine OG.sg rfl rfl ?_
  refine OG.nil ?_
  refine QG.then ?_
  refine CG.seq ?_
  refine CG.seq ?_
  rcases (show kd = 2 ∨ kd ≠ 2 by omega) with hk | hk
  · skip
    refine CG.region ?_
    refine OG.mv rfl rfl ?_
    refine OG.yield (Yield.nilCheck rfl) rfl ?_
    refine OG.yield (Yield.fieldAddr fa191_0 rfl) rfl ?_
    refine OG.yield (Yield.fieldAddr fa156_0 rfl) rfl ?_
    refine OG.yield (Yield.load (v := .int .i64 kd) ti3 rfl h0) rfl ?_
    refine OG.yield Yield.neqA rfl ?_
    refine OG.nil ?_
    refine QG.then ?_
    refine CG.cond_f rfl ?_
    refine CG.skip ?_
    refine QG.then ?_
    refine CG.seq ?_
    refine CG.region ?_
    refine OG.mv rfl rfl ?_
    refine OG.yield (Yield.nilCheck rfl) rfl ?_
    refine OG.yield (Yield.fieldAddr fa191_0 rfl) rfl ?_
    refine OG.yield (Yield.fieldAddr fa156_4 rfl) rfl ?_
    refine OG.yield (Yield.load (v := .int .i64 d) ti3 rfl h4) rfl ?_
    refine OG.yield (Yield.min2 rfl rfl) rfl ?_
    refine OG.yield (Yield.max2 rfl rfl) rfl ?_
    refine OG.sg rfl rfl ?_
    refine OG.nil ?_
    refine QG.then ?_
    refine CG.ret ?_
    exact QG.ret1 rfl rfl () trivial (by unfold dep; rw [if_pos hk]) (Imp.refl _)
  · skip
    refine CG.region ?_
    refine OG.mv rfl rfl ?_
    refine OG.yield (Yield.nilCheck rfl) rfl ?_
    refine OG.yield (Yield.fieldAddr fa191_0 rfl) rfl ?_
    refine OG.yield (Yield.fieldAddr fa156_0 rfl) rfl ?_
    refine OG.yield (Yield.load (v := .int .i64 kd) ti3 rfl h0) rfl ?_
    refine OG.yield Yield.neqA rfl ?_
    refine OG.nil ?_
    refine QG.then ?_
    refine CG.cond_t rfl ?_
    refine CG.seq ?_
    refine CG.region ?_
    refine OG.sg rfl rfl ?_
    refine OG.nil ?_
    refine QG.then ?_
    refine CG.ret ?_
    refine QG.pass_ret ?_
    exact QG.ret1 rfl rfl () trivial (by unfold dep; rw [if_neg hk]) (Imp.refl _)
end
/-- A channel where it lies. -/
structure Chan where
  kind : Int
  from_ : Int
  to : Int
  size : Int
  depth : Int
  s : End
  r : End
def Chan.cells (ch : Chan) : List Value := [.int .i64 ch.kind, .int .i64 ch.from_, .int .i64 ch.to, .int .i64 ch.size, .int .i64 ch.depth, ch.s.cell, ch.r.cell]
theorem Chan.len (ch : Chan) : ch.cells.length = 7 := rfl
theorem Chan.ones (ch : Chan) : ∀ v ∈ ch.cells, one v = true := by simp [Chan.cells, one, End.cell]
abbrev Chan.own (ch : Chan) : HProp := Star [oend ch.s, oend ch.r]
/-- A channel. -/
structure AC where
  kind : Int
  from_ : Int
  to : Int
  size : Int
  depth : Int
  s : List B
  r : List B
def Chan.abs (ch : Chan) : AC := ⟨ch.kind, ch.from_, ch.to, ch.size, ch.depth, ch.s.bs, ch.r.bs⟩
/-- As many messages as may be, and no longer ones. -/
structure AC.OK (a : AC) : Prop where
  s : a.s.length ≤ 8
  r : a.r.length ≤ 8
  sl : ∀ m ∈ a.s, m.length ≤ 64
  rl : ∀ m ∈ a.r, m.length ≤ 64
structure PC where
  chs : List Chan
  pl : List Msg
  a : Option Addr
  c : Nat
abbrev CO (p : Nat) (x : PC) : List HProp :=
  [blk p [.slice x.a x.chs.length x.c] 196, osl 191 7 x.a x.c x.chs.length ((x.chs.map Chan.cells).flatten), Star (x.chs.map Chan.own), pool x.pl]
/-- The channels are these, and their messages lie in the pool. -/
structure PC.OK (x : PC) (acs : List AC) : Prop where
  abs : x.chs.map Chan.abs = acs
  ok : ∀ a ∈ acs, a.OK
  mem : ∀ ch ∈ x.chs, ∀ m, m ∈ ch.s.ms ∨ m ∈ ch.r.ms → m ∈ x.pl
  len : acs.length ≤ 1000
/-- At block p lie ports. -/
def Po (p : Nat) (acs : List AC) : HProp := fun h => ∃ x : PC, x.OK acs ∧ Star (CO p x) h
theorem po_open {p : Nat} {acs : List AC} (y : Heaplet) (h : Po p acs y) : ∃ x : PC, x.OK acs ∧ Star (CO p x) y := h
theorem po_close {p : Nat} {acs : List AC} {G : List HProp} (x : PC) (hx : x.OK acs) : Imp (CO p x ++ G) (Po p acs :: G) :=
  Imp.trans star_close (Imp.head fun y hy => ⟨x, hx, hy⟩)
theorem PC.OK.get {x : PC} {acs : List AC} (h : x.OK acs) {n : Nat} {ac : AC} (ha : acs[n]? = some ac) : ∃ ch, x.chs[n]? = some ch ∧ ch.abs = ac := by
  rw [← h.abs, List.getElem?_map] at ha
  cases hc : x.chs[n]? with
  | none => rw [hc] at ha; cases ha
  | some ch => rw [hc] at ha; exact ⟨ch, rfl, by simpa using ha⟩
theorem PC.OK.lens {x : PC} {acs : List AC} (h : x.OK acs) : x.chs.length = acs.length := by rw [← h.abs]; simp
theorem PC.OK.set {x : PC} {acs : List AC} (h : x.OK acs) {n : Nat} {ch : Chan} {ms : List Msg} (hok : ch.abs.OK) (hm : ∀ m, m ∈ ch.s.ms ∨ m ∈ ch.r.ms → m ∈ ms ++ x.pl) : PC.OK ⟨x.chs.set n ch, ms ++ x.pl, x.a, x.c⟩ (acs.set n ch.abs) := by
  refine ⟨by dsimp only; rw [List.map_set, h.abs], fun a ha => ?_, fun c hc m hcm => ?_, by rw [List.length_set]; exact h.len⟩
  · rcases List.mem_or_eq_of_mem_set ha with ha | rfl
    · exact h.ok a ha
    · exact hok
  · rcases List.mem_or_eq_of_mem_set hc with hc | rfl
    · exact List.mem_append.2 (.inr (h.mem c hc m hcm))
    · exact hm m hcm
section
variable (W0 : World) (Fr : List HProp)
theorem at_in {p b o c n m : Nat} (hn : n < m) : Ctr Tryz.prog W0 95 [.pointer (some ⟨p, 0, none⟩), .int .i64 n] (blk p [.slice (some ⟨b, o, none⟩) m c] 196 :: Fr) (fun _ : Unit => True) (fun _ => .pointer (some ⟨b, o + n * 7, none⟩)) (fun _ => blk p [.slice (some ⟨b, o, none⟩) m c] 196 :: Fr) := by
  refine Ctr.of_body Tryz.func95 rfl Tryz.ntmps95 rfl ?_
  refine CG.seq ?_
  refine CG.region ?_
  refine OG.sg rfl rfl ?_
  refine OG.nil ?_
  refine QG.then ?_
  refine CG.seq ?_
  refine CG.seq ?_
  refine CG.region ?_
  refine OG.mv rfl rfl ?_
  refine OG.yield Yield.lssA rfl ?_
  refine OG.mv rfl rfl ?_
  refine OG.gy rfl rfl rfl ?_
  refine OG.mv rfl rfl ?_
  refine OG.gy rfl rfl rfl ?_
  refine OG.mv rfl rfl ?_
  refine OG.gy rfl rfl rfl ?_
  refine OG.yield (Yield.nilCheck rfl) rfl ?_
  refine OG.gy rfl rfl rfl ?_
  refine OG.yield (Yield.fieldAddr fa196_0 rfl) rfl ?_
  refine OG.gy rfl rfl rfl ?_
  refine OG.yield (Yield.load ti194 rfl (by first | exact Cel.of_blk eX rfl | exact (hrow eX) _ _ rfl)) rfl ?_
  refine OG.gy rfl rfl rfl ?_
  refine OG.yield (Yield.len_slice Tryz.underlying194 rfl rfl) rfl ?_
  refine OG.gy rfl rfl rfl ?_
  refine OG.yield Yield.geqA rfl ?_
  refine OG.yield Yield.pickA rfl ?_
  refine OG.nil ?_
  refine QG.then ?_
  refine CG.cond_f rfl ?_
  refine CG.skip ?_
  refine QG.then ?_
  refine CG.seq ?_
  refine CG.region ?_
  refine OG.mv rfl rfl ?_
  refine OG.yield (Yield.nilCheck rfl) rfl ?_
  refine OG.yield (Yield.fieldAddr fa196_0 rfl) rfl ?_
  refine OG.yield (Yield.load ti194 rfl (by first | exact Cel.of_blk eX rfl | exact (hrow eX) _ _ rfl)) rfl ?_
  refine OG.mv rfl rfl ?_
  refine OG.yield (Yield.index_slice Tryz.underlying194 ti191 rfl rfl (by omega) (by omega)) rfl ?_
  refine OG.sg rfl rfl ?_
  refine OG.nil ?_
  refine QG.then ?_
  refine CG.ret ?_
  exact QG.ret1 rfl rfl () trivial rfl (Imp.refl _)
theorem at_out {p c m : Nat} {n : Int} {a : Option Addr} (hn : n < 0 ∨ (m : Int) ≤ n) : Ctr Tryz.prog W0 95 [.pointer (some ⟨p, 0, none⟩), .int .i64 n] (blk p [.slice a m c] 196 :: Fr) (fun _ : Unit => True) (fun _ => .pointer none) (fun _ => blk p [.slice a m c] 196 :: Fr) := by
  refine Ctr.of_body Tryz.func95 rfl Tryz.ntmps95 rfl ?_
  refine CG.seq ?_
  refine CG.region ?_
  refine OG.sg rfl rfl ?_
  refine OG.nil ?_
  refine QG.then ?_
  refine CG.seq ?_
  refine CG.seq ?_
  rcases (show n < 0 ∨ (¬ n < 0 ∧ (m : Int) ≤ n) by omega) with hh | hh
  · skip
    refine CG.region ?_
    refine OG.mv rfl rfl ?_
    refine OG.yield Yield.lssA rfl ?_
    refine OG.mv rfl rfl ?_
    refine OG.gn rfl rfl rfl rfl rfl ?_
    refine OG.gn rfl rfl rfl rfl rfl ?_
    refine OG.gn rfl rfl rfl rfl rfl ?_
    refine OG.gn rfl rfl rfl rfl rfl ?_
    refine OG.gn rfl rfl rfl rfl rfl ?_
    refine OG.gn rfl rfl rfl rfl rfl ?_
    refine OG.gn rfl rfl rfl rfl rfl ?_
    refine OG.yield Yield.pickA rfl ?_
    refine OG.nil ?_
    refine QG.then ?_
    refine CG.cond_t rfl ?_
    refine CG.seq ?_
    refine CG.region ?_
    refine OG.sg rfl rfl ?_
    refine OG.nil ?_
    refine QG.then ?_
    refine CG.ret ?_
    refine QG.pass_ret ?_
    exact QG.ret1 rfl rfl () trivial rfl (Imp.refl _)
  · skip
    refine CG.region ?_
    refine OG.mv rfl rfl ?_
    refine OG.yield Yield.lssA rfl ?_
    refine OG.mv rfl rfl ?_
    refine OG.gy rfl rfl rfl ?_
    refine OG.mv rfl rfl ?_
    refine OG.gy rfl rfl rfl ?_
    refine OG.mv rfl rfl ?_
    refine OG.gy rfl rfl rfl ?_
    refine OG.yield (Yield.nilCheck rfl) rfl ?_
    refine OG.gy rfl rfl rfl ?_
    refine OG.yield (Yield.fieldAddr fa196_0 rfl) rfl ?_
    refine OG.gy rfl rfl rfl ?_
    refine OG.yield (Yield.load ti194 rfl (by first | exact Cel.of_blk eX rfl | exact (hrow eX) _ _ rfl)) rfl ?_
    refine OG.gy rfl rfl rfl ?_
    refine OG.yield (Yield.len_slice Tryz.underlying194 rfl rfl) rfl ?_
    refine OG.gy rfl rfl rfl ?_
    refine OG.yield Yield.geqA rfl ?_
    refine OG.yield Yield.pickA rfl ?_
    refine OG.nil ?_
    refine QG.then ?_
    refine CG.cond_t rfl ?_
    refine CG.seq ?_
    refine CG.region ?_
    refine OG.sg rfl rfl ?_
    refine OG.nil ?_
    refine QG.then ?_
    refine CG.ret ?_
    refine QG.pass_ret ?_
    exact QG.ret1 rfl rfl () trivial rfl (Imp.refl _)
/-- The ports laid open at a channel. -/
abbrev CP (p : Nat) (x : PC) (n : Nat) (ch : Chan) : List HProp :=
  [blk p [.slice x.a x.chs.length x.c] 196, osl 191 7 x.a x.c x.chs.length (((x.chs.set n ch).map Chan.cells).flatten), oend ch.s, oend ch.r, Star ((x.chs.map Chan.own).eraseIdx n)]
theorem cp_open {p n : Nat} {x : PC} {ch : Chan} {G : List HProp} (h : x.chs[n]? = some ch) : Imp (CO p x ++ G) (CP p x n ch ++ (pool x.pl :: G)) := by
  have e : x.chs.set n ch = x.chs := by
    obtain ⟨hi, rfl⟩ := List.getElem?_eq_some_iff.1 h
    exact List.set_getElem_self hi
  unfold CP; rw [e]
  exact Imp.cons (Imp.cons (Imp.trans (star_take (i := n) (A := ch.own) (by rw [List.getElem?_map, h]; rfl)) star_open))
theorem cp_close {p n : Nat} {x : PC} {acs : List AC} {ch ch0 : Chan} {ms : List Msg} {G : List HProp} (h : x.chs[n]? = some ch0) (hx : x.OK acs) (hok : ch.abs.OK) (hm : ∀ m, m ∈ ch.s.ms ∨ m ∈ ch.r.ms → m ∈ ms ++ x.pl) :
    Imp (CP p x n ch ++ (pool ms :: pool x.pl :: G)) (Po p (acs.set n ch.abs) :: G) := by
  refine Imp.trans ?_ (po_close ⟨x.chs.set n ch, ms ++ x.pl, x.a, x.c⟩ (hx.set hok hm))
  unfold CO CP
  dsimp only
  rw [List.length_set, List.map_set (f := Chan.own)]
  refine Imp.cons (Imp.cons ?_)
  refine Imp.trans (B := ch.own :: Star ((x.chs.map Chan.own).eraseIdx n) :: pool ms :: pool x.pl :: G) ?_ ?_
  · exact star_close (D := [oend ch.s, oend ch.r])
  · exact Imp.trans (star_put (A := ch0.own) (by rw [List.getElem?_map, h]; rfl)) (Imp.cons pool_join)
theorem cp_back {p n : Nat} {x : PC} {acs : List AC} {ch : Chan} {G : List HProp} (h : x.chs[n]? = some ch) (hx : x.OK acs) : Imp (CP p x n ch ++ (pool x.pl :: G)) (Po p acs :: G) := by
  have e : x.chs.set n ch = x.chs := by
    obtain ⟨hi, rfl⟩ := List.getElem?_eq_some_iff.1 h
    exact List.set_getElem_self hi
  refine Imp.trans ?_ (po_close x hx)
  unfold CO CP
  rw [e]
  refine Imp.cons (Imp.cons ?_)
  refine Imp.trans (B := ch.own :: Star ((x.chs.map Chan.own).eraseIdx n) :: pool x.pl :: G) ?_ ?_
  · exact star_close (D := [oend ch.s, oend ch.r])
  · have := star_put (L := x.chs.map Chan.own) (i := n) (A := ch.own) (B := ch.own) (G := pool x.pl :: G) (by rw [List.getElem?_map, h]; rfl)
    rw [← List.map_set, e] at this; exact this
/-- What a sending comes to at a channel. -/
def sendR (ac : AC) (part : Int) (bs : B) : Int × AC :=
  if ac.from_ ≠ part then (210, ac) else if max 0 (min ac.size 64) < (bs.length : Int) then (9, ac) else if ac.kind ≠ 2 then (0, { ac with s := [bs] })
  else if dep ac.kind ac.depth ≤ (ac.s.length : Int) then (4, ac) else (0, { ac with s := ac.s ++ [bs] })
theorem set_self {α : Type} {l : List α} {i : Nat} {x : α} (h : l[i]? = some x) : l.set i x = l := by
  obtain ⟨hi, rfl⟩ := List.getElem?_eq_some_iff.1 h
  exact List.set_getElem_self hi
theorem shape_chs {W0 : World} {G R : List HProp} {x : PC} {n : Nat} {ch : Chan} {cs : List Chan} (h : x.chs[n]? = some ch) (hc : cs.length = x.chs.length) (e : Ext G (osl 191 7 x.a x.c x.chs.length ((cs.map Chan.cells).flatten)) R) (w : World) (hw : Sat W0 G w) : ∃ b o, x.a = some ⟨b, o, none⟩ := by
  have hn := (List.getElem?_eq_some_iff.1 h).1
  exact (SlR.of_osl e).elem_shape (i := n) Chan.len (by decide) (by omega) w hw
theorem send_out {p c : Nat} {acs : List AC} (part n : Int) {a : Option Addr} {m : Nat} (hn : n < 0 ∨ (acs.length : Int) ≤ n) : Ctr Tryz.prog W0 44 [.pointer (some ⟨p, 0, none⟩), .int .i64 part, .int .i64 n, .slice a m c] (Po p acs :: Fr) (fun _ : Unit => True) (fun _ => .int .i64 210) (fun _ => Po p acs :: Fr) := by
  refine Ctr.ex Ext.here po_open ?_
  intro x hx
  refine Ctr.imp star_open ?_
  have hln := hx.lens
  dsimp only [CO, List.cons_append, List.nil_append]
  refine Ctr.of_body Tryz.func44 rfl Tryz.ntmps44 rfl ?_
  refine CG.seq ?_
  refine CG.region ?_
  refine OG.sg rfl rfl ?_
  refine OG.nil ?_
  refine QG.then ?_
  refine CG.seq ?_
  refine CG.region ?_
  refine OG.mv rfl rfl ?_
  refine OG.mv rfl rfl ?_
  refine OG.callo call95 rfl (iM) (at_out W0 _ (p := p) (n := n) (by omega)) rfl ?_
  rintro ⟨⟩ -
  refine OG.sg rfl rfl ?_
  refine OG.nil ?_
  refine QG.then ?_
  refine CG.seq ?_
  refine CG.block ?_
  refine CG.seq ?_
  refine CG.region ?_
  refine OG.mv rfl rfl ?_
  refine OG.yield (by first | exact Yield.ptr_nil Tryz.underlying186 rfl rfl | exact Yield.nil_nil Tryz.underlying186 rfl rfl) rfl ?_
  refine OG.mv rfl rfl ?_
  refine OG.gn rfl rfl rfl rfl rfl ?_
  refine OG.gn rfl rfl rfl rfl rfl ?_
  refine OG.gn rfl rfl rfl rfl rfl ?_
  refine OG.gn rfl rfl rfl rfl rfl ?_
  refine OG.gn rfl rfl rfl rfl rfl ?_
  refine OG.gn rfl rfl rfl rfl rfl ?_
  refine OG.gn rfl rfl rfl rfl rfl ?_
  refine OG.yield Yield.pickA rfl ?_
  refine OG.sg rfl rfl ?_
  refine OG.nil ?_
  refine QG.then ?_
  refine CG.cond_t rfl ?_
  refine CG.seq ?_
  refine CG.region ?_
  refine OG.sg rfl rfl ?_
  refine OG.nil ?_
  refine QG.then ?_
  refine CG.ret ?_
  refine QG.block_ret ?_
  refine QG.pass_ret ?_
  exact QG.ret1 rfl rfl () trivial rfl (Imp.trans iM (po_close x hx))
set_option maxHeartbeats 1000000 in
theorem send_in {p c n : Nat} {acs : List AC} (part : Int) {a : Option Addr} {bs : B} {ac : AC} (hr : SlR W0 Fr 1 a bs.length (bytesV bs)) (hb : bs.length ≤ 2 ^ 47) (hac : acs[n]? = some ac) :
    Ctr Tryz.prog W0 44 [.pointer (some ⟨p, 0, none⟩), .int .i64 part, .int .i64 n, .slice a bs.length c] (Po p acs :: Fr) (fun _ : Unit => True) (fun _ => .int .i64 (sendR ac part bs).1) (fun _ => Po p (acs.set n (sendR ac part bs).2) :: Fr) := by
  refine Ctr.ex Ext.here po_open ?_
  intro x hx
  refine Ctr.imp star_open ?_
  have hln := hx.lens
  obtain ⟨ch, hch, rfl⟩ := hx.get hac
  have hnl : n < x.chs.length := (List.getElem?_eq_some_iff.1 hch).1
  have hok := hx.ok _ (List.mem_of_getElem? hac)
  have hmem := hx.mem ch (List.mem_of_getElem? hch)
  have hsl : ch.s.ms.length ≤ 8 := by have := hok.s; simp only [Chan.abs, End.bs, List.length_map] at this; exact this
  refine Ctr.imp (cp_open hch) ?_
  have hcs : (x.chs.set n ch)[n]? = some ch := by rw [set_self hch]; exact hch
  refine Ctr.pure (fun w hw => shape_chs (cs := x.chs.set n ch) hch (by rw [List.length_set]) (Ext.there Ext.here) w hw) ?_
  rintro ⟨b, o, hxa⟩
  unfold CP
  rw [hxa]
  dsimp only [List.cons_append, List.nil_append]
  refine Ctr.of_body Tryz.func44 rfl Tryz.ntmps44 rfl ?_
  refine CG.seq ?_
  refine CG.region ?_
  refine OG.sg rfl rfl ?_
  refine OG.nil ?_
  refine QG.then ?_
  refine CG.seq ?_
  refine CG.region ?_
  refine OG.mv rfl rfl ?_
  refine OG.mv rfl rfl ?_
  refine OG.callo call95 rfl (iM) (at_in W0 _ (p := p) (b := b) (o := o) (c := x.c) (n := n) hnl) rfl ?_
  rintro ⟨⟩ -
  refine OG.sg rfl rfl ?_
  refine OG.nil ?_
  refine QG.then ?_
  refine CG.seq ?_
  refine CG.block ?_
  refine CG.seq ?_
  rcases (show ch.from_ ≠ part ∨ (ch.from_ = part ∧ max 0 (min ch.size 64) < (bs.length : Int)) ∨ (ch.from_ = part ∧ (bs.length : Int) ≤ max 0 (min ch.size 64) ∧ ch.kind ≠ 2) ∨ (ch.from_ = part ∧ (bs.length : Int) ≤ max 0 (min ch.size 64) ∧ ch.kind = 2 ∧ dep ch.kind ch.depth ≤ (ch.s.ms.length : Int)) ∨ (ch.from_ = part ∧ (bs.length : Int) ≤ max 0 (min ch.size 64) ∧ ch.kind = 2 ∧ (ch.s.ms.length : Int) < dep ch.kind ch.depth) by omega) with hh | hh | hh | hh | hh
  · skip
    refine CG.region ?_
    refine OG.mv rfl rfl ?_
    refine OG.yield (by first | exact Yield.ptr_nil Tryz.underlying186 rfl rfl | exact Yield.nil_nil Tryz.underlying186 rfl rfl) rfl ?_
    refine OG.mv rfl rfl ?_
    refine OG.gy rfl rfl rfl ?_
    refine OG.mv rfl rfl ?_
    refine OG.gy rfl rfl rfl ?_
    refine OG.yield (Yield.nilCheck rfl) rfl ?_
    refine OG.gy rfl rfl rfl ?_
    refine OG.yield (Yield.fieldAddr fa191_0 rfl) rfl ?_
    refine OG.gy rfl rfl rfl ?_
    refine OG.yield (Yield.fieldAddr fa156_1 rfl) rfl ?_
    refine OG.gy rfl rfl rfl ?_
    refine OG.yield (Yield.load (v := .int .i64 ch.from_) ti3 rfl (((SlR.of_osl eX).elem Chan.len hcs) 1 _ rfl)) rfl ?_
    refine OG.gy rfl rfl rfl ?_
    refine OG.mv rfl rfl ?_
    refine OG.gy rfl rfl rfl ?_
    refine OG.yield Yield.neqA rfl ?_
    refine OG.yield Yield.pickA rfl ?_
    refine OG.sg rfl rfl ?_
    refine OG.nil ?_
    refine QG.then ?_
    refine CG.cond_t rfl ?_
    refine CG.seq ?_
    refine CG.region ?_
    refine OG.sg rfl rfl ?_
    refine OG.nil ?_
    refine QG.then ?_
    refine CG.ret ?_
    refine QG.block_ret ?_
    refine QG.pass_ret ?_
    rw [show sendR ch.abs part bs = (210, ch.abs) by unfold sendR; rw [if_pos (by exact hh)], set_self hac]
    exact QG.ret1 rfl rfl () trivial rfl (Imp.trans iM (Imp.trans (by unfold CP; rw [hxa]; exact Imp.refl _) (cp_back hch hx)))
  · skip
    refine CG.region ?_
    refine OG.mv rfl rfl ?_
    refine OG.yield (by first | exact Yield.ptr_nil Tryz.underlying186 rfl rfl | exact Yield.nil_nil Tryz.underlying186 rfl rfl) rfl ?_
    refine OG.mv rfl rfl ?_
    refine OG.gy rfl rfl rfl ?_
    refine OG.mv rfl rfl ?_
    refine OG.gy rfl rfl rfl ?_
    refine OG.yield (Yield.nilCheck rfl) rfl ?_
    refine OG.gy rfl rfl rfl ?_
    refine OG.yield (Yield.fieldAddr fa191_0 rfl) rfl ?_
    refine OG.gy rfl rfl rfl ?_
    refine OG.yield (Yield.fieldAddr fa156_1 rfl) rfl ?_
    refine OG.gy rfl rfl rfl ?_
    refine OG.yield (Yield.load (v := .int .i64 ch.from_) ti3 rfl (((SlR.of_osl eX).elem Chan.len hcs) 1 _ rfl)) rfl ?_
    refine OG.gy rfl rfl rfl ?_
    refine OG.mv rfl rfl ?_
    refine OG.gy rfl rfl rfl ?_
    refine OG.yield Yield.neqA rfl ?_
    refine OG.yield Yield.pickA rfl ?_
    refine OG.sg rfl rfl ?_
    refine OG.nil ?_
    refine QG.then ?_
    refine CG.cond_f rfl ?_
    refine CG.seq ?_
    refine CG.region ?_
    refine OG.mv rfl rfl ?_
    refine OG.yield (Yield.len_slice Tryz.underlying32 rfl rfl) rfl ?_
    refine OG.mv rfl rfl ?_
    refine OG.callo call97 rfl (Imp.refl _) (size_spec W0 _ (b := b) (o := o + n * 7) (sz := ch.size) (by exact ((SlR.of_osl eX).elem Chan.len hcs) 3 _ rfl)) rfl ?_
    rintro ⟨⟩ -
    refine OG.yield Yield.gtrA rfl ?_
    refine OG.sg rfl rfl ?_
    refine OG.nil ?_
    refine QG.then ?_
    refine CG.cond_t rfl ?_
    refine CG.seq ?_
    refine CG.region ?_
    refine OG.sg rfl rfl ?_
    refine OG.nil ?_
    refine QG.then ?_
    refine CG.ret ?_
    refine QG.block_ret ?_
    refine QG.pass_ret ?_
    rw [show sendR ch.abs part bs = (9, ch.abs) by unfold sendR; rw [if_neg (by exact not_not_intro hh.1), if_pos (by exact hh.2)], set_self hac]
    exact QG.ret1 rfl rfl () trivial rfl (Imp.trans iM (Imp.trans (by unfold CP; rw [hxa]; exact Imp.refl _) (cp_back hch hx)))
  · skip
    refine CG.region ?_
    refine OG.mv rfl rfl ?_
    refine OG.yield (by first | exact Yield.ptr_nil Tryz.underlying186 rfl rfl | exact Yield.nil_nil Tryz.underlying186 rfl rfl) rfl ?_
    refine OG.mv rfl rfl ?_
    refine OG.gy rfl rfl rfl ?_
    refine OG.mv rfl rfl ?_
    refine OG.gy rfl rfl rfl ?_
    refine OG.yield (Yield.nilCheck rfl) rfl ?_
    refine OG.gy rfl rfl rfl ?_
    refine OG.yield (Yield.fieldAddr fa191_0 rfl) rfl ?_
    refine OG.gy rfl rfl rfl ?_
    refine OG.yield (Yield.fieldAddr fa156_1 rfl) rfl ?_
    refine OG.gy rfl rfl rfl ?_
    refine OG.yield (Yield.load (v := .int .i64 ch.from_) ti3 rfl (((SlR.of_osl eX).elem Chan.len hcs) 1 _ rfl)) rfl ?_
    refine OG.gy rfl rfl rfl ?_
    refine OG.mv rfl rfl ?_
    refine OG.gy rfl rfl rfl ?_
    refine OG.yield Yield.neqA rfl ?_
    refine OG.yield Yield.pickA rfl ?_
    refine OG.sg rfl rfl ?_
    refine OG.nil ?_
    refine QG.then ?_
    refine CG.cond_f rfl ?_
    refine CG.seq ?_
    refine CG.region ?_
    refine OG.mv rfl rfl ?_
    refine OG.yield (Yield.len_slice Tryz.underlying32 rfl rfl) rfl ?_
    refine OG.mv rfl rfl ?_
    refine OG.callo call97 rfl (Imp.refl _) (size_spec W0 _ (b := b) (o := o + n * 7) (sz := ch.size) (by exact ((SlR.of_osl eX).elem Chan.len hcs) 3 _ rfl)) rfl ?_
    rintro ⟨⟩ -
    refine OG.yield Yield.gtrA rfl ?_
    refine OG.sg rfl rfl ?_
    refine OG.nil ?_
    refine QG.then ?_
    refine CG.cond_f rfl ?_
    refine CG.seq ?_
    refine CG.region ?_
    refine OG.mv rfl rfl ?_
    refine OG.yield (Yield.nilCheck rfl) rfl ?_
    refine OG.yield (Yield.fieldAddr fa191_0 rfl) rfl ?_
    refine OG.yield (Yield.fieldAddr fa156_0 rfl) rfl ?_
    refine OG.yield (Yield.load (v := .int .i64 ch.kind) ti3 rfl (((SlR.of_osl eX).elem Chan.len hcs) 0 _ rfl)) rfl ?_
    refine OG.yield Yield.neqA rfl ?_
    refine OG.sg rfl rfl ?_
    refine OG.nil ?_
    refine QG.then ?_
    refine CG.cond_t rfl ?_
    refine CG.seq ?_
    refine CG.region ?_
    refine OG.mv rfl rfl ?_
    refine OG.mv rfl rfl ?_
    refine OG.callo call98 rfl (Imp.refl _) (own_spec W0 _ (a := a) (c := c) (bs := bs) (by exact hr.imp iM) hb) rfl ?_
    rintro bm -
    refine OG.effd (Eff.lit1 Tryz.underlying67 ti32 rfl rfl rfl) rfl ?_
    rintro b41 -
    refine OG.yield (Yield.nilCheck rfl) rfl ?_
    refine OG.yield (Yield.fieldAddr fa191_1 rfl) rfl ?_
    refine OG.yield (Yield.fieldAddr fa189_0 rfl) rfl ?_
    refine OG.eff (Eff.storeFld (i := n) 5 (r := ch) (r' := { ch with s := ⟨some ⟨b41, 0, none⟩, 1, [⟨some ⟨bm, 0, none⟩, bs.length, bs⟩]⟩ }) (rs := x.chs.set n ch) Chan.len hcs rfl (by decide) ti67 rfl rfl fC rfl (by rw [List.length_set])) rfl ?_
    rintro ⟨⟩ -
    refine OG.nil ?_
    refine QG.then ?_
    refine CG.seq ?_
    refine CG.region ?_
    refine OG.sg rfl rfl ?_
    refine OG.nil ?_
    refine QG.then ?_
    refine CG.ret ?_
    refine QG.block_ret ?_
    refine QG.pass_ret ?_
    rw [show sendR ch.abs part bs = (0, { ch.abs with s := [bs] }) by unfold sendR; rw [if_neg (by exact not_not_intro hh.1), if_neg (by have := hh.2.1; exact Int.not_lt.2 this), if_pos (by exact hh.2.2)]]
    have hc := cp_close (p := p) (ms := [⟨some ⟨bm, 0, none⟩, bs.length, bs⟩]) (ch := { ch with s := ⟨some ⟨b41, 0, none⟩, 1, [⟨some ⟨bm, 0, none⟩, bs.length, bs⟩]⟩ }) (G := Fr) hch hx ⟨by simp [Chan.abs, End.bs], hok.r, fun m hm => by simp only [Chan.abs, End.bs, List.map_cons, List.map_nil, List.mem_cons, List.not_mem_nil, or_false] at hm; subst hm; omega, hok.rl⟩ (fun m hm => by rcases hm with hm | hm; exact List.mem_append.2 (.inl hm); exact List.mem_append.2 (.inr (hmem m (.inr hm))))
    unfold CP at hc
    rw [hxa, List.set_set] at *
    refine QG.ret1 rfl rfl () trivial rfl (Imp.trans ?_ hc)
    refine Imp.trans ?_ (Imp.cons (Imp.cons (Imp.cons (Imp.cons (Imp.cons (pool_one (m := ⟨some ⟨bm, 0, none⟩, bs.length, bs⟩)))))))
    exact iM
  · skip
    refine CG.region ?_
    refine OG.mv rfl rfl ?_
    refine OG.yield (by first | exact Yield.ptr_nil Tryz.underlying186 rfl rfl | exact Yield.nil_nil Tryz.underlying186 rfl rfl) rfl ?_
    refine OG.mv rfl rfl ?_
    refine OG.gy rfl rfl rfl ?_
    refine OG.mv rfl rfl ?_
    refine OG.gy rfl rfl rfl ?_
    refine OG.yield (Yield.nilCheck rfl) rfl ?_
    refine OG.gy rfl rfl rfl ?_
    refine OG.yield (Yield.fieldAddr fa191_0 rfl) rfl ?_
    refine OG.gy rfl rfl rfl ?_
    refine OG.yield (Yield.fieldAddr fa156_1 rfl) rfl ?_
    refine OG.gy rfl rfl rfl ?_
    refine OG.yield (Yield.load (v := .int .i64 ch.from_) ti3 rfl (((SlR.of_osl eX).elem Chan.len hcs) 1 _ rfl)) rfl ?_
    refine OG.gy rfl rfl rfl ?_
    refine OG.mv rfl rfl ?_
    refine OG.gy rfl rfl rfl ?_
    refine OG.yield Yield.neqA rfl ?_
    refine OG.yield Yield.pickA rfl ?_
    refine OG.sg rfl rfl ?_
    refine OG.nil ?_
    refine QG.then ?_
    refine CG.cond_f rfl ?_
    refine CG.seq ?_
    refine CG.region ?_
    refine OG.mv rfl rfl ?_
    refine OG.yield (Yield.len_slice Tryz.underlying32 rfl rfl) rfl ?_
    refine OG.mv rfl rfl ?_
    refine OG.callo call97 rfl (Imp.refl _) (size_spec W0 _ (b := b) (o := o + n * 7) (sz := ch.size) (by exact ((SlR.of_osl eX).elem Chan.len hcs) 3 _ rfl)) rfl ?_
    rintro ⟨⟩ -
    refine OG.yield Yield.gtrA rfl ?_
    refine OG.sg rfl rfl ?_
    refine OG.nil ?_
    refine QG.then ?_
    refine CG.cond_f rfl ?_
    refine CG.seq ?_
    refine CG.region ?_
    refine OG.mv rfl rfl ?_
    refine OG.yield (Yield.nilCheck rfl) rfl ?_
    refine OG.yield (Yield.fieldAddr fa191_0 rfl) rfl ?_
    refine OG.yield (Yield.fieldAddr fa156_0 rfl) rfl ?_
    refine OG.yield (Yield.load (v := .int .i64 ch.kind) ti3 rfl (((SlR.of_osl eX).elem Chan.len hcs) 0 _ rfl)) rfl ?_
    refine OG.yield Yield.neqA rfl ?_
    refine OG.sg rfl rfl ?_
    refine OG.nil ?_
    refine QG.then ?_
    refine CG.cond_f rfl ?_
    refine CG.seq ?_
    refine CG.draw (.look 0 0 (.look 1 0 (.look 2 0 (.look 3 0 (.look 4 0 (.look 5 0 (.look 6 1 (.eff1 7 false (.look 8 1 (.look 9 1 (.done))))))))))) [7] [] ([osl 191 7 (some ⟨b, o, none⟩) x.c x.chs.length (((x.chs.set n ch).map Chan.cells).flatten)]) ([]) mixed (by kernel_rfl) (iM) (Imp.none _) ?_
    refine DG.look rfl rfl (Yield.move rfl) rfl ?_
    refine DG.look rfl rfl (Yield.nilCheck rfl) rfl ?_
    refine DG.look rfl rfl (Yield.fieldAddr fa191_1 rfl) rfl ?_
    refine DG.look rfl rfl (Yield.fieldAddr fa189_0 rfl) rfl ?_
    refine DG.look rfl rfl (Yield.load (v := ch.s.cell) ti67 rfl (((SlR.of_osl Ext.here).elem Chan.len hcs) 5 _ rfl)) rfl ?_
    refine DG.look rfl rfl (Yield.len_slice (a := ch.s.a) (m := ch.s.ms.length) (c := ch.s.c) Tryz.underlying67 rfl rfl) rfl ?_
    refine DG.look rfl rfl (Yield.move rfl) rfl ?_
    refine DG.eff1 ?_
    refine Chg.callo rfl rfl call99 rfl (Imp.refl _) (depth_spec W0 _ (b := b) (o := o + n * 7) (kd := ch.kind) (d := ch.depth) (by exact ((SlR.of_osl eX).elem Chan.len hcs) 0 _ rfl) (by exact ((SlR.of_osl eX).elem Chan.len hcs) 4 _ rfl)) rfl (fun _ => iM) (fun _ => Imp.refl _) (fun _ => iM) ?_
    rintro ⟨⟩ -
    refine DG.look rfl rfl Yield.geqA rfl ?_
    refine DG.look rfl rfl (Yield.assign rfl) rfl ?_
    refine DG.done ?_
    refine QG.then ?_
    refine CG.cond_t rfl ?_
    refine CG.seq ?_
    refine CG.region ?_
    refine OG.sg rfl rfl ?_
    refine OG.nil ?_
    refine QG.then ?_
    refine CG.ret ?_
    refine QG.block_ret ?_
    refine QG.pass_ret ?_
    rw [show sendR ch.abs part bs = (4, ch.abs) by unfold sendR; rw [if_neg (by exact not_not_intro hh.1), if_neg (by have := hh.2.1; exact Int.not_lt.2 this), if_neg (by exact not_not_intro hh.2.2.1), if_pos (by simp only [Chan.abs, End.bs, List.length_map]; exact hh.2.2.2)], set_self hac]
    exact QG.ret1 rfl rfl () trivial rfl (Imp.trans iM (Imp.trans (by unfold CP; rw [hxa]; exact Imp.refl _) (cp_back hch hx)))
  · skip
    refine CG.region ?_
    refine OG.mv rfl rfl ?_
    refine OG.yield (by first | exact Yield.ptr_nil Tryz.underlying186 rfl rfl | exact Yield.nil_nil Tryz.underlying186 rfl rfl) rfl ?_
    refine OG.mv rfl rfl ?_
    refine OG.gy rfl rfl rfl ?_
    refine OG.mv rfl rfl ?_
    refine OG.gy rfl rfl rfl ?_
    refine OG.yield (Yield.nilCheck rfl) rfl ?_
    refine OG.gy rfl rfl rfl ?_
    refine OG.yield (Yield.fieldAddr fa191_0 rfl) rfl ?_
    refine OG.gy rfl rfl rfl ?_
    refine OG.yield (Yield.fieldAddr fa156_1 rfl) rfl ?_
    refine OG.gy rfl rfl rfl ?_
    refine OG.yield (Yield.load (v := .int .i64 ch.from_) ti3 rfl (((SlR.of_osl eX).elem Chan.len hcs) 1 _ rfl)) rfl ?_
    refine OG.gy rfl rfl rfl ?_
    refine OG.mv rfl rfl ?_
    refine OG.gy rfl rfl rfl ?_
    refine OG.yield Yield.neqA rfl ?_
    refine OG.yield Yield.pickA rfl ?_
    refine OG.sg rfl rfl ?_
    refine OG.nil ?_
    refine QG.then ?_
    refine CG.cond_f rfl ?_
    refine CG.seq ?_
    refine CG.region ?_
    refine OG.mv rfl rfl ?_
    refine OG.yield (Yield.len_slice Tryz.underlying32 rfl rfl) rfl ?_
    refine OG.mv rfl rfl ?_
    refine OG.callo call97 rfl (Imp.refl _) (size_spec W0 _ (b := b) (o := o + n * 7) (sz := ch.size) (by exact ((SlR.of_osl eX).elem Chan.len hcs) 3 _ rfl)) rfl ?_
    rintro ⟨⟩ -
    refine OG.yield Yield.gtrA rfl ?_
    refine OG.sg rfl rfl ?_
    refine OG.nil ?_
    refine QG.then ?_
    refine CG.cond_f rfl ?_
    refine CG.seq ?_
    refine CG.region ?_
    refine OG.mv rfl rfl ?_
    refine OG.yield (Yield.nilCheck rfl) rfl ?_
    refine OG.yield (Yield.fieldAddr fa191_0 rfl) rfl ?_
    refine OG.yield (Yield.fieldAddr fa156_0 rfl) rfl ?_
    refine OG.yield (Yield.load (v := .int .i64 ch.kind) ti3 rfl (((SlR.of_osl eX).elem Chan.len hcs) 0 _ rfl)) rfl ?_
    refine OG.yield Yield.neqA rfl ?_
    refine OG.sg rfl rfl ?_
    refine OG.nil ?_
    refine QG.then ?_
    refine CG.cond_f rfl ?_
    refine CG.seq ?_
    refine CG.draw (.look 0 0 (.look 1 0 (.look 2 0 (.look 3 0 (.look 4 0 (.look 5 0 (.look 6 1 (.eff1 7 false (.look 8 1 (.look 9 1 (.done))))))))))) [7] [] ([osl 191 7 (some ⟨b, o, none⟩) x.c x.chs.length (((x.chs.set n ch).map Chan.cells).flatten)]) ([]) mixed (by kernel_rfl) (iM) (Imp.none _) ?_
    refine DG.look rfl rfl (Yield.move rfl) rfl ?_
    refine DG.look rfl rfl (Yield.nilCheck rfl) rfl ?_
    refine DG.look rfl rfl (Yield.fieldAddr fa191_1 rfl) rfl ?_
    refine DG.look rfl rfl (Yield.fieldAddr fa189_0 rfl) rfl ?_
    refine DG.look rfl rfl (Yield.load (v := ch.s.cell) ti67 rfl (((SlR.of_osl Ext.here).elem Chan.len hcs) 5 _ rfl)) rfl ?_
    refine DG.look rfl rfl (Yield.len_slice (a := ch.s.a) (m := ch.s.ms.length) (c := ch.s.c) Tryz.underlying67 rfl rfl) rfl ?_
    refine DG.look rfl rfl (Yield.move rfl) rfl ?_
    refine DG.eff1 ?_
    refine Chg.callo rfl rfl call99 rfl (Imp.refl _) (depth_spec W0 _ (b := b) (o := o + n * 7) (kd := ch.kind) (d := ch.depth) (by exact ((SlR.of_osl eX).elem Chan.len hcs) 0 _ rfl) (by exact ((SlR.of_osl eX).elem Chan.len hcs) 4 _ rfl)) rfl (fun _ => iM) (fun _ => Imp.refl _) (fun _ => iM) ?_
    rintro ⟨⟩ -
    refine DG.look rfl rfl Yield.geqA rfl ?_
    refine DG.look rfl rfl (Yield.assign rfl) rfl ?_
    refine DG.done ?_
    refine QG.then ?_
    refine CG.cond_f rfl ?_
    refine CG.skip ?_
    refine QG.block_normal ?_
    refine QG.then ?_
    refine CG.seq ?_
    refine CG.draw (.look 0 0 (.look 1 0 (.look 2 0 (.look 3 0 (.look 4 0 (.look 5 2 (.look 6 1 (.eff1 7 false (.eff1 8 false (.eff1 9 false (.look 10 1 (.look 11 1 (.look 12 1 (.eff1 13 true (.done))))))))))))))) [7, 8, 9, 13] [5] ([]) ([osl 191 7 (some ⟨b, o, none⟩) x.c x.chs.length (((x.chs.set n ch).map Chan.cells).flatten)]) mixed (by kernel_rfl) (Imp.none _) (iM) ?_
    refine DG.look rfl rfl (Yield.move rfl) rfl ?_
    refine DG.look rfl rfl (Yield.move rfl) rfl ?_
    refine DG.look rfl rfl (Yield.nilCheck rfl) rfl ?_
    refine DG.look rfl rfl (Yield.fieldAddr fa191_1 rfl) rfl ?_
    refine DG.look rfl rfl (Yield.fieldAddr fa189_0 rfl) rfl ?_
    refine DG.look rfl rfl (Yield.load (v := ch.s.cell) ti67 rfl (((SlR.of_osl Ext.here).elem Chan.len hcs) 5 _ rfl)) rfl ?_
    refine DG.look rfl rfl (Yield.move rfl) rfl ?_
    refine DG.eff1 ?_
    refine Chg.callo rfl rfl call98 rfl (Imp.refl _) (own_spec W0 _ (a := a) (c := c) (bs := bs) (by exact hr.imp iM) hb) rfl (fun _ => iM) (fun _ => Imp.refl _) (fun _ => iM) ?_
    rintro bm -
    refine DG.eff1 ?_
    refine Chg.eff rfl rfl (Eff.lit1 Tryz.underlying67 ti32 rfl rfl rfl) rfl (fun _ => iM) (fun _ => Imp.refl _) (fun _ => iM) ?_
    rintro b63 -
    refine DG.eff1 ?_
    refine Chg.eff rfl rfl (Eff.append (a := ch.s.a) (c := ch.s.c) (k := 1) (ys := [Msg.cell ⟨some ⟨bm, 0, none⟩, bs.length, bs⟩]) rfl rfl rfl Tryz.underlying67 Tryz.underlying67 ti32 rfl (by decide) fC (SlR.of_osl (a := some ⟨b63, 0, none⟩) eX) (by simp [one, Msg.cell]) (by omega)) rfl (fun _ => iM) (fun _ => Imp.refl _) (fun _ => iM) ?_
    rintro ⟨a64, c64⟩ -
    refine DG.look rfl rfl (Yield.nilCheck rfl) rfl ?_
    refine DG.look rfl rfl (Yield.fieldAddr fa191_1 rfl) rfl ?_
    refine DG.look rfl rfl (Yield.fieldAddr fa189_0 rfl) rfl ?_
    refine DG.eff1 ?_
    refine Chg.eff rfl rfl (Eff.storeFld (i := n) 5 (r := ch) (r' := { ch with s := ⟨a64, c64, ch.s.ms ++ [⟨some ⟨bm, 0, none⟩, bs.length, bs⟩]⟩ }) (rs := x.chs.set n ch) Chan.len hcs (by simp [Chan.cells, End.cell]) (by decide) ti67 rfl rfl fC rfl (by rw [List.length_set])) rfl (fun _ => iM) (fun _ => Imp.refl _) (fun _ => iM) ?_
    rintro ⟨⟩ -
    refine DG.done ?_
    refine QG.then ?_
    refine CG.seq ?_
    refine CG.region ?_
    refine OG.sg rfl rfl ?_
    refine OG.nil ?_
    refine QG.then ?_
    refine CG.ret ?_
    rw [show sendR ch.abs part bs = (0, { ch.abs with s := ch.abs.s ++ [bs] }) by unfold sendR; rw [if_neg (by exact not_not_intro hh.1), if_neg (by have := hh.2.1; exact Int.not_lt.2 this), if_neg (by exact not_not_intro hh.2.2.1), if_neg (by simp only [Chan.abs, End.bs, List.length_map]; exact Int.not_le.2 hh.2.2.2)]]
    have hd8 : dep ch.kind ch.depth ≤ 8 := by unfold dep; split <;> omega
    have hc := cp_close (p := p) (ms := [⟨some ⟨bm, 0, none⟩, bs.length, bs⟩]) (ch := { ch with s := ⟨a64, c64, ch.s.ms ++ [⟨some ⟨bm, 0, none⟩, bs.length, bs⟩]⟩ }) (G := Fr) hch hx ⟨by simp only [Chan.abs, End.bs, List.length_map, List.length_append, List.length_cons, List.length_nil]; omega, hok.r, fun m hm => by simp only [Chan.abs, End.bs, List.map_append, List.map_cons, List.map_nil, List.mem_append, List.mem_cons, List.not_mem_nil, or_false] at hm; rcases hm with hm | rfl; exact hok.sl m hm; omega, hok.rl⟩ (fun m hm => by rcases hm with hm | hm; (rcases List.mem_append.1 hm with hm | hm; exact List.mem_append.2 (.inr (hmem m (.inl hm))); exact List.mem_append.2 (.inl hm)); exact List.mem_append.2 (.inr (hmem m (.inr hm))))
    rw [show Chan.abs { ch with s := ⟨a64, c64, ch.s.ms ++ [⟨some ⟨bm, 0, none⟩, bs.length, bs⟩]⟩ } = { ch.abs with s := ch.abs.s ++ [bs] } by simp [Chan.abs, End.bs]] at hc
    unfold CP at hc
    rw [hxa, List.set_set] at *
    refine QG.ret1 rfl rfl () trivial rfl (Imp.trans ?_ hc)
    refine Imp.trans ?_ (Imp.cons (Imp.cons (Imp.cons (Imp.cons (Imp.cons (pool_one (m := ⟨some ⟨bm, 0, none⟩, bs.length, bs⟩)))))))
    dsimp only
    rw [show oend ⟨a64, c64, ch.s.ms ++ [⟨some ⟨bm, 0, none⟩, bs.length, bs⟩]⟩ = osl 32 1 a64 c64 (ch.s.ms.length + 1) (ch.s.ms.map Msg.cell ++ [Msg.cell ⟨some ⟨bm, 0, none⟩, bs.length, bs⟩]) by unfold oend; rw [List.length_append, List.map_append]; rfl]
    exact iM
end
end Go.Proofs.YtphljkplokjonaaGreat.Po
/- ports: New, Receive, Transfer, Held. -/
namespace Go.Proofs.YtphljkplokjonaaGreat.Po
open Go Go.Sl Go.RowKit Go.Proofs Go.Proofs.YtphljkplokjonaaGreat.T
set_option maxRecDepth 100000
def End.tail (y : End) : End := ⟨y.a.map fun a => cutAt a 1 y.c 1, y.c - 1, y.ms.tail⟩
def nilE : End := ⟨none, 0, []⟩
theorem oend_nil {G : List HProp} : Imp G (oend nilE :: G) := osl_nil (E := 32) (sz := 1)
theorem oend_tail {y : End} (h : 1 ≤ y.ms.length) (x : Heaplet) (o : oend y x) : oend y.tail x := by
  have hc := o.2.1
  have := osl_cut (l := 1) (h := y.ms.length) (ys := y.ms.tail.map Msg.cell) h hc (Nat.le_refl _) (by rw [List.map_tail, ← List.drop_one, Nat.mul_one, List.take_of_length_le (by simp)]) x o
  unfold End.tail
  dsimp only [oend]
  rw [List.length_tail]; exact this
theorem End.tail_bs (y : End) : y.tail.bs = y.bs.tail := by unfold End.tail End.bs; rw [List.map_tail]
theorem Yield.tail {P : Program} {W0 : World} {e : Env} {G : List HProp} {ty t el : TypeId} {x : Operand} {y : End} {by' z ag} (hu : P.underlying t = some (.slice el)) (ht : TI P el 1 by' z ag) (hx : e.ev x = some y.cell) (h : 1 ≤ y.ms.length) (hc : y.ms.length ≤ y.c) : Yield P W0 (.slice t x (some (.const (.int .i64 1))) none none) ty e G y.tail.cell := by
  have := Yield.slice (W0 := W0) (G := G) (ty := ty) (lo := some (.const (.int .i64 1))) (hi := none) (l := 1) (h := (y.ms.length : Int)) hu ht hx (Bound.some rfl) Bound.none (by omega) (by omega) (by omega)
  refine Yield.as this ?_
  unfold End.cell End.tail
  dsimp only
  rw [List.length_tail]; rfl
section
variable (W0 : World) (Fr : List HProp)
def recvE (ac : AC) (part : Int) : Int := if ac.to ≠ part then 210 else if ac.r = [] then 110 else 0
theorem recv_out {p : Nat} {acs : List AC} (part n : Int) (hn : n < 0 ∨ (acs.length : Int) ≤ n) : Ctr Tryz.prog W0 59 [.pointer (some ⟨p, 0, none⟩), .int .i64 part, .int .i64 n] (Po p acs :: Fr) (fun _ : Unit => True) (fun _ => .tuple #[.slice none 0 0, .int .i64 210]) (fun _ => Po p acs :: Fr) := by
  refine Ctr.ex Ext.here po_open ?_
  intro x hx
  refine Ctr.imp star_open ?_
  have hln := hx.lens
  dsimp only [CO, List.cons_append, List.nil_append]
  refine Ctr.of_body Tryz.func59 rfl Tryz.ntmps59 rfl ?_
  refine CG.seq ?_
  refine CG.region ?_
  refine OG.sg rfl rfl ?_
  refine OG.sg rfl rfl ?_
  refine OG.nil ?_
  refine QG.then ?_
  refine CG.seq ?_
  refine CG.region ?_
  refine OG.mv rfl rfl ?_
  refine OG.mv rfl rfl ?_
  refine OG.callo call95 rfl (iM) (at_out W0 _ (p := p) (n := n) (by omega)) rfl ?_
  rintro ⟨⟩ -
  refine OG.sg rfl rfl ?_
  refine OG.nil ?_
  refine QG.then ?_
  refine CG.seq ?_
  refine CG.block ?_
  refine CG.seq ?_
  refine CG.region ?_
  refine OG.mv rfl rfl ?_
  refine OG.yield (by first | exact Yield.ptr_nil Tryz.underlying186 rfl rfl | exact Yield.nil_nil Tryz.underlying186 rfl rfl) rfl ?_
  refine OG.mv rfl rfl ?_
  refine OG.gn rfl rfl rfl rfl rfl ?_
  refine OG.gn rfl rfl rfl rfl rfl ?_
  refine OG.gn rfl rfl rfl rfl rfl ?_
  refine OG.gn rfl rfl rfl rfl rfl ?_
  refine OG.gn rfl rfl rfl rfl rfl ?_
  refine OG.gn rfl rfl rfl rfl rfl ?_
  refine OG.gn rfl rfl rfl rfl rfl ?_
  refine OG.yield Yield.pickA rfl ?_
  refine OG.sg rfl rfl ?_
  refine OG.nil ?_
  refine QG.then ?_
  refine CG.cond_t rfl ?_
  refine CG.seq ?_
  refine CG.region ?_
  refine OG.sg rfl rfl ?_
  refine OG.sg rfl rfl ?_
  refine OG.nil ?_
  refine QG.then ?_
  refine CG.ret ?_
  refine QG.block_ret ?_
  refine QG.pass_ret ?_
  exact QG.ret2 rfl rfl rfl () trivial rfl (Imp.trans iM (po_close x hx))
theorem recv_bad {p n : Nat} {acs : List AC} (part : Int) {ac : AC} (hac : acs[n]? = some ac) (he : recvE ac part ≠ 0) :
    Ctr Tryz.prog W0 59 [.pointer (some ⟨p, 0, none⟩), .int .i64 part, .int .i64 n] (Po p acs :: Fr) (fun _ : Unit => True) (fun _ => .tuple #[.slice none 0 0, .int .i64 (recvE ac part)]) (fun _ => Po p acs :: Fr) := by
  refine Ctr.ex Ext.here po_open ?_
  intro x hx
  refine Ctr.imp star_open ?_
  have hln := hx.lens
  obtain ⟨ch, hch, rfl⟩ := hx.get hac
  have hnl : n < x.chs.length := (List.getElem?_eq_some_iff.1 hch).1
  refine Ctr.imp (cp_open hch) ?_
  have hcs : (x.chs.set n ch)[n]? = some ch := by rw [set_self hch]; exact hch
  refine Ctr.pure (fun w hw => shape_chs (cs := x.chs.set n ch) hch (by rw [List.length_set]) (Ext.there Ext.here) w hw) ?_
  rintro ⟨b, o, hxa⟩
  unfold CP
  rw [hxa]
  dsimp only [List.cons_append, List.nil_append]
  have hcase : ch.to ≠ part ∨ (ch.to = part ∧ ch.r.ms.length = 0) := by
    by_cases h : ch.to = part
    · refine .inr ⟨h, ?_⟩
      unfold recvE at he
      rw [if_neg (by exact not_not_intro h)] at he
      split at he
      · rename_i h2; simp only [Chan.abs, End.bs, List.map_eq_nil_iff] at h2; rw [h2]; rfl
      · exact absurd rfl he
    · exact .inl h
  refine Ctr.of_body Tryz.func59 rfl Tryz.ntmps59 rfl ?_
  refine CG.seq ?_
  refine CG.region ?_
  refine OG.sg rfl rfl ?_
  refine OG.sg rfl rfl ?_
  refine OG.nil ?_
  refine QG.then ?_
  refine CG.seq ?_
  refine CG.region ?_
  refine OG.mv rfl rfl ?_
  refine OG.mv rfl rfl ?_
  refine OG.callo call95 rfl (iM) (at_in W0 _ (p := p) (b := b) (o := o) (c := x.c) (n := n) hnl) rfl ?_
  rintro ⟨⟩ -
  refine OG.sg rfl rfl ?_
  refine OG.nil ?_
  refine QG.then ?_
  refine CG.seq ?_
  refine CG.block ?_
  refine CG.seq ?_
  rcases hcase with hh | hh
  · skip
    refine CG.region ?_
    refine OG.mv rfl rfl ?_
    refine OG.yield (by first | exact Yield.ptr_nil Tryz.underlying186 rfl rfl | exact Yield.nil_nil Tryz.underlying186 rfl rfl) rfl ?_
    refine OG.mv rfl rfl ?_
    refine OG.gy rfl rfl rfl ?_
    refine OG.mv rfl rfl ?_
    refine OG.gy rfl rfl rfl ?_
    refine OG.yield (Yield.nilCheck rfl) rfl ?_
    refine OG.gy rfl rfl rfl ?_
    refine OG.yield (Yield.fieldAddr fa191_0 rfl) rfl ?_
    refine OG.gy rfl rfl rfl ?_
    refine OG.yield (Yield.fieldAddr fa156_2 rfl) rfl ?_
    refine OG.gy rfl rfl rfl ?_
    refine OG.yield (Yield.load (v := .int .i64 ch.to) ti3 rfl (((SlR.of_osl eX).elem Chan.len hcs) 2 _ rfl)) rfl ?_
    refine OG.gy rfl rfl rfl ?_
    refine OG.mv rfl rfl ?_
    refine OG.gy rfl rfl rfl ?_
    refine OG.yield Yield.neqA rfl ?_
    refine OG.yield Yield.pickA rfl ?_
    refine OG.sg rfl rfl ?_
    refine OG.nil ?_
    refine QG.then ?_
    refine CG.cond_t rfl ?_
    refine CG.seq ?_
    refine CG.region ?_
    refine OG.sg rfl rfl ?_
    refine OG.sg rfl rfl ?_
    refine OG.nil ?_
    refine QG.then ?_
    refine CG.ret ?_
    refine QG.block_ret ?_
    refine QG.pass_ret ?_
    rw [show recvE ch.abs part = 210 by unfold recvE; rw [if_pos (by exact hh)]]
    exact QG.ret2 rfl rfl rfl () trivial rfl (Imp.trans iM (Imp.trans (by unfold CP; rw [hxa]; exact Imp.refl _) (cp_back hch hx)))
  · skip
    refine CG.region ?_
    refine OG.mv rfl rfl ?_
    refine OG.yield (by first | exact Yield.ptr_nil Tryz.underlying186 rfl rfl | exact Yield.nil_nil Tryz.underlying186 rfl rfl) rfl ?_
    refine OG.mv rfl rfl ?_
    refine OG.gy rfl rfl rfl ?_
    refine OG.mv rfl rfl ?_
    refine OG.gy rfl rfl rfl ?_
    refine OG.yield (Yield.nilCheck rfl) rfl ?_
    refine OG.gy rfl rfl rfl ?_
    refine OG.yield (Yield.fieldAddr fa191_0 rfl) rfl ?_
    refine OG.gy rfl rfl rfl ?_
    refine OG.yield (Yield.fieldAddr fa156_2 rfl) rfl ?_
    refine OG.gy rfl rfl rfl ?_
    refine OG.yield (Yield.load (v := .int .i64 ch.to) ti3 rfl (((SlR.of_osl eX).elem Chan.len hcs) 2 _ rfl)) rfl ?_
    refine OG.gy rfl rfl rfl ?_
    refine OG.mv rfl rfl ?_
    refine OG.gy rfl rfl rfl ?_
    refine OG.yield Yield.neqA rfl ?_
    refine OG.yield Yield.pickA rfl ?_
    refine OG.sg rfl rfl ?_
    refine OG.nil ?_
    refine QG.then ?_
    refine CG.cond_f rfl ?_
    refine CG.seq ?_
    refine CG.region ?_
    refine OG.mv rfl rfl ?_
    refine OG.yield (Yield.nilCheck rfl) rfl ?_
    refine OG.yield (Yield.fieldAddr fa191_2 rfl) rfl ?_
    refine OG.yield (Yield.fieldAddr fa189_0 rfl) rfl ?_
    refine OG.yield (Yield.load (v := ch.r.cell) ti67 rfl (((SlR.of_osl eX).elem Chan.len hcs) 6 _ rfl)) rfl ?_
    refine OG.yield (Yield.len_slice (a := ch.r.a) (m := ch.r.ms.length) (c := ch.r.c) Tryz.underlying67 rfl rfl) rfl ?_
    refine OG.yield Yield.eqlA rfl ?_
    refine OG.sg rfl rfl ?_
    refine OG.nil ?_
    refine QG.then ?_
    refine CG.cond_t rfl ?_
    refine CG.seq ?_
    refine CG.region ?_
    refine OG.sg rfl rfl ?_
    refine OG.sg rfl rfl ?_
    refine OG.nil ?_
    refine QG.then ?_
    refine CG.ret ?_
    refine QG.block_ret ?_
    refine QG.pass_ret ?_
    rw [show recvE ch.abs part = 110 by unfold recvE; rw [if_neg (by exact not_not_intro hh.1), if_pos (by simp only [Chan.abs, End.bs, List.map_eq_nil_iff]; exact List.length_eq_zero_iff.1 hh.2)]]
    exact QG.ret2 rfl rfl rfl () trivial rfl (Imp.trans iM (Imp.trans (by unfold CP; rw [hxa]; exact Imp.refl _) (cp_back hch hx)))
set_option maxHeartbeats 1000000 in
theorem recv_ok {p n : Nat} {acs : List AC} (part : Int) {ac : AC} {m : B} {rest : List B} (hac : acs[n]? = some ac) (hto : ac.to = part) (hr : ac.r = m :: rest) :
    Ctr Tryz.prog W0 59 [.pointer (some ⟨p, 0, none⟩), .int .i64 part, .int .i64 n] (Po p acs :: Fr) (fun _ : Nat => True) (fun z => .tuple #[.slice (some ⟨z, 0, none⟩) m.length m.length, .int .i64 0]) (fun z => oby 5 (some ⟨z, 0, none⟩) m.length m :: Po p (acs.set n (if ac.kind = 2 then { ac with r := rest } else ac)) :: Fr) := by
  refine Ctr.ex Ext.here po_open ?_
  intro x hx
  refine Ctr.imp star_open ?_
  have hln := hx.lens
  obtain ⟨ch, hch, rfl⟩ := hx.get hac
  have hnl : n < x.chs.length := (List.getElem?_eq_some_iff.1 hch).1
  have hok := hx.ok _ (List.mem_of_getElem? hac)
  have hmem := hx.mem ch (List.mem_of_getElem? hch)
  obtain ⟨m0, ms', hrm, hm0, hms⟩ : ∃ m0 ms', ch.r.ms = m0 :: ms' ∧ m0.b = m ∧ ms'.map Msg.b = rest := by
    have hr2 : ch.r.ms.map Msg.b = m :: rest := hr
    cases hq : ch.r.ms with
    | nil => rw [hq] at hr2; cases hr2
    | cons m0 ms' => rw [hq] at hr2; simp only [List.map_cons, List.cons.injEq] at hr2; exact ⟨m0, ms', rfl, hr2.1, hr2.2⟩
  have hrl : ch.r.ms.length ≤ 8 := by have := hok.r; simp only [Chan.abs, End.bs, List.length_map] at this; exact this
  have hr1 : 1 ≤ ch.r.ms.length := by rw [hrm]; simp
  have hml : m.length ≤ 64 := hok.rl m (by rw [hr]; simp)
  have hto2 : ch.to = part := hto
  refine Ctr.imp (cp_open hch) ?_
  have hcs : (x.chs.set n ch)[n]? = some ch := by rw [set_self hch]; exact hch
  refine Ctr.pure (fun w hw => shape_chs (cs := x.chs.set n ch) hch (by rw [List.length_set]) (Ext.there Ext.here) w hw) ?_
  rintro ⟨b, o, hxa⟩
  unfold CP
  rw [hxa]
  dsimp only [List.cons_append, List.nil_append]
  refine Ctr.pure (fun w hw => SlR.shape (SlR.of_osl (W0 := W0) (E := 32) (sz := 1) (a := ch.r.a) (c := ch.r.c) (m := ch.r.ms.length) (xs := ch.r.ms.map Msg.cell) eX) (by rw [hrm]; simp) w hw) ?_
  rintro ⟨br, or', hra⟩
  subst hm0
  refine Ctr.of_body Tryz.func59 rfl Tryz.ntmps59 rfl ?_
  refine CG.seq ?_
  refine CG.region ?_
  refine OG.sg rfl rfl ?_
  refine OG.sg rfl rfl ?_
  refine OG.nil ?_
  refine QG.then ?_
  refine CG.seq ?_
  refine CG.region ?_
  refine OG.mv rfl rfl ?_
  refine OG.mv rfl rfl ?_
  refine OG.callo call95 rfl (iM) (at_in W0 _ (p := p) (b := b) (o := o) (c := x.c) (n := n) hnl) rfl ?_
  rintro ⟨⟩ -
  refine OG.sg rfl rfl ?_
  refine OG.nil ?_
  refine QG.then ?_
  refine CG.seq ?_
  refine CG.block ?_
  refine CG.seq ?_
  refine CG.region ?_
  refine OG.mv rfl rfl ?_
  refine OG.yield (by first | exact Yield.ptr_nil Tryz.underlying186 rfl rfl | exact Yield.nil_nil Tryz.underlying186 rfl rfl) rfl ?_
  refine OG.mv rfl rfl ?_
  refine OG.gy rfl rfl rfl ?_
  refine OG.mv rfl rfl ?_
  refine OG.gy rfl rfl rfl ?_
  refine OG.yield (Yield.nilCheck rfl) rfl ?_
  refine OG.gy rfl rfl rfl ?_
  refine OG.yield (Yield.fieldAddr fa191_0 rfl) rfl ?_
  refine OG.gy rfl rfl rfl ?_
  refine OG.yield (Yield.fieldAddr fa156_2 rfl) rfl ?_
  refine OG.gy rfl rfl rfl ?_
  refine OG.yield (Yield.load (v := .int .i64 ch.to) ti3 rfl (((SlR.of_osl eX).elem Chan.len hcs) 2 _ rfl)) rfl ?_
  refine OG.gy rfl rfl rfl ?_
  refine OG.mv rfl rfl ?_
  refine OG.gy rfl rfl rfl ?_
  refine OG.yield Yield.neqA rfl ?_
  refine OG.yield Yield.pickA rfl ?_
  refine OG.sg rfl rfl ?_
  refine OG.nil ?_
  refine QG.then ?_
  refine CG.cond_f rfl ?_
  refine CG.seq ?_
  refine CG.region ?_
  refine OG.mv rfl rfl ?_
  refine OG.yield (Yield.nilCheck rfl) rfl ?_
  refine OG.yield (Yield.fieldAddr fa191_2 rfl) rfl ?_
  refine OG.yield (Yield.fieldAddr fa189_0 rfl) rfl ?_
  refine OG.yield (Yield.load (v := ch.r.cell) ti67 rfl (((SlR.of_osl eX).elem Chan.len hcs) 6 _ rfl)) rfl ?_
  refine OG.yield (Yield.len_slice (a := ch.r.a) (m := ch.r.ms.length) (c := ch.r.c) Tryz.underlying67 rfl rfl) rfl ?_
  refine OG.yield Yield.eqlA rfl ?_
  refine OG.sg rfl rfl ?_
  refine OG.nil ?_
  refine QG.then ?_
  refine CG.cond_f rfl ?_
  refine CG.skip ?_
  refine QG.block_normal ?_
  refine QG.then ?_
  refine CG.seq ?_
  refine CG.region ?_
  refine OG.mv rfl rfl ?_
  refine OG.yield (Yield.nilCheck rfl) rfl ?_
  refine OG.yield (Yield.fieldAddr fa191_2 rfl) rfl ?_
  refine OG.yield (Yield.fieldAddr fa189_0 rfl) rfl ?_
  refine OG.yield (Yield.load (v := ch.r.cell) ti67 rfl (((SlR.of_osl eX).elem Chan.len hcs) 6 _ rfl)) rfl ?_
  refine OG.yield (Yield.index_slice (b := br) (o := or') (m := ch.r.ms.length) (c := ch.r.c) Tryz.underlying67 ti32 (by unfold End.cell; rw [← hra]; rfl) rfl (by omega) (by omega)) rfl ?_
  refine OG.yield (Yield.load (v := m0.cell) ti32 rfl (by rw [show or' + (0 : Int).toNat * 1 = or' + 0 from rfl]; exact SlR.cel (by rw [← hra]; exact SlR.of_osl (E := 32) (a := ch.r.a) (c := ch.r.c) (m := ch.r.ms.length) (xs := ch.r.ms.map Msg.cell) eX) (by rw [hrm]; rfl))) rfl ?_
  refine OG.callo call98 rfl (Imp.refl _) (own_spec W0 _ (a := m0.a) (c := m0.c) (bs := m0.b) (by exact (pool_rd eX (hmem m0 (.inr (by rw [hrm]; simp)))).slR) (by omega)) rfl ?_
  rintro bz -
  refine OG.sg rfl rfl ?_
  refine OG.nil ?_
  refine QG.then ?_
  refine CG.seq ?_
  refine CG.seq ?_
  refine CG.region ?_
  refine OG.mv rfl rfl ?_
  refine OG.yield (Yield.nilCheck rfl) rfl ?_
  refine OG.yield (Yield.fieldAddr fa191_0 rfl) rfl ?_
  refine OG.yield (Yield.fieldAddr fa156_0 rfl) rfl ?_
  refine OG.yield (Yield.load (v := .int .i64 ch.kind) ti3 rfl (((SlR.of_osl eX).elem Chan.len hcs) 0 _ rfl)) rfl ?_
  refine OG.yield (Yield.eql rfl rfl) rfl ?_
  refine OG.nil ?_
  refine QG.then ?_
  refine CG.cond rfl (fun hc => ?_) (fun hc => ?_)
  · try replace hc := of_decide_eq_true hc
    refine CG.region ?_
    refine OG.mv rfl rfl ?_
    refine OG.mv rfl rfl ?_
    refine OG.yield (Yield.nilCheck rfl) rfl ?_
    refine OG.yield (Yield.fieldAddr fa191_2 rfl) rfl ?_
    refine OG.callo call96 rfl (Imp.refl _) (all_spec W0 _ (b := b) (o := o + n * 7 + 6) (x := ch.r) (by exact ((SlR.of_osl eX).elem Chan.len hcs) 6 _ rfl) (by exact SlR.of_osl (E := 32) eX) (by intro m hm; exact pool_rd eX (hmem m (.inr hm))) (by omega) (by intro m hm; have := hok.rl m.b (List.mem_map_of_mem hm); omega)) rfl ?_
    rintro y hy
    have hyl : y.ms.length = ch.r.ms.length := by have := congrArg List.length hy; unfold End.bs at this; simpa using this
    refine OG.pure (fun w hw => osl_facts (W0 := W0) (E := 32) (sz := 1) (a := y.a) (c := y.c) (m := y.ms.length) (xs := y.ms.map Msg.cell) eX w hw) ?_
    rintro ⟨-, hyc⟩
    refine OG.yield (Yield.tail (y := y) Tryz.underlying67 ti32 rfl (by omega) hyc) rfl ?_
    refine OG.yield (Yield.nilCheck rfl) rfl ?_
    refine OG.yield (Yield.fieldAddr fa191_2 rfl) rfl ?_
    refine OG.yield (Yield.fieldAddr fa189_0 rfl) rfl ?_
    refine OG.eff (Eff.storeFld (i := n) 6 (r := ch) (r' := { ch with r := y.tail }) (rs := x.chs.set n ch) Chan.len hcs rfl (by decide) ti67 rfl rfl fC rfl (by rw [List.length_set])) rfl ?_
    rintro ⟨⟩ -
    refine OG.nil ?_
    refine QG.then ?_
    refine CG.seq ?_
    refine CG.region ?_
    refine OG.mv rfl rfl ?_
    refine OG.sg rfl rfl ?_
    refine OG.sg rfl rfl ?_
    refine OG.nil ?_
    refine QG.then ?_
    refine CG.ret ?_
    rw [if_pos (by exact hc)]
    have hyt : y.tail.bs = rest := by rw [End.tail_bs, hy]; show (ch.r.ms.map Msg.b).tail = rest; rw [hrm]; exact hms
    have hcl := cp_close (p := p) (ms := y.ms) (ch := { ch with r := y.tail }) (G := Fr) hch hx ⟨hok.s, by show y.tail.bs.length ≤ 8; rw [hyt, ← hms, List.length_map]; rw [hrm] at hrl; simp only [List.length_cons] at hrl; omega, hok.sl, fun m hm => hok.rl m (by rw [hr]; have hm2 : m ∈ y.tail.bs := hm; rw [hyt] at hm2; simp [hm2])⟩ (fun m hm => by rcases hm with hm | hm; exact List.mem_append.2 (.inr (hmem m (.inl hm))); exact List.mem_append.2 (.inl (List.mem_of_mem_tail hm)))
    rw [show Chan.abs { ch with r := y.tail } = { ch.abs with r := rest } by simp only [Chan.abs]; rw [hyt]] at hcl
    unfold CP at hcl
    rw [hxa, List.set_set] at *
    refine QG.ret2 rfl rfl rfl bz trivial rfl (Imp.trans ?_ (Imp.cons hcl))
    refine Imp.trans ?_ (Imp.cons (Imp.cons (Imp.cons (Imp.cons (Imp.head (fun h hh => oend_tail (by omega) h hh))))))
    dsimp only
    exact iM
  · try replace hc := of_decide_eq_false hc
    refine CG.skip ?_
    refine QG.then ?_
    refine CG.seq ?_
    refine CG.region ?_
    refine OG.mv rfl rfl ?_
    refine OG.sg rfl rfl ?_
    refine OG.sg rfl rfl ?_
    refine OG.nil ?_
    refine QG.then ?_
    refine CG.ret ?_
    rw [if_neg (by exact hc), set_self hac]
    exact QG.ret2 rfl rfl rfl bz trivial rfl (Imp.trans (Imp.pull eX iM) (Imp.cons (Imp.trans (by unfold CP; rw [hxa]; exact Imp.refl _) (cp_back hch hx))))
theorem held_in {p n : Nat} {acs : List AC} (sd : Bool) {ac : AC} (hac : acs[n]? = some ac) :
    Ctr Tryz.prog W0 43 [.pointer (some ⟨p, 0, none⟩), .int .i64 n, .bool sd] (Po p acs :: Fr) (fun y : End => y.bs = if sd then ac.s else ac.r) (fun y => y.cell) (fun y => oend y :: pool y.ms :: Po p acs :: Fr) := by
  refine Ctr.ex Ext.here po_open ?_
  intro x hx
  refine Ctr.imp star_open ?_
  have hln := hx.lens
  obtain ⟨ch, hch, rfl⟩ := hx.get hac
  have hnl : n < x.chs.length := (List.getElem?_eq_some_iff.1 hch).1
  have hok := hx.ok _ (List.mem_of_getElem? hac)
  have hmem := hx.mem ch (List.mem_of_getElem? hch)
  have hrl : ch.r.ms.length ≤ 8 := by have := hok.r; simp only [Chan.abs, End.bs, List.length_map] at this; exact this
  have hsl : ch.s.ms.length ≤ 8 := by have := hok.s; simp only [Chan.abs, End.bs, List.length_map] at this; exact this
  refine Ctr.imp (cp_open hch) ?_
  have hcs : (x.chs.set n ch)[n]? = some ch := by rw [set_self hch]; exact hch
  refine Ctr.pure (fun w hw => shape_chs (cs := x.chs.set n ch) hch (by rw [List.length_set]) (Ext.there Ext.here) w hw) ?_
  rintro ⟨b, o, hxa⟩
  unfold CP
  rw [hxa]
  dsimp only [List.cons_append, List.nil_append]
  refine Ctr.of_body Tryz.func43 rfl Tryz.ntmps43 rfl ?_
  refine CG.seq ?_
  refine CG.region ?_
  refine OG.sg rfl rfl ?_
  refine OG.nil ?_
  refine QG.then ?_
  refine CG.seq ?_
  refine CG.region ?_
  refine OG.mv rfl rfl ?_
  refine OG.mv rfl rfl ?_
  refine OG.callo call95 rfl (iM) (at_in W0 _ (p := p) (b := b) (o := o) (c := x.c) (n := n) hnl) rfl ?_
  rintro ⟨⟩ -
  refine OG.sg rfl rfl ?_
  refine OG.nil ?_
  refine QG.then ?_
  refine CG.seq ?_
  refine CG.block ?_
  refine CG.seq ?_
  refine CG.region ?_
  refine OG.mv rfl rfl ?_
  refine OG.yield (by first | exact Yield.ptr_nil Tryz.underlying186 rfl rfl | exact Yield.nil_nil Tryz.underlying186 rfl rfl) rfl ?_
  refine OG.sg rfl rfl ?_
  refine OG.nil ?_
  refine QG.then ?_
  refine CG.cond_f rfl ?_
  refine CG.seq ?_
  refine CG.region ?_
  refine OG.mv rfl rfl ?_
  refine OG.sg rfl rfl ?_
  refine OG.nil ?_
  refine QG.then ?_
  refine CG.cond rfl (fun hc => ?_) (fun hc => ?_)
  · try replace hc := of_decide_eq_true hc
    refine CG.seq ?_
    refine CG.region ?_
    refine OG.mv rfl rfl ?_
    refine OG.yield (Yield.nilCheck rfl) rfl ?_
    refine OG.yield (Yield.fieldAddr fa191_1 rfl) rfl ?_
    refine OG.callo call96 rfl (Imp.refl _) (all_spec W0 _ (b := b) (o := o + n * 7 + 5) (x := ch.s) (by exact ((SlR.of_osl eX).elem Chan.len hcs) 5 _ rfl) (by exact SlR.of_osl (E := 32) eX) (by intro m hm; exact pool_rd eX (hmem m (.inl hm))) (by omega) (by intro m hm; have := hok.sl m.b (List.mem_map_of_mem hm); omega)) rfl ?_
    rintro y hy
    refine OG.sg rfl rfl ?_
    refine OG.nil ?_
    refine QG.then ?_
    refine CG.ret ?_
    refine QG.block_ret ?_
    refine QG.pass_ret ?_
    exact QG.ret1 rfl rfl y (by rw [if_pos hc]; exact hy) rfl (Imp.cons (Imp.cons (Imp.trans (by unfold CP; rw [hxa]; exact Imp.refl _) (cp_back hch hx))))
  · try replace hc := of_decide_eq_false hc
    refine CG.skip ?_
    refine QG.block_normal ?_
    refine QG.then ?_
    refine CG.seq ?_
    refine CG.region ?_
    refine OG.mv rfl rfl ?_
    refine OG.yield (Yield.nilCheck rfl) rfl ?_
    refine OG.yield (Yield.fieldAddr fa191_2 rfl) rfl ?_
    refine OG.callo call96 rfl (Imp.refl _) (all_spec W0 _ (b := b) (o := o + n * 7 + 6) (x := ch.r) (by exact ((SlR.of_osl eX).elem Chan.len hcs) 6 _ rfl) (by exact SlR.of_osl (E := 32) eX) (by intro m hm; exact pool_rd eX (hmem m (.inr hm))) (by omega) (by intro m hm; have := hok.rl m.b (List.mem_map_of_mem hm); omega)) rfl ?_
    rintro y hy
    refine OG.sg rfl rfl ?_
    refine OG.nil ?_
    refine QG.then ?_
    refine CG.ret ?_
    exact QG.ret1 rfl rfl y (by rw [if_neg (by rw [hc]; decide)]; exact hy) rfl (Imp.cons (Imp.cons (Imp.trans (by unfold CP; rw [hxa]; exact Imp.refl _) (cp_back hch hx))))
end
end Go.Proofs.YtphljkplokjonaaGreat.Po
/- ports: Transfer and New. -/
namespace Go.Proofs.YtphljkplokjonaaGreat.Po
open Go Go.Sl Go.RowKit Go.Proofs Go.Proofs.YtphljkplokjonaaGreat.T
set_option maxRecDepth 100000
/-- What is carried over at a channel: what stays at the sending end, what lies at the other. -/
def carry (kd dp : Int) : List B → List B → List B × List B
  | [], r => ([], r)
  | m :: s, r => if kd ≠ 2 then carry kd dp s [m] else if dp ≤ (r.length : Int) then (m :: s, r) else carry kd dp s (r ++ [m])
def AC.q (ac : AC) : List B × List B := carry ac.kind (dep ac.kind ac.depth) ac.s ac.r
def AC.tr (ac : AC) : AC := { ac with s := ac.q.1, r := ac.q.2 }
def AC.went (ac : AC) : Bool := decide (ac.q.1.length < ac.s.length)
/-- The channels below i at which something went. -/
def wentI (acs : List AC) (i : Nat) : List Int := ((List.range i).filter fun n => ((acs[n]?).map AC.went).getD false).map Int.ofNat
theorem wentI_succ {acs : List AC} {i : Nat} {ac : AC} (h : acs[i]? = some ac) : wentI acs (i + 1) = if ac.went then wentI acs i ++ [(i : Int)] else wentI acs i := by
  unfold wentI
  rw [List.range_succ, List.filter_append, List.map_append]
  cases hw : ac.went <;> simp [h, hw]
theorem wentI_len (acs : List AC) (i : Nat) : (wentI acs i).length ≤ i := by
  unfold wentI; rw [List.length_map]; exact Nat.le_trans (List.length_filter_le _ _) (by simp)
def oint (l : List Int) : List Value := l.map (Value.int .i64)
abbrev oins (a : Option Addr) (c : Nat) (l : List Int) : HProp := osl 3 1 a c l.length (oint l)
theorem step_map {acs : List AC} {i : Nat} {ac : AC} (h : acs[i]? = some ac) : (acs.take (i + 1)).map AC.tr ++ acs.drop (i + 1) = ((acs.take i).map AC.tr ++ acs.drop i).set i ac.tr := by
  obtain ⟨hi, rfl⟩ := List.getElem?_eq_some_iff.1 h
  have hl : ((acs.take i).map AC.tr).length = i := by simp; omega
  rw [List.set_append_right _ _ (by omega), hl, Nat.sub_self, List.drop_eq_getElem_cons hi, List.set_cons_zero, List.take_succ_eq_append_getElem hi, List.map_append, List.append_assoc]; rfl
theorem step_get {acs : List AC} {i : Nat} {ac : AC} (h : acs[i]? = some ac) : ((acs.take i).map AC.tr ++ acs.drop i)[i]? = some ac := by
  obtain ⟨hi, rfl⟩ := List.getElem?_eq_some_iff.1 h
  have hl : ((acs.take i).map AC.tr).length = i := by simp; omega
  rw [List.getElem?_append_right (by omega), hl, Nat.sub_self]; simp [hi]
/-- How a channel stands within Transfer: as it began, but for its ends. -/
structure Way (ch0 ch : Chan) (ms pl : List Msg) : Prop where
  kind : ch.kind = ch0.kind
  from_ : ch.from_ = ch0.from_
  to : ch.to = ch0.to
  size : ch.size = ch0.size
  depth : ch.depth = ch0.depth
  sl : ch.s.ms.length ≤ 8
  rl : ch.r.ms.length ≤ 8
  sm : ∀ m ∈ ch.s.ms, m.b.length ≤ 64
  rm : ∀ m ∈ ch.r.ms, m.b.length ≤ 64
  mem : ∀ m, m ∈ ch.s.ms ∨ m ∈ ch.r.ms → m ∈ ms ++ pl
structure It where
  ch : Chan
  ms : List Msg
section
variable (W0 : World) (Fr : List HProp)
set_option maxHeartbeats 4000000 in
theorem transfer_spec {p : Nat} {acs : List AC} : Ctr Tryz.prog W0 45 [.pointer (some ⟨p, 0, none⟩)] (Po p acs :: Fr) (fun _ : Option Addr × Nat => True) (fun q => .slice q.1 (wentI acs acs.length).length q.2) (fun q => oins q.1 q.2 (wentI acs acs.length) :: Po p (acs.map AC.tr) :: Fr) := by
  refine Ctr.pure (ψ := acs.length ≤ 1000) (fun w hw => by obtain ⟨_, _, x, hx, _⟩ := Sat.ext Ext.here hw; exact hx.len) fun hal => ?_
  refine Ctr.of_body Tryz.func45 rfl Tryz.ntmps45 rfl ?_
  refine CG.seq ?_
  refine CG.region ?_
  refine OG.sg rfl rfl ?_
  refine OG.nil ?_
  refine QG.then ?_
  refine CG.seq ?_
  refine CG.region ?_
  refine OG.sg rfl rfl ?_
  refine OG.nil ?_
  refine QG.then ?_
  refine CG.ex (A := Po p acs) eX po_open ?_
  intro x0 hx0
  refine CG.imp star_open ?_
  have hln0 := hx0.lens
  dsimp only [CO, List.cons_append, List.nil_append]
  refine CG.seq ?_
  refine CG.seq ?_
  refine CG.region ?_
  refine OG.mv rfl rfl ?_
  refine OG.yield (Yield.nilCheck rfl) rfl ?_
  refine OG.yield (Yield.fieldAddr fa196_0 rfl) rfl ?_
  refine OG.yield (Yield.load ti194 rfl (by first | exact Cel.of_blk eX rfl | exact (hrow eX) _ _ rfl)) rfl ?_
  refine OG.yield (Yield.len_slice Tryz.underlying194 rfl rfl) rfl ?_
  refine OG.mv rfl rfl ?_
  refine OG.nil ?_
  refine QG.then ?_
  refine CG.block ?_
  refine CG.loop (fun s : Nat × Option Addr × Nat => s.1 ≤ acs.length) (fun s => [(0, .pointer (some ⟨p, 0, none⟩)), (3, .slice s.2.1 (wentI acs s.1).length s.2.2), (11, .int .i64 acs.length), (12, .int .i64 s.1)]) (fun s => oins s.2.1 s.2.2 (wentI acs s.1) :: Po p ((acs.take s.1).map AC.tr ++ acs.drop s.1) :: Fr) (fun s => acs.length - s.1) (0, none, 0) (Nat.zero_le _) (by rw [← hln0]; exact eS) (by simp only [List.take_zero, List.map_nil, List.nil_append, List.drop_zero]; exact Imp.trans (osl_nil (E := 3) (sz := 1)) (Imp.cons (Imp.trans iM (po_close x0 hx0)))) ?_
  rintro ⟨i, a3, c3⟩ (hi : i ≤ acs.length)
  have hwl := wentI_len acs i
  dsimp only
  refine CG.seq ?_
  refine CG.region ?_
  refine OG.yield Yield.lssA rfl ?_
  refine OG.nil ?_
  refine QG.then ?_
  refine CG.seq ?_
  refine CG.cond rfl (fun hc => ?_) (fun hc => ?_)
  · try replace hc := of_decide_eq_true hc
    have hi' : i < acs.length := by omega
    have hget : acs[i]? = some acs[i] := by simp [hi']
    generalize acs[i] = ac at hget
    have hg2 := step_get hget
    have hwi := wentI_succ hget
    have hst := step_map hget
    refine CG.skip ?_
    refine QG.then ?_
    refine CG.seq ?_
    refine CG.block ?_
    refine CG.seq ?_
    refine CG.region ?_
    refine OG.mv rfl rfl ?_
    refine OG.sg rfl rfl ?_
    refine OG.nil ?_
    refine QG.then ?_
    refine CG.scope ?_
    generalize hA : (acs.take i).map AC.tr ++ acs.drop i = A at hg2 hst ⊢
    refine CG.ex (A := Po p A) eX po_open ?_
    intro x hx
    refine CG.imp star_open ?_
    have hln := hx.lens
    obtain ⟨ch, hch, hab⟩ := hx.get hg2
    have hnl : i < x.chs.length := (List.getElem?_eq_some_iff.1 hch).1
    have hok := hx.ok _ (List.mem_of_getElem? hg2)
    have hmem := hx.mem ch (List.mem_of_getElem? hch)
    subst hab
    refine CG.imp (cp_open hch) ?_
    refine CG.pure (fun w hw => shape_chs (cs := x.chs.set i ch) hch (by rw [List.length_set]) (Ext.there Ext.here) w hw) ?_
    rintro ⟨b, o, hxa⟩
    have hway : Way ch ch [] x.pl := ⟨rfl, rfl, rfl, rfl, rfl, by have := hok.s; simp only [Chan.abs, End.bs, List.length_map] at this; exact this, by have := hok.r; simp only [Chan.abs, End.bs, List.length_map] at this; exact this, fun m hm => hok.sl m.b (List.mem_map_of_mem hm), fun m hm => hok.rl m.b (List.mem_map_of_mem hm), fun m hm => hmem m hm⟩
    refine CG.imp (G' := CP p x i ch ++ (pool [] :: pool x.pl :: oins a3 c3 (wentI acs i) :: Fr)) (Imp.trans iM (Imp.trans pool_nil iM)) ?_
    unfold CP
    rw [hxa]
    dsimp only [List.cons_append, List.nil_append]
    refine CG.seq ?_
    refine CG.region ?_
    refine OG.mv rfl rfl ?_
    refine OG.yield (Yield.nilCheck rfl) rfl ?_
    refine OG.yield (Yield.fieldAddr fa196_0 rfl) rfl ?_
    refine OG.yield (Yield.load ti194 rfl (by first | exact Cel.of_blk eX rfl | exact (hrow eX) _ _ rfl)) rfl ?_
    refine OG.mv rfl rfl ?_
    refine OG.yield (Yield.index_slice Tryz.underlying194 ti191 rfl rfl (by omega) (by omega)) rfl ?_
    refine OG.sg rfl rfl ?_
    refine OG.nil ?_
    refine QG.then ?_
    refine CG.seq ?_
    refine CG.region ?_
    refine OG.sg rfl rfl ?_
    refine OG.nil ?_
    refine QG.then ?_
    refine CG.seq ?_
    refine CG.label ?_
    refine QG.then ?_
    refine CG.cut (fun s : It => Way ch s.ch s.ms x.pl ∧ (s.ch.s.bs, s.ch.r.bs) = ch.abs.q) (fun s => [(0, .pointer (some ⟨p, 0, none⟩)), (3, .slice a3 (wentI acs i).length c3), (4, .int .i64 i), (6, .bool (decide (s.ch.s.bs.length < ch.s.bs.length))), (11, .int .i64 acs.length), (12, .int .i64 i)]) (fun s => CP p x i s.ch ++ (pool s.ms :: pool x.pl :: oins a3 c3 (wentI acs i) :: Fr)) ?_ ?_
    · skip
      refine CG.block ?_
      refine CG.loop (fun s : It => Way ch s.ch s.ms x.pl ∧ carry ch.kind (dep ch.kind ch.depth) s.ch.s.bs s.ch.r.bs = ch.abs.q ∧ s.ch.s.bs.length ≤ ch.s.bs.length) (fun s => [(0, .pointer (some ⟨p, 0, none⟩)), (3, .slice a3 (wentI acs i).length c3), (4, .int .i64 i), (5, .pointer (some ⟨b, o + i * 7, none⟩)), (6, .bool (decide (s.ch.s.bs.length < ch.s.bs.length))), (11, .int .i64 acs.length), (12, .int .i64 i)]) (fun s => CP p x i s.ch ++ (pool s.ms :: pool x.pl :: oins a3 c3 (wentI acs i) :: Fr)) (fun s => s.ch.s.ms.length) ⟨ch, []⟩ ⟨hway, rfl, Nat.le_refl _⟩ (by rw [show decide (ch.s.bs.length < ch.s.bs.length) = false by simp]; exact eS) (by dsimp only; unfold CP; rw [hxa]; exact Imp.refl _) ?_
      rintro ⟨ch2, ms2⟩ ⟨way, hq, hsl⟩
      dsimp only at way hq hsl ⊢
      have hcs : (x.chs.set i ch2)[i]? = some ch2 := by simp [hnl]
      have wl := way.sl
      have wr := way.rl
      unfold CP
      rw [hxa]
      dsimp only [List.cons_append, List.nil_append]
      refine CG.seq ?_
      refine CG.seq ?_
      refine CG.region ?_
      refine OG.mv rfl rfl ?_
      refine OG.yield (Yield.nilCheck rfl) rfl ?_
      refine OG.yield (Yield.fieldAddr fa191_1 rfl) rfl ?_
      refine OG.yield (Yield.fieldAddr fa189_0 rfl) rfl ?_
      refine OG.yield (Yield.load (v := ch2.s.cell) ti67 rfl (((SlR.of_osl eX).elem Chan.len hcs) 5 _ rfl)) rfl ?_
      refine OG.yield (Yield.len_slice (a := ch2.s.a) (m := ch2.s.ms.length) (c := ch2.s.c) Tryz.underlying67 rfl rfl) rfl ?_
      refine OG.yield (Yield.gtr rfl rfl) rfl ?_
      refine OG.nil ?_
      refine QG.then ?_
      refine CG.cond rfl (fun hc => ?_) (fun hc => ?_)
      · try replace hc := of_decide_eq_true hc
        obtain ⟨m0, ms', hsm⟩ : ∃ m0 ms', ch2.s.ms = m0 :: ms' := by
          cases h : ch2.s.ms with
          | nil => rw [h] at hc; simp at hc
          | cons a l => exact ⟨a, l, rfl⟩
        have hsb : ch2.s.bs = m0.b :: ms'.map Msg.b := by unfold End.bs; rw [hsm]; rfl
        have hql := hq
        rw [hsb, carry] at hql
        refine CG.skip ?_
        refine QG.then ?_
        refine CG.block ?_
        refine CG.cut (fun ch1 : Chan => Way ch ch1 ms2 x.pl ∧ ch1.s = ch2.s ∧ ch1.r.ms.length ≤ 7 ∧ carry ch.kind (dep ch.kind ch.depth) (ms'.map Msg.b) (ch1.r.bs ++ [m0.b]) = ch.abs.q) (fun _ => [(0, .pointer (some ⟨p, 0, none⟩)), (3, .slice a3 (wentI acs i).length c3), (4, .int .i64 i), (5, .pointer (some ⟨b, o + i * 7, none⟩)), (11, .int .i64 acs.length), (12, .int .i64 i)]) (fun ch1 => CP p x i ch1 ++ (pool ms2 :: pool x.pl :: oins a3 c3 (wentI acs i) :: Fr)) ?_ ?_
        · skip
          refine CG.block ?_
          refine CG.seq ?_
          rcases (show ch2.kind ≠ 2 ∨ (ch2.kind = 2 ∧ dep ch2.kind ch2.depth ≤ (ch2.r.ms.length : Int)) ∨ (ch2.kind = 2 ∧ (ch2.r.ms.length : Int) < dep ch2.kind ch2.depth) by omega) with hh | hh | hh
          · skip
            rw [if_pos (by rw [← way.kind]; exact hh)] at hql
            refine CG.region ?_
            refine OG.mv rfl rfl ?_
            refine OG.yield (Yield.nilCheck rfl) rfl ?_
            refine OG.yield (Yield.fieldAddr fa191_0 rfl) rfl ?_
            refine OG.yield (Yield.fieldAddr fa156_0 rfl) rfl ?_
            refine OG.yield (Yield.load (v := .int .i64 ch2.kind) ti3 rfl (((SlR.of_osl eX).elem Chan.len hcs) 0 _ rfl)) rfl ?_
            refine OG.yield (Yield.as (Yield.neq rfl rfl) (bT hh)) rfl ?_
            refine OG.sg rfl rfl ?_
            refine OG.nil ?_
            refine QG.then ?_
            refine CG.cond_t rfl ?_
            refine CG.region ?_
            refine OG.mv rfl rfl ?_
            refine OG.yield (Yield.nilCheck rfl) rfl ?_
            refine OG.yield (Yield.fieldAddr fa191_2 rfl) rfl ?_
            refine OG.yield (Yield.fieldAddr fa189_0 rfl) rfl ?_
            refine OG.eff (Eff.storeFld (i := i) 6 (r := ch2) (r' := { ch2 with r := nilE }) (rs := x.chs.set i ch2) Chan.len hcs rfl (by decide) ti67 rfl rfl fC rfl (by rw [List.length_set])) rfl ?_
            rintro ⟨⟩ -
            refine OG.nil ?_
            refine QG.block_normal ?_
            refine QG.mid { ch2 with r := nilE } ⟨⟨way.kind, way.from_, way.to, way.size, way.depth, way.sl, Nat.zero_le _, way.sm, fun m hm => absurd hm (by simp [nilE]), fun m hm => by rcases hm with hm | hm; exact way.mem m (.inl hm); exact absurd hm (by simp [nilE])⟩, rfl, Nat.zero_le _, hql⟩ eS ?_
            try unfold CP
            try rw [hxa]
            rw [List.set_set] at *
            exact Imp.trans oend_nil iM
          · skip
            rw [way.kind, way.depth] at hh
            refine CG.region ?_
            refine OG.mv rfl rfl ?_
            refine OG.yield (Yield.nilCheck rfl) rfl ?_
            refine OG.yield (Yield.fieldAddr fa191_0 rfl) rfl ?_
            refine OG.yield (Yield.fieldAddr fa156_0 rfl) rfl ?_
            refine OG.yield (Yield.load (v := .int .i64 ch2.kind) ti3 rfl (((SlR.of_osl eX).elem Chan.len hcs) 0 _ rfl)) rfl ?_
            refine OG.yield (Yield.as (Yield.neq rfl rfl) (bF (by rw [way.kind]; exact not_not_intro hh.1))) rfl ?_
            refine OG.sg rfl rfl ?_
            refine OG.nil ?_
            refine QG.then ?_
            refine CG.cond_f rfl ?_
            refine CG.seq ?_
            refine CG.draw (.look 0 0 (.look 1 0 (.look 2 0 (.look 3 0 (.look 4 0 (.look 5 0 (.look 6 1 (.eff1 7 false (.look 8 1 (.look 9 1 (.done))))))))))) [7] [] ([osl 191 7 (some ⟨b, o, none⟩) x.c x.chs.length (((x.chs.set i ch2).map Chan.cells).flatten)]) ([]) mixed (by kernel_rfl) (iM) (Imp.none _) ?_
            refine DG.look rfl rfl (Yield.move rfl) rfl ?_
            refine DG.look rfl rfl (Yield.nilCheck rfl) rfl ?_
            refine DG.look rfl rfl (Yield.fieldAddr fa191_2 rfl) rfl ?_
            refine DG.look rfl rfl (Yield.fieldAddr fa189_0 rfl) rfl ?_
            refine DG.look rfl rfl (Yield.load (v := ch2.r.cell) ti67 rfl (((SlR.of_osl Ext.here).elem Chan.len hcs) 6 _ rfl)) rfl ?_
            refine DG.look rfl rfl (Yield.len_slice (a := ch2.r.a) (m := ch2.r.ms.length) (c := ch2.r.c) Tryz.underlying67 rfl rfl) rfl ?_
            refine DG.look rfl rfl (Yield.move rfl) rfl ?_
            refine DG.eff1 ?_
            refine Chg.callo rfl rfl call99 rfl (Imp.refl _) (depth_spec W0 _ (b := b) (o := o + i * 7) (kd := ch2.kind) (d := ch2.depth) (by exact ((SlR.of_osl eX).elem Chan.len hcs) 0 _ rfl) (by exact ((SlR.of_osl eX).elem Chan.len hcs) 4 _ rfl)) rfl (fun _ => iM) (fun _ => Imp.refl _) (fun _ => iM) ?_
            rintro ⟨⟩ -
            refine DG.look rfl rfl (Yield.as (Yield.geq rfl rfl) (bT (by rw [way.kind, way.depth]; exact hh.2))) rfl ?_
            refine DG.look rfl rfl (Yield.assign rfl) rfl ?_
            refine DG.done ?_
            refine QG.then ?_
            refine CG.cond_t rfl ?_
            refine CG.exit ?_
            refine QG.block_out (by decide) ?_
            refine QG.pass_exit ?_
            refine QG.block_out (by decide) ?_
            refine QG.pass_exit ?_
            refine QG.block_exit ?_
            exact QG.mid ⟨ch2, ms2⟩ ⟨way, by rw [← hql]; rw [if_neg (by exact not_not_intro hh.1), if_pos (by simp only [End.bs, List.length_map]; exact hh.2), hsb]⟩ eS (by (try unfold CP); (try rw [hxa]); exact iM)
          · skip
            have hd8 : dep ch2.kind ch2.depth ≤ 8 := by unfold dep; split <;> omega
            rw [if_neg (by rw [← way.kind]; exact not_not_intro hh.1), if_neg (by rw [← way.kind, ← way.depth]; simp only [End.bs, List.length_map]; exact Int.not_le.2 hh.2)] at hql
            refine CG.region ?_
            refine OG.mv rfl rfl ?_
            refine OG.yield (Yield.nilCheck rfl) rfl ?_
            refine OG.yield (Yield.fieldAddr fa191_0 rfl) rfl ?_
            refine OG.yield (Yield.fieldAddr fa156_0 rfl) rfl ?_
            refine OG.yield (Yield.load (v := .int .i64 ch2.kind) ti3 rfl (((SlR.of_osl eX).elem Chan.len hcs) 0 _ rfl)) rfl ?_
            refine OG.yield (Yield.as (Yield.neq rfl rfl) (bF (not_not_intro hh.1))) rfl ?_
            refine OG.sg rfl rfl ?_
            refine OG.nil ?_
            refine QG.then ?_
            refine CG.cond_f rfl ?_
            refine CG.seq ?_
            refine CG.draw (.look 0 0 (.look 1 0 (.look 2 0 (.look 3 0 (.look 4 0 (.look 5 0 (.look 6 1 (.eff1 7 false (.look 8 1 (.look 9 1 (.done))))))))))) [7] [] ([osl 191 7 (some ⟨b, o, none⟩) x.c x.chs.length (((x.chs.set i ch2).map Chan.cells).flatten)]) ([]) mixed (by kernel_rfl) (iM) (Imp.none _) ?_
            refine DG.look rfl rfl (Yield.move rfl) rfl ?_
            refine DG.look rfl rfl (Yield.nilCheck rfl) rfl ?_
            refine DG.look rfl rfl (Yield.fieldAddr fa191_2 rfl) rfl ?_
            refine DG.look rfl rfl (Yield.fieldAddr fa189_0 rfl) rfl ?_
            refine DG.look rfl rfl (Yield.load (v := ch2.r.cell) ti67 rfl (((SlR.of_osl Ext.here).elem Chan.len hcs) 6 _ rfl)) rfl ?_
            refine DG.look rfl rfl (Yield.len_slice (a := ch2.r.a) (m := ch2.r.ms.length) (c := ch2.r.c) Tryz.underlying67 rfl rfl) rfl ?_
            refine DG.look rfl rfl (Yield.move rfl) rfl ?_
            refine DG.eff1 ?_
            refine Chg.callo rfl rfl call99 rfl (Imp.refl _) (depth_spec W0 _ (b := b) (o := o + i * 7) (kd := ch2.kind) (d := ch2.depth) (by exact ((SlR.of_osl eX).elem Chan.len hcs) 0 _ rfl) (by exact ((SlR.of_osl eX).elem Chan.len hcs) 4 _ rfl)) rfl (fun _ => iM) (fun _ => Imp.refl _) (fun _ => iM) ?_
            rintro ⟨⟩ -
            refine DG.look rfl rfl (Yield.as (Yield.geq rfl rfl) (bF (by omega))) rfl ?_
            refine DG.look rfl rfl (Yield.assign rfl) rfl ?_
            refine DG.done ?_
            refine QG.then ?_
            refine CG.cond_f rfl ?_
            refine CG.skip ?_
            refine QG.block_normal ?_
            exact QG.mid ch2 ⟨way, rfl, by omega, hql⟩ eS (by (try unfold CP); (try rw [hxa]); exact iM)
        rintro ch1 ⟨way1, hs1, hr7, hq1⟩
        have hcs1 : (x.chs.set i ch1)[i]? = some ch1 := by simp [hnl]
        have hsm1 : ch1.s.ms = m0 :: ms' := by rw [hs1]; exact hsm
        unfold CP
        rw [hxa]
        dsimp only [List.cons_append, List.nil_append]
        refine CG.pure (fun w hw => SlR.shape (SlR.of_osl (W0 := W0) (E := 32) (sz := 1) (a := ch1.s.a) (c := ch1.s.c) (m := ch1.s.ms.length) (xs := ch1.s.ms.map Msg.cell) eX) (by rw [hsm1]; simp) w hw) ?_
        rintro ⟨bs1, os1, hsa⟩
        refine CG.seq ?_
        refine CG.draw (.look 0 0 (.look 1 0 (.look 2 0 (.look 3 0 (.look 4 0 (.look 5 2 (.look 6 1 (.look 7 1 (.look 8 1 (.look 9 1 (.look 10 1 (.look 11 1 (.look 12 1 (.eff1 13 false (.eff1 14 false (.look 15 1 (.look 16 1 (.look 17 1 (.eff1 18 true (.done)))))))))))))))))))) [13, 14, 18] [5] ([]) ([osl 191 7 (some ⟨b, o, none⟩) x.c x.chs.length (((x.chs.set i ch1).map Chan.cells).flatten)]) mixed (by kernel_rfl) (Imp.none _) (iM) ?_
        refine DG.look rfl rfl (Yield.move rfl) rfl ?_
        refine DG.look rfl rfl (Yield.move rfl) rfl ?_
        refine DG.look rfl rfl (Yield.nilCheck rfl) rfl ?_
        refine DG.look rfl rfl (Yield.fieldAddr fa191_2 rfl) rfl ?_
        refine DG.look rfl rfl (Yield.fieldAddr fa189_0 rfl) rfl ?_
        refine DG.look rfl rfl (Yield.load (v := ch1.r.cell) ti67 rfl (((SlR.of_osl Ext.here).elem Chan.len hcs1) 6 _ rfl)) rfl ?_
        refine DG.look rfl rfl (Yield.move rfl) rfl ?_
        refine DG.look rfl rfl (Yield.nilCheck rfl) rfl ?_
        refine DG.look rfl rfl (Yield.fieldAddr fa191_1 rfl) rfl ?_
        refine DG.look rfl rfl (Yield.fieldAddr fa189_0 rfl) rfl ?_
        refine DG.look rfl rfl (Yield.load (v := ch1.s.cell) ti67 rfl (((SlR.of_osl eX).elem Chan.len hcs1) 5 _ rfl)) rfl ?_
        refine DG.look rfl rfl (Yield.index_slice (b := bs1) (o := os1) (m := ch1.s.ms.length) (c := ch1.s.c) Tryz.underlying67 ti32 (by unfold End.cell; rw [← hsa]; rfl) rfl (by omega) (by rw [hsm1]; simp)) rfl ?_
        refine DG.look rfl rfl (Yield.load (v := m0.cell) ti32 rfl (by rw [show os1 + (0 : Int).toNat * 1 = os1 + 0 from rfl]; exact SlR.cel (by rw [← hsa]; exact SlR.of_osl (E := 32) (a := ch1.s.a) (c := ch1.s.c) (m := ch1.s.ms.length) (xs := ch1.s.ms.map Msg.cell) eX) (by rw [hsm1]; rfl))) rfl ?_
        refine DG.eff1 ?_
        refine Chg.eff rfl rfl (Eff.lit1 Tryz.underlying67 ti32 rfl rfl rfl) rfl (fun _ => iM) (fun _ => Imp.refl _) (fun _ => iM) ?_
        rintro b62 -
        refine DG.eff1 ?_
        refine Chg.eff rfl rfl (Eff.append (a := ch1.r.a) (c := ch1.r.c) (m := ch1.r.ms.length) (xs := ch1.r.ms.map Msg.cell) (k := 1) (ys := [m0.cell]) rfl rfl rfl Tryz.underlying67 Tryz.underlying67 ti32 rfl (by decide) fC (SlR.of_osl (a := some ⟨b62, 0, none⟩) eX) (by simp [one, Msg.cell]) (by omega)) rfl (fun _ => iM) (fun _ => Imp.refl _) (fun _ => iM) ?_
        rintro ⟨a63, c63⟩ -
        refine DG.look rfl rfl (Yield.nilCheck rfl) rfl ?_
        refine DG.look rfl rfl (Yield.fieldAddr fa191_2 rfl) rfl ?_
        refine DG.look rfl rfl (Yield.fieldAddr fa189_0 rfl) rfl ?_
        refine DG.eff1 ?_
        refine Chg.eff rfl rfl (Eff.storeFld (i := i) 6 (r := ch1) (r' := { ch1 with r := ⟨a63, c63, ch1.r.ms ++ [m0]⟩ }) (rs := x.chs.set i ch1) Chan.len hcs1 (by simp [Chan.cells, End.cell]) (by decide) ti67 rfl rfl fC rfl (by rw [List.length_set])) rfl (fun _ => iM) (fun _ => Imp.refl _) (fun _ => iM) ?_
        rintro ⟨⟩ -
        refine DG.done ?_
        refine QG.then ?_
        refine CG.seq ?_
        have hcs3 : ((x.chs.set i ch1).set i { ch1 with r := ⟨a63, c63, ch1.r.ms ++ [m0]⟩ })[i]? = some { ch1 with r := ⟨a63, c63, ch1.r.ms ++ [m0]⟩ } := by simp [hnl]
        refine CG.region ?_
        refine OG.mv rfl rfl ?_
        refine OG.mv rfl rfl ?_
        refine OG.yield (Yield.nilCheck rfl) rfl ?_
        refine OG.yield (Yield.fieldAddr fa191_1 rfl) rfl ?_
        refine OG.callo call96 rfl (Imp.refl _) (all_spec W0 _ (b := b) (o := o + i * 7 + 5) (x := ch1.s) (by exact ((SlR.of_osl eX).elem Chan.len hcs3) 5 _ rfl) (by exact SlR.of_osl (E := 32) eX) (by intro m hm; rcases List.mem_append.1 (way1.mem m (.inl hm)) with hp | hp; exact pool_rd (ms := ms2) eX hp; exact pool_rd (ms := x.pl) eX hp) (by have := way1.sl; omega) (by intro m hm; have := way1.sm m hm; omega)) rfl ?_
        rintro y hy
        have hyl : y.ms.length = ch1.s.ms.length := by have := congrArg List.length hy; unfold End.bs at this; simpa using this
        have hy1 : 1 ≤ y.ms.length := by rw [hyl, hsm1]; simp
        have hyt : y.tail.bs = ms'.map Msg.b := by rw [End.tail_bs, hy]; unfold End.bs; rw [hsm1]; rfl
        refine OG.pure (fun w hw => osl_facts (W0 := W0) (E := 32) (sz := 1) (a := y.a) (c := y.c) (m := y.ms.length) (xs := y.ms.map Msg.cell) eX w hw) ?_
        rintro ⟨-, hyc⟩
        refine OG.yield (Yield.tail (y := y) Tryz.underlying67 ti32 rfl (by omega) hyc) rfl ?_
        refine OG.yield (Yield.nilCheck rfl) rfl ?_
        refine OG.yield (Yield.fieldAddr fa191_1 rfl) rfl ?_
        refine OG.yield (Yield.fieldAddr fa189_0 rfl) rfl ?_
        refine OG.eff (Eff.storeFld (i := i) 5 (r := { ch1 with r := ⟨a63, c63, ch1.r.ms ++ [m0]⟩ }) (r' := { ch1 with s := y.tail, r := ⟨a63, c63, ch1.r.ms ++ [m0]⟩ }) (rs := (x.chs.set i ch1).set i { ch1 with r := ⟨a63, c63, ch1.r.ms ++ [m0]⟩ }) Chan.len hcs3 rfl (by decide) ti67 rfl rfl fC rfl (by rw [List.length_set, List.length_set])) rfl ?_
        rintro ⟨⟩ -
        refine OG.nil ?_
        refine QG.then ?_
        refine CG.region ?_
        refine OG.sg rfl rfl ?_
        refine OG.nil ?_
        refine QG.block_normal ?_
        have hm64 : m0.b.length ≤ 64 := way1.sm m0 (by rw [hsm1]; simp)
        have hlen2 : y.tail.bs.length < ch.s.bs.length := by rw [hyt]; rw [hsb] at hsl; simp only [List.length_cons] at hsl; omega
        refine QG.next ⟨{ ch1 with s := y.tail, r := ⟨a63, c63, ch1.r.ms ++ [m0]⟩ }, y.ms ++ ms2⟩ ⟨⟨way1.kind, way1.from_, way1.to, way1.size, way1.depth, ?_, ?_, ?_, ?_, ?_⟩, ?_, Nat.le_of_lt hlen2⟩ ?_ ?_ ?_
        · have := congrArg List.length hyt; simp only [End.bs, List.length_map] at this; have := way1.sl; rw [hsm1] at this; simp only [List.length_cons] at this; dsimp only; omega
        · simp only [List.length_append, List.length_cons, List.length_nil]; omega
        · intro m hm
          have h1 : m.b ∈ y.tail.bs := List.mem_map_of_mem hm
          rw [hyt, List.mem_map] at h1
          obtain ⟨m2, h2, h3⟩ := h1
          rw [← h3]; exact way1.sm m2 (by rw [hsm1]; simp [h2])
        · intro m hm
          rcases List.mem_append.1 hm with hm | hm
          · exact way1.rm m hm
          · simp only [List.mem_cons, List.not_mem_nil, or_false] at hm; subst hm; exact hm64
        · intro m hm
          rcases hm with hm | hm
          · rw [List.append_assoc]; exact List.mem_append.2 (.inl (List.mem_of_mem_tail hm))
          · rw [List.append_assoc]
            rcases List.mem_append.1 hm with hm | hm
            · exact List.mem_append.2 (.inr (way1.mem m (.inr hm)))
            · simp only [List.mem_cons, List.not_mem_nil, or_false] at hm; subst hm; exact List.mem_append.2 (.inr (way1.mem m (.inl (by rw [hsm1]; simp))))
        · dsimp only; rw [hyt]; rw [← hq1]; unfold End.bs; rw [List.map_append]; rfl
        · have := congrArg List.length hyt; simp only [End.bs, List.length_map] at this; dsimp only; rw [this, hsm]; simp
        · dsimp only; rw [decide_eq_true hlen2]; exact eS
        · dsimp only
          try unfold CP
          try rw [hxa]
          rw [List.set_set, List.set_set] at *
          refine Imp.trans ?_ (Imp.cons (Imp.cons (Imp.trans (Imp.head (fun h hh => oend_tail (by omega) h hh)) (Imp.cons (Imp.cons (Imp.cons pool_join))))))
          try dsimp only
          rw [show oend ⟨a63, c63, ch1.r.ms ++ [m0]⟩ = osl 32 1 a63 c63 (ch1.r.ms.length + 1) (ch1.r.ms.map Msg.cell ++ [m0.cell]) by unfold oend; rw [List.length_append, List.map_append]; rfl]
          exact iM
      · try replace hc := of_decide_eq_false hc
        have hs0 : ch2.s.bs = [] := by unfold End.bs; rw [List.map_eq_nil_iff]; exact List.length_eq_zero_iff.1 (by omega)
        refine CG.exit ?_
        refine QG.pass_exit ?_
        refine QG.pass_exit ?_
        refine QG.block_exit ?_
        exact QG.mid ⟨ch2, ms2⟩ ⟨way, by rw [← hq, hs0]; rfl⟩ eS (by (try unfold CP); (try rw [hxa]); exact iM)
    rintro ⟨ch2, ms2⟩ ⟨way, hq⟩
    dsimp only at way hq ⊢
    have htr : ch2.abs = ch.abs.tr := by
      unfold AC.tr
      rw [← hq]
      simp only [Chan.abs, way.kind, way.from_, way.to, way.size, way.depth]
    have hwent : ch.abs.went = decide (ch2.s.bs.length < ch.s.bs.length) := by unfold AC.went; rw [← hq]; rfl
    have hok2 : ch2.abs.OK := ⟨by simp only [Chan.abs, End.bs, List.length_map]; exact way.sl, by simp only [Chan.abs, End.bs, List.length_map]; exact way.rl, fun m hm => by simp only [Chan.abs, End.bs, List.mem_map] at hm; obtain ⟨y, hy, rfl⟩ := hm; exact way.sm y hy, fun m hm => by simp only [Chan.abs, End.bs, List.mem_map] at hm; obtain ⟨y, hy, rfl⟩ := hm; exact way.rm y hy⟩
    refine CG.imp (cp_close (ms := ms2) hch hx hok2 way.mem) ?_
    rw [htr, ← hst, ← hwent]
    generalize ch.abs.went = wb at hwi ⊢
    refine CG.seq ?_
    refine CG.region ?_
    refine OG.mv rfl rfl ?_
    refine OG.nil ?_
    refine QG.then ?_
    refine CG.cond rfl (fun hc => ?_) (fun hc => ?_)
    · try replace hc := of_decide_eq_true hc
      refine CG.region ?_
      refine OG.mv rfl rfl ?_
      refine OG.mv rfl rfl ?_
      refine OG.effd (Eff.lit1 Tryz.underlying80 ti3 rfl rfl rfl) rfl ?_
      rintro b79 -
      refine OG.effd (Eff.append (k := 1) (ys := [.int .i64 i]) rfl rfl rfl Tryz.underlying80 Tryz.underlying80 ti3 rfl (by decide) fC (SlR.of_osl (a := some ⟨b79, 0, none⟩) eX) (by simp [one]) (by omega)) rfl ?_
      rintro ⟨a80, c80⟩ -
      refine OG.sg rfl rfl ?_
      refine OG.nil ?_
      refine QG.scope_normal ?_
      refine QG.block_normal ?_
      refine QG.then ?_
      refine CG.region ?_
      refine OG.yield (Yield.add rfl rfl (w64 (by omega) (by omega))) rfl ?_
      refine OG.mv rfl rfl ?_
      refine OG.nil ?_
      refine QG.next (i + 1, a80, c80) (show i + 1 ≤ acs.length by omega) (show acs.length - (i + 1) < acs.length - i by omega) ?_ ?_
      · dsimp only; rw [hwi, if_pos hc, List.length_append]; exact eS
      · dsimp only; rw [hwi, if_pos hc, show oins a80 c80 (wentI acs i ++ [(i : Int)]) = osl 3 1 a80 c80 ((wentI acs i).length + 1) (oint (wentI acs i) ++ [.int .i64 i]) by unfold oins oint; rw [List.length_append, List.map_append]; rfl]; exact iM
    · try replace hc := of_decide_eq_false hc
      refine CG.skip ?_
      refine QG.scope_normal ?_
      refine QG.block_normal ?_
      refine QG.then ?_
      refine CG.region ?_
      refine OG.yield (Yield.add rfl rfl (w64 (by omega) (by omega))) rfl ?_
      refine OG.mv rfl rfl ?_
      refine OG.nil ?_
      refine QG.next (i + 1, a3, c3) (show i + 1 ≤ acs.length by omega) (show acs.length - (i + 1) < acs.length - i by omega) ?_ ?_
      · dsimp only; rw [hwi, if_neg (by rw [hc]; decide)]; exact eS
      · dsimp only; rw [hwi, if_neg (by rw [hc]; decide)]; exact iM
  · try replace hc := of_decide_eq_false hc
    refine CG.exit ?_
    refine QG.pass_exit ?_
    refine QG.pass_exit ?_
    refine QG.block_exit ?_
    refine QG.then ?_
    refine CG.seq ?_
    refine CG.region ?_
    refine OG.mv rfl rfl ?_
    refine OG.sg rfl rfl ?_
    refine OG.nil ?_
    refine QG.then ?_
    refine CG.ret ?_
    have : i = acs.length := by omega
    subst this
    rw [List.take_length, List.drop_length, List.append_nil]
    exact QG.ret1 rfl rfl (a3, c3) trivial rfl iM
end
end Go.Proofs.YtphljkplokjonaaGreat.Po
/- ports.New, and what the ports laws share. -/
namespace Go.Proofs.YtphljkplokjonaaGreat.Po
open Go Go.Sl Go.RowKit Go.Proofs Go.Proofs.YtphljkplokjonaaGreat.T
set_option maxRecDepth 100000
structure Cf where
  Kind : Int
  From : Int
  To : Int
  Size : Int
  Depth : Int
def Cf.cells (o : Cf) : List Value := [.int .i64 o.Kind, .int .i64 o.From, .int .i64 o.To, .int .i64 o.Size, .int .i64 o.Depth]
structure Cf.OK (W : World) (o : Cf) : Prop where
  mk ::
  Kind : (Lit.int .i64 o.Kind).wf = true
  From : (Lit.int .i64 o.From).wf = true
  To : (Lit.int .i64 o.To).wf = true
  Size : (Lit.int .i64 o.Size).wf = true
  Depth : (Lit.int .i64 o.Depth).wf = true
theorem Cf.opn (W : World) : Opn Tryz.prog W 156 (fun cs => ∃ o : Cf, cs = o.cells ∧ o.OK W) := (Opn.of_fields Tryz.underlying156 (by kernel_rfl) (by kernel_rfl) (.cons (s := 1) (Opn.int Tryz.underlying3) (.cons (s := 1) (Opn.int Tryz.underlying3) (.cons (s := 1) (Opn.int Tryz.underlying3) (.cons (s := 1) (Opn.int Tryz.underlying3) (.cons (s := 1) (Opn.int Tryz.underlying3) .nil)))))).mono fun cs h => by
  obtain ⟨_, _, rfl, _, ⟨xKind, rfl, wKind⟩, ⟨_, _, rfl, _, ⟨xFrom, rfl, wFrom⟩, ⟨_, _, rfl, _, ⟨xTo, rfl, wTo⟩, ⟨_, _, rfl, _, ⟨xSize, rfl, wSize⟩, ⟨_, _, rfl, _, ⟨xDepth, rfl, wDepth⟩, rfl⟩⟩⟩⟩⟩ := h
  exact ⟨⟨xKind, xFrom, xTo, xSize, xDepth⟩, rfl, ⟨wKind, wFrom, wTo, wSize, wDepth⟩⟩
theorem Cf.len (o : Cf) : o.cells.length = 5 := rfl
theorem Cf.ones (o : Cf) : ∀ v ∈ o.cells, one v = true := by simp [Cf.cells, one]
theorem Cf.list (W : World) : Opn Tryz.prog W 72 (fun cs => ∃ a c, ∃ xs : List Cf, cs = [.slice a xs.length c] ∧ xs.length ≤ c ∧ (∀ x ∈ xs, Cf.OK W x) ∧ SlAt W 5 a xs.length ((xs.map Cf.cells).flatten) ∧ xs.length * 40 ≤ reachBytes) :=
  Opn.recs (sz := 5) (by' := 40) Tryz.underlying72 (by kernel_rfl) (by decide) (by kernel_rfl) (Cf.opn W)
def fresh (f : Cf) : Chan := ⟨f.Kind, f.From, f.To, f.Size, f.Depth, nilE, nilE⟩
def Cf.ac (f : Cf) : AC := ⟨f.Kind, f.From, f.To, f.Size, f.Depth, [], []⟩
theorem star_fresh : ∀ (l : List Cf) {G : List HProp}, Imp G (Star ((l.map fresh).map Chan.own) :: G)
  | [], G => star_nil
  | f :: l, G => by
    have h1 : Imp G ((fresh f).own :: G) := Imp.trans oend_nil (Imp.trans oend_nil (star_close (D := [oend nilE, oend nilE])))
    refine Imp.trans (star_fresh l) (Imp.trans (B := (fresh f).own :: Star ((l.map fresh).map Chan.own) :: G) ?_ ?_)
    · exact Imp.trans oend_nil (Imp.trans oend_nil (star_close (D := [oend nilE, oend nilE])))
    · exact Imp.trans (Imp.cons star_open) (star_close (D := (fresh f).own :: (l.map fresh).map Chan.own))
theorem fresh_ok (l : List Cf) (a : Option Addr) (c : Nat) (h : l.length ≤ 1000) : PC.OK ⟨l.map fresh, [], a, c⟩ (l.map Cf.ac) :=
  ⟨by dsimp only; rw [List.map_map]; rfl, fun x hx => by
    rw [List.mem_map] at hx; obtain ⟨f, _, rfl⟩ := hx
    exact ⟨Nat.zero_le _, Nat.zero_le _, fun m hm => absurd hm List.not_mem_nil, fun m hm => absurd hm List.not_mem_nil⟩,
   fun ch hch m hm => by
    rw [List.mem_map] at hch; obtain ⟨f, _, rfl⟩ := hch
    rcases hm with hm | hm <;> exact absurd hm List.not_mem_nil, by rw [List.length_map]; exact h⟩
section
variable (W0 : World) (Fr : List HProp)
theorem new_spec {a : Option Addr} {c : Nat} {l : List Cf} (hr : SlR W0 Fr 5 a l.length ((l.map Cf.cells).flatten)) (hl : l.length ≤ 1000) : Ctr Tryz.prog W0 56 [.slice a l.length c] Fr (fun _ : Nat => True) (fun p => .pointer (some ⟨p, 0, none⟩)) (fun p => Po p (l.map Cf.ac) :: Fr) := by
  refine Ctr.of_body Tryz.func56 rfl Tryz.ntmps56 rfl ?_
  refine CG.seq ?_
  refine CG.region ?_
  refine OG.sg rfl rfl ?_
  refine OG.nil ?_
  refine QG.then ?_
  refine CG.seq ?_
  refine CG.region ?_
  refine OG.yield (Yield.build0 bu196 ti196) rfl ?_
  refine OG.effd (Eff.box rfl) rfl ?_
  rintro b7 -
  refine OG.sg rfl rfl ?_
  refine OG.nil ?_
  refine QG.then ?_
  refine CG.seq ?_
  refine CG.seq ?_
  refine CG.region ?_
  refine OG.mv rfl rfl ?_
  refine OG.yield (Yield.len_slice Tryz.underlying72 rfl rfl) rfl ?_
  refine OG.mv rfl rfl ?_
  refine OG.nil ?_
  refine QG.then ?_
  refine CG.block ?_
  refine CG.loop (fun s : Nat × Option Addr × Nat => s.1 ≤ l.length) (fun s => [(3, .pointer (some ⟨b7, 0, none⟩)), (8, .slice a l.length c), (9, .int .i64 l.length), (10, .int .i64 s.1)]) (fun s => blk b7 [.slice s.2.1 ((l.take s.1).map fresh).length s.2.2] 196 :: osl 191 7 s.2.1 s.2.2 ((l.take s.1).map fresh).length ((((l.take s.1).map fresh).map Chan.cells).flatten) :: Fr) (fun s => l.length - s.1) (0, none, 0) (Nat.zero_le _) eS (Imp.trans (osl_nil (E := 191) (sz := 7)) iM) ?_
  rintro ⟨i, a7, c7⟩ (hi : i ≤ l.length)
  dsimp only
  refine CG.seq ?_
  refine CG.region ?_
  refine OG.yield Yield.lssA rfl ?_
  refine OG.nil ?_
  refine QG.then ?_
  refine CG.seq ?_
  refine CG.cond rfl (fun hc => ?_) (fun hc => ?_)
  · try replace hc := of_decide_eq_true hc
    have hi' : i < l.length := by omega
    have hget : l[i]? = some l[i] := by simp [hi']
    generalize l[i] = f at hget
    have hln : ((l.take i).map fresh).length = i := by rw [List.length_map, List.length_take]; omega
    have hts : (l.take (i + 1)).map fresh = (l.take i).map fresh ++ [fresh f] := by obtain ⟨hlt, rfl⟩ := List.getElem?_eq_some_iff.1 hget; rw [List.take_succ_eq_append_getElem hlt, List.map_append]; rfl
    refine CG.pure (fun w hw => (hr.imp iM).elem_shape Cf.len (by decide) hi' w hw) ?_
    rintro ⟨b, o, rfl⟩
    refine CG.skip ?_
    refine QG.then ?_
    refine CG.seq ?_
    refine CG.block ?_
    refine CG.seq ?_
    refine CG.region ?_
    refine OG.yield (Yield.index_slice Tryz.underlying72 ti156 rfl rfl (by omega) (by omega)) rfl ?_
    refine OG.yield (Yield.load_agg (vs := f.cells) ti156 rfl (Cf.len f) ((hr.imp iM).elem Cf.len hget)) rfl ?_
    refine OG.effd (Eff.alloc ti156) rfl ?_
    rintro b5 -
    refine OG.eff (Eff.storeAll ti156 rfl rfl fC (Cf.len f) (Cf.ones f) rfl) rfl ?_
    rintro ⟨⟩ -
    refine OG.nil ?_
    refine QG.then ?_
    refine CG.draw (.look 0 0 (.look 1 0 (.look 2 0 (.look 3 0 (.look 4 2 (.look 5 1 (.look 6 1 (.eff1 7 false (.eff1 8 false (.look 9 1 (.look 10 1 (.eff1 11 true (.done))))))))))))) [7, 8, 11] [4] ([]) ([blk b7 [.slice a7 ((l.take i).map fresh).length c7] 196]) mixed (by kernel_rfl) (Imp.none _) (iM) ?_
    refine DG.look rfl rfl (Yield.move rfl) rfl ?_
    refine DG.look rfl rfl (Yield.move rfl) rfl ?_
    refine DG.look rfl rfl (Yield.nilCheck rfl) rfl ?_
    refine DG.look rfl rfl (Yield.fieldAddr fa196_0 rfl) rfl ?_
    refine DG.look rfl rfl (Yield.load ti194 rfl (by first | exact Cel.of_blk eX rfl | exact (hrow eX) _ _ rfl)) rfl ?_
    refine DG.look rfl rfl (Yield.load_agg (vs := f.cells) ti156 rfl (Cf.len f) (Row.of_blk (b := b5) eX rfl)) rfl ?_
    refine DG.look rfl rfl (Yield.build (pvs := [(0, .agg f.cells.toArray)]) bu191 ti191 rfl (cells := (fresh f).cells) rfl) rfl ?_
    refine DG.eff1 ?_
    refine Chg.eff rfl rfl (Eff.lit [.tmp 20] (vs := [.agg (fresh f).cells.toArray]) (cells := (fresh f).cells) Tryz.underlying194 ti191 rfl rfl rfl rfl (by decide) (by simp [Value.cells, Chan.cells]) (by simp [Value.cells])) rfl (fun _ => iM) (fun _ => Imp.refl _) (fun _ => iM) ?_
    rintro b21 -
    refine DG.eff1 ?_
    refine Chg.eff rfl rfl (Eff.append (a := a7) (c := c7) (k := 1) (ys := (fresh f).cells) rfl rfl rfl Tryz.underlying194 Tryz.underlying194 ti191 rfl (by decide) fC (SlR.of_osl (a := some ⟨b21, 0, none⟩) eX) (Chan.ones _) (by omega)) rfl (fun _ => iM) (fun _ => Imp.refl _) (fun _ => iM) ?_
    rintro ⟨a22, c22⟩ -
    refine DG.look rfl rfl (Yield.nilCheck rfl) rfl ?_
    refine DG.look rfl rfl (Yield.fieldAddr fa196_0 rfl) rfl ?_
    refine DG.eff1 ?_
    refine Chg.eff rfl rfl (Eff.store1 ti194 rfl rfl fC rfl (by first | (simp; done) | decide)) rfl (fun _ => iM) (fun _ => Imp.refl _) (fun _ => iM) ?_
    rintro ⟨⟩ -
    refine DG.done ?_
    refine QG.block_normal ?_
    refine QG.then ?_
    refine CG.region ?_
    refine OG.yield (Yield.add rfl rfl (w64 (by omega) (by omega))) rfl ?_
    refine OG.mv rfl rfl ?_
    refine OG.nil ?_
    refine QG.next (i + 1, a22, c22) (show i + 1 ≤ l.length by omega) (show l.length - (i + 1) < l.length - i by omega) eS ?_
    dsimp only
    rw [hts, List.length_append, List.map_append, List.flatten_append]
    rw [show ([fresh f].map Chan.cells).flatten = (fresh f).cells by simp]
    exact iM
  · try replace hc := of_decide_eq_false hc
    refine CG.exit ?_
    refine QG.pass_exit ?_
    refine QG.pass_exit ?_
    refine QG.block_exit ?_
    refine QG.then ?_
    refine CG.seq ?_
    refine CG.region ?_
    refine OG.mv rfl rfl ?_
    refine OG.sg rfl rfl ?_
    refine OG.nil ?_
    refine QG.then ?_
    refine CG.ret ?_
    have hil : i = l.length := by omega
    subst hil
    rw [List.take_length]
    exact QG.ret1 rfl rfl b7 trivial rfl (Imp.trans (Imp.pull eX (Imp.pull eX (Imp.trans (B := Star ((l.map fresh).map Chan.own) :: pool [] :: Fr) (Imp.trans iM (Imp.trans pool_nil (star_fresh l))) (Imp.refl _)))) (po_close ⟨l.map fresh, [], a7, c7⟩ (fresh_ok l a7 c7 hl)))
end
end Go.Proofs.YtphljkplokjonaaGreat.Po
/- PortsFull: a queue takes Depth messages at each end, and no more: the law returns true and changes nothing that was there. -/
namespace Go.Proofs.YtphljkplokjonaaGreat.portsFull
open Go Go.Sl Go.RowKit Go.Proofs Go.Proofs.YtphljkplokjonaaGreat.T Go.Proofs.YtphljkplokjonaaGreat.Po
set_option maxRecDepth 100000
abbrev Q (d : Nat) (s r : List B) : AC := ⟨2, 0, 1, 64, d, s, r⟩
end Go.Proofs.YtphljkplokjonaaGreat.portsFull
/- PortsOrder: what comes out of a queue is what went in, in order, without loss: the law returns true and changes nothing that was there. -/
namespace Go.Proofs.YtphljkplokjonaaGreat.Po
open Go Go.Sl Go.RowKit Go.Proofs Go.Proofs.YtphljkplokjonaaGreat.T
set_option maxRecDepth 100000
section
variable (W0 : World) (Fr : List HProp)
end
end Go.Proofs.YtphljkplokjonaaGreat.Po
namespace Go.Proofs.YtphljkplokjonaaGreat.portsOrder
open Go Go.Sl Go.RowKit Go.Proofs Go.Proofs.YtphljkplokjonaaGreat.T Go.Proofs.YtphljkplokjonaaGreat.Po Go.Proofs.YtphljkplokjonaaGreat.portsFull
set_option maxRecDepth 100000
def z0 : AC := ⟨1, 1, 0, 64, 0, [], []⟩
structure St where
  i : Nat
  s : List B
  r : List B
  x6 : Po.End
  x7 : Po.End
structure St.OK (d : Nat) (x : St) : Prop where
  all : x.x7.bs ++ x.r ++ x.s = x.x6.bs
  sl : x.s.length ≤ d
  rl : x.r.length ≤ d
  n6 : x.x6.ms.length ≤ x.i
  n7 : x.x7.ms.length ≤ x.i
  bl : ∀ m ∈ x.x6.bs, m.length ≤ 64
abbrev St.G (W : World) (p d : Nat) (x : St) : List HProp := [Po p [z0, Q d x.s x.r], oend x.x6, pool x.x6.ms, oend x.x7, pool x.x7.ms, old W]
end Go.Proofs.YtphljkplokjonaaGreat.portsOrder
/- PortsApart: what one partition does changes nothing at any end of a channel of which it is no end: the law returns true and changes nothing that was there. -/
namespace Go.Proofs.YtphljkplokjonaaGreat.Po
open Go Go.Sl Go.RowKit Go.Proofs Go.Proofs.YtphljkplokjonaaGreat.T
set_option maxRecDepth 100000
def AC.cf (a : AC) : Cf := ⟨a.kind, a.from_, a.to, a.size, a.depth⟩
abbrev Fit (l : List Cf) (acs : List AC) : Prop := acs.map AC.cf = l
theorem Fit.set {l : List Cf} {acs : List AC} (h : Fit l acs) {n : Nat} {ac ac' : AC} (hg : acs[n]? = some ac) (e : ac'.cf = ac.cf) : Fit l (acs.set n ac') := by
  have := congrArg (List.map AC.cf) (set_self hg)
  unfold Fit at h ⊢
  rw [List.map_set] at this ⊢
  rw [e, this, h]
theorem Fit.tr {l : List Cf} {acs : List AC} (h : Fit l acs) : Fit l (acs.map AC.tr) := by
  unfold Fit at h ⊢; rw [List.map_map, ← h]; exact List.map_congr_left fun _ _ => rfl
theorem Fit.len {l : List Cf} {acs : List AC} (h : Fit l acs) : acs.length = l.length := by rw [← h, List.length_map]
theorem Fit.get {l : List Cf} {acs : List AC} (h : Fit l acs) {n : Nat} {ac : AC} (hg : acs[n]? = some ac) : l[n]? = some ac.cf := by rw [← h, List.getElem?_map, hg]; rfl
abbrev ends (xs : List End) : HProp := Star (xs.map oend)
end Go.Proofs.YtphljkplokjonaaGreat.Po
namespace Go.Proofs.YtphljkplokjonaaGreat.portsApart
open Go Go.Sl Go.RowKit Go.Proofs Go.Proofs.YtphljkplokjonaaGreat.T Go.Proofs.YtphljkplokjonaaGreat.Po
set_option maxRecDepth 100000
structure Wa where
  j : Nat
  xs : List Po.End
  ms : List Msg
  a : Option Addr
  c : Nat
def Was (acs : List AC) (j : Nat) (xs : List Po.End) : Prop := ∀ (n : Nat) (ac : AC), n < j → acs[n]? = some ac → ∃ y1 y2, xs[2 * n]? = some y1 ∧ xs[2 * n + 1]? = some y2 ∧ y1.bs = ac.s ∧ y2.bs = ac.r
theorem Was.add {acs : List AC} {j : Nat} {xs : List Po.End} (h : Was acs j xs) (hl : xs.length = 2 * j) {ac : AC} (hg : acs[j]? = some ac) {y1 y2 : Po.End} (h1 : y1.bs = ac.s) (h2 : y2.bs = ac.r) : Was acs (j + 1) ((xs ++ [y1]) ++ [y2]) := by
  intro n a hn ha
  rcases Nat.lt_or_ge n j with hlt | hge
  · obtain ⟨z1, z2, e1, e2, e3, e4⟩ := h n a hlt ha
    exact ⟨z1, z2, by rw [List.append_assoc, List.getElem?_append_left (by omega)]; exact e1, by rw [List.append_assoc, List.getElem?_append_left (by omega)]; exact e2, e3, e4⟩
  · obtain rfl : n = j := by omega
    rw [hg] at ha; cases ha
    exact ⟨y1, y2, by rw [List.append_assoc, List.getElem?_append_right (by omega), show 2 * n - xs.length = 0 by omega]; rfl, by rw [List.append_assoc, List.getElem?_append_right (by omega), show 2 * n + 1 - xs.length = 1 by omega]; rfl, h1, h2⟩
structure Wa.OK (acs : List AC) (s : Wa) : Prop where
  len : s.xs.length = 2 * s.j
  was : Was acs s.j s.xs
  mem : ∀ y ∈ s.xs, ∀ m ∈ y.ms, m ∈ s.ms
  small : ∀ y ∈ s.xs, y.ms.length < 2 ^ 60
abbrev Wa.G (s : Wa) : List HProp := [osl 67 1 s.a s.c s.xs.length (s.xs.map Po.End.cell), ends s.xs, pool s.ms]
end Go.Proofs.YtphljkplokjonaaGreat.portsApart
/- The document's ports: channels with two lists of ends, each a list of messages: what each function does. -/
namespace Go.Proofs.YtphljkplokjonaaGreat.Po
open Go Go.Sl Go.RowKit Go.Proofs Go.Proofs.YtphljkplokjonaaGreat.T
set_option maxRecDepth 100000
structure RC where
  xs : List End
  ys : List End
  pl : List Msg
  ca : Option Addr
  cc : Nat
  sa : Option Addr
  sc : Nat
  ra : Option Addr
  rc : Nat
structure RC.OK (x : RC) (acs : List AC) : Prop where
  sb : x.xs.map End.bs = acs.map AC.s
  rb : x.ys.map End.bs = acs.map AC.r
  ok : ∀ a ∈ acs, a.OK
  mem : ∀ y, y ∈ x.xs ∨ y ∈ x.ys → ∀ m ∈ y.ms, m ∈ x.pl
  len : acs.length ≤ 1000
theorem map_set_eq {α β : Type} {f : α → β} {l : List α} {g : List β} (h : l.map f = g) (n : Nat) (a : α) {b : β} (e : f a = b) : (l.set n a).map f = g.set n b := by rw [List.map_set, h, e]
theorem RC.OK.set {x : RC} {acs : List AC} (h : x.OK acs) {n : Nat} {y z : End} {ac : AC} {ms : List Msg} (hok : ac.OK) (hy : y.bs = ac.s) (hz : z.bs = ac.r) (hm : ∀ m, m ∈ y.ms ∨ m ∈ z.ms → m ∈ ms ++ x.pl) : RC.OK ⟨x.xs.set n y, x.ys.set n z, ms ++ x.pl, x.ca, x.cc, x.sa, x.sc, x.ra, x.rc⟩ (acs.set n ac) := by
  refine ⟨?_, ?_, fun a ha => ?_, fun w hw m hwm => ?_, by rw [List.length_set]; exact h.len⟩
  · rw [List.map_set (f := AC.s)]; exact map_set_eq h.sb n y hy
  · rw [List.map_set (f := AC.r)]; exact map_set_eq h.rb n z hz
  · rcases List.mem_or_eq_of_mem_set ha with ha | rfl
    · exact h.ok a ha
    · exact hok
  · rcases hw with hw | hw
    · rcases List.mem_or_eq_of_mem_set hw with hw | rfl
      · exact List.mem_append.2 (.inr (h.mem w (.inl hw) m hwm))
      · exact hm m (.inl hwm)
    · rcases List.mem_or_eq_of_mem_set hw with hw | rfl
      · exact List.mem_append.2 (.inr (h.mem w (.inr hw) m hwm))
      · exact hm m (.inr hwm)
section
variable (W0 : World) (Fr : List HProp)
theorem has_spec {r m cc : Nat} {ca : Option Addr} (n : Int) (h0 : Cel W0 Fr ⟨r, 0, none⟩ (.slice ca m cc)) : Ctr Tryz.prog W0 151 [.pointer (some ⟨r, 0, none⟩), .int .i64 n] Fr (fun _ : Unit => True) (fun _ => .bool (decide (0 ≤ n ∧ n < m))) (fun _ => Fr) := by
  refine Ctr.of_body Tryz.func151 rfl Tryz.ntmps151 rfl ?_
  refine CG.seq ?_
  refine CG.region ?_
  refine OG.sg rfl rfl ?_
  refine OG.nil ?_
  refine QG.then ?_
  refine CG.seq ?_
  rcases (show n < 0 ∨ 0 ≤ n by omega) with hh | hh
  · skip
    refine CG.region ?_
    refine OG.mv rfl rfl ?_
    refine OG.yield Yield.geqA rfl ?_
    refine OG.mv rfl rfl ?_
    refine OG.gn rfl rfl rfl rfl rfl ?_
    refine OG.gn rfl rfl rfl rfl rfl ?_
    refine OG.gn rfl rfl rfl rfl rfl ?_
    refine OG.gn rfl rfl rfl rfl rfl ?_
    refine OG.gn rfl rfl rfl rfl rfl ?_
    refine OG.gn rfl rfl rfl rfl rfl ?_
    refine OG.gn rfl rfl rfl rfl rfl ?_
    refine OG.yield Yield.pickA rfl ?_
    refine OG.sg rfl rfl ?_
    refine OG.nil ?_
    refine QG.then ?_
    refine CG.ret ?_
    exact QG.ret1 rfl rfl () trivial (by rw [decide_eq_false (by omega)]) (Imp.refl _)
  · skip
    refine CG.region ?_
    refine OG.mv rfl rfl ?_
    refine OG.yield Yield.geqA rfl ?_
    refine OG.mv rfl rfl ?_
    refine OG.gy rfl rfl rfl ?_
    refine OG.mv rfl rfl ?_
    refine OG.gy rfl rfl rfl ?_
    refine OG.mv rfl rfl ?_
    refine OG.gy rfl rfl rfl ?_
    refine OG.yield (Yield.nilCheck rfl) rfl ?_
    refine OG.gy rfl rfl rfl ?_
    refine OG.yield (Yield.fieldAddr fa271_0 rfl) rfl ?_
    refine OG.gy rfl rfl rfl ?_
    refine OG.yield (Yield.load ti72 rfl h0) rfl ?_
    refine OG.gy rfl rfl rfl ?_
    refine OG.yield (Yield.len_slice (a := ca) (m := m) (c := cc) Tryz.underlying72 rfl rfl) rfl ?_
    refine OG.gy rfl rfl rfl ?_
    refine OG.yield (Yield.lss rfl rfl) rfl ?_
    refine OG.yield Yield.pickA rfl ?_
    refine OG.sg rfl rfl ?_
    refine OG.nil ?_
    refine QG.then ?_
    refine CG.ret ?_
    exact QG.ret1 rfl rfl () trivial (by rw [show decide (0 ≤ n ∧ n < (m : Int)) = decide (n < (m : Int)) by simp [hh]]) (Imp.refl _)
end
end Go.Proofs.YtphljkplokjonaaGreat.Po
/- The document's ports: Send, Receive, Held. -/
namespace Go.Proofs.YtphljkplokjonaaGreat.Po
open Go Go.Sl Go.RowKit Go.Proofs Go.Proofs.YtphljkplokjonaaGreat.T
set_option maxRecDepth 100000
section
variable (W0 : World) (Fr : List HProp)
end
end Go.Proofs.YtphljkplokjonaaGreat.Po
/- The document's ports: Receive, Held. -/
namespace Go.Proofs.YtphljkplokjonaaGreat.Po
open Go Go.Sl Go.RowKit Go.Proofs Go.Proofs.YtphljkplokjonaaGreat.T
set_option maxRecDepth 100000
section
variable (W0 : World) (Fr : List HProp)
theorem SlR.tail {y : End} (h : 1 ≤ y.ms.length) {G R : List HProp} (x : Ext G (oend y) R) : SlR W0 G 1 y.tail.a y.tail.ms.length (y.tail.ms.map Msg.cell) :=
  SlR.imp (SlR.of_osl (G := oend y.tail :: R) Ext.here) (Imp.trans x.1 (Imp.head fun k hk => oend_tail h k hk))
end
end Go.Proofs.YtphljkplokjonaaGreat.Po
/- The document's ports: Transfer. -/
namespace Go.Proofs.YtphljkplokjonaaGreat.Po
open Go Go.Sl Go.RowKit Go.Proofs Go.Proofs.YtphljkplokjonaaGreat.T
set_option maxRecDepth 100000
section
variable (W0 : World) (Fr : List HProp)
end
end Go.Proofs.YtphljkplokjonaaGreat.Po
/- ports: Channels, Channel, Clone; the document's New; the law's spoil and Same. -/
namespace Go.Proofs.YtphljkplokjonaaGreat.Po
open Go Go.Sl Go.RowKit Go.Proofs Go.Proofs.YtphljkplokjonaaGreat.T
set_option maxRecDepth 100000
theorem row_take {W0 : World} {G : List HProp} {b o : Nat} {xs ys : List Value} (h : Row W0 G b o xs) (k : Nat) (hy : xs.take k = ys) : Row W0 G b o ys := fun i v hi => h i v (by
  rw [← hy, List.getElem?_take] at hi
  split at hi
  · exact hi
  · cases hi)
section
variable (W0 : World) (Fr : List HProp)
structure Cw where
  i : Nat
  chs : List Chan
  pl : List Msg
  a : Option Addr
  c : Nat
structure Cw.OK (acs : List AC) (s : Cw) : Prop where
  le : s.i ≤ acs.length
  abs : s.chs.map Chan.abs = acs.take s.i
  mem : ∀ ch ∈ s.chs, ∀ m, m ∈ ch.s.ms ∨ m ∈ ch.r.ms → m ∈ s.pl
set_option maxHeartbeats 2000000 in
theorem clone_spec {p : Nat} {acs : List AC} : Ctr Tryz.prog W0 216 [.pointer (some ⟨p, 0, none⟩)] (Po p acs :: Fr) (fun _ : Nat => True) (fun u => .pointer (some ⟨u, 0, none⟩)) (fun u => Po u acs :: Po p acs :: Fr) := by
  refine Ctr.pure (ψ := acs.length ≤ 1000 ∧ ∀ a ∈ acs, a.OK) (fun w hw => by obtain ⟨_, _, x, hx, _⟩ := Sat.ext Ext.here hw; exact ⟨hx.len, hx.ok⟩) fun ⟨hal, hao⟩ => ?_
  refine Ctr.of_body Tryz.func216 rfl Tryz.ntmps216 rfl ?_
  refine CG.seq ?_
  refine CG.region ?_
  refine OG.sg rfl rfl ?_
  refine OG.nil ?_
  refine QG.then ?_
  refine CG.seq ?_
  refine CG.region ?_
  refine OG.yield (Yield.build0 bu196 ti196) rfl ?_
  refine OG.effd (Eff.box rfl) rfl ?_
  rintro b7 -
  refine OG.sg rfl rfl ?_
  refine OG.nil ?_
  refine QG.then ?_
  refine CG.ex (A := Po p acs) eX po_open ?_
  intro x0 hx0
  refine CG.imp star_open ?_
  have hln0 := hx0.lens
  dsimp only [CO, List.cons_append, List.nil_append]
  refine CG.seq ?_
  refine CG.seq ?_
  refine CG.region ?_
  refine OG.mv rfl rfl ?_
  refine OG.yield (Yield.nilCheck rfl) rfl ?_
  refine OG.yield (Yield.fieldAddr fa196_0 rfl) rfl ?_
  refine OG.yield (Yield.load ti194 rfl (by first | exact Cel.of_blk eX rfl | exact (hrow eX) _ _ rfl)) rfl ?_
  refine OG.yield (Yield.len_slice Tryz.underlying194 rfl rfl) rfl ?_
  refine OG.mv rfl rfl ?_
  refine OG.nil ?_
  refine QG.then ?_
  refine CG.block ?_
  refine CG.loop (fun s : Cw => s.OK acs) (fun s => [(0, .pointer (some ⟨p, 0, none⟩)), (3, .pointer (some ⟨b7, 0, none⟩)), (12, .int .i64 acs.length), (13, .int .i64 s.i)]) (fun s => blk b7 [.slice s.a s.chs.length s.c] 196 :: osl 191 7 s.a s.c s.chs.length ((s.chs.map Chan.cells).flatten) :: Star (s.chs.map Chan.own) :: pool s.pl :: Po p acs :: Fr) (fun s => acs.length - s.i) ⟨0, [], [], none, 0⟩ ⟨Nat.zero_le _, rfl, fun ch h => absurd h List.not_mem_nil⟩ (by rw [← hln0]; exact eS) (Imp.trans pool_nil (Imp.trans star_nil (Imp.trans (osl_nil (E := 191) (sz := 7)) (Imp.trans (Imp.pull (A := blk b7 [.slice none 0 0] 196) eX (Imp.refl _)) (Imp.cons (Imp.cons (Imp.cons (Imp.cons (Imp.trans iM (po_close x0 hx0)))))))))) ?_
  rintro ⟨i, chs, pl, a, c⟩ ⟨hi, habs, hmem⟩
  dsimp only at hi habs hmem ⊢
  have hcl : chs.length = i := by have := congrArg List.length habs; simp only [List.length_map, List.length_take] at this; omega
  refine CG.seq ?_
  refine CG.region ?_
  refine OG.yield Yield.lssA rfl ?_
  refine OG.nil ?_
  refine QG.then ?_
  refine CG.seq ?_
  refine CG.cond rfl (fun hc => ?_) (fun hc => ?_)
  · try replace hc := of_decide_eq_true hc
    have hi' : i < acs.length := by omega
    have hget : acs[i]? = some acs[i] := by simp [hi']
    generalize acs[i] = ac at hget
    refine CG.ex (A := Po p acs) eX po_open ?_
    intro x hx
    refine CG.imp star_open ?_
    have hln := hx.lens
    obtain ⟨ch, hch, rfl⟩ := hx.get hget
    have hnl : i < x.chs.length := (List.getElem?_eq_some_iff.1 hch).1
    have hmem2 := hx.mem ch (List.mem_of_getElem? hch)
    have hok := hao _ (List.mem_of_getElem? hget)
    have hrl : ch.r.ms.length ≤ 8 := by have := hok.r; simp only [Chan.abs, End.bs, List.length_map] at this; exact this
    have hsl : ch.s.ms.length ≤ 8 := by have := hok.s; simp only [Chan.abs, End.bs, List.length_map] at this; exact this
    refine CG.imp (cp_open hch) ?_
    have hcs : (x.chs.set i ch)[i]? = some ch := by rw [set_self hch]; exact hch
    refine CG.pure (fun w hw => shape_chs (cs := x.chs.set i ch) hch (by rw [List.length_set]) (Ext.there Ext.here) w hw) ?_
    rintro ⟨b, o, hxa⟩
    have hback := cp_back (p := p) (G := Fr) hch hx
    unfold CP at hback ⊢
    rw [hxa] at hback ⊢
    dsimp only [List.cons_append, List.nil_append] at hback ⊢
    refine CG.skip ?_
    refine QG.then ?_
    refine CG.seq ?_
    refine CG.block ?_
    refine CG.seq ?_
    refine CG.region ?_
    refine OG.mv rfl rfl ?_
    refine OG.sg rfl rfl ?_
    refine OG.nil ?_
    refine QG.then ?_
    refine CG.seq ?_
    refine CG.region ?_
    refine OG.mv rfl rfl ?_
    refine OG.yield (Yield.nilCheck rfl) rfl ?_
    refine OG.yield (Yield.fieldAddr fa196_0 rfl) rfl ?_
    refine OG.yield (Yield.load ti194 rfl (by first | exact Cel.of_blk eX rfl | exact (hrow eX) _ _ rfl)) rfl ?_
    refine OG.mv rfl rfl ?_
    refine OG.yield (Yield.index_slice Tryz.underlying194 ti191 rfl rfl (by omega) (by omega)) rfl ?_
    refine OG.sg rfl rfl ?_
    refine OG.nil ?_
    refine QG.then ?_
    refine CG.draw (.look 0 0 (.look 1 0 (.look 2 0 (.look 3 0 (.look 4 2 (.look 5 0 (.look 6 0 (.look 7 0 (.look 8 0 (.look 9 1 (.look 10 1 (.look 11 1 (.look 14 0 (.look 15 0 (.look 16 0 (.eff1 12 false (.look 13 0 (.eff1 17 false (.look 18 1 (.look 19 1 (.eff1 20 false (.eff1 21 false (.look 22 1 (.look 23 1 (.eff1 24 true (.done)))))))))))))))))))))))))) [12, 17, 20, 21, 24] [4] ([osl 191 7 (some ⟨b, o, none⟩) x.c x.chs.length (((x.chs.set i ch).map Chan.cells).flatten)]) ([blk b7 [.slice a chs.length c] 196]) mixed (by kernel_rfl) (iM) (iM) ?_
    refine DG.look rfl rfl (Yield.move rfl) rfl ?_
    refine DG.look rfl rfl (Yield.move rfl) rfl ?_
    refine DG.look rfl rfl (Yield.nilCheck rfl) rfl ?_
    refine DG.look rfl rfl (Yield.fieldAddr fa196_0 rfl) rfl ?_
    refine DG.look rfl rfl (Yield.load (v := .slice a chs.length c) ti194 rfl (Cel.of_blk (b := b7) eX rfl)) rfl ?_
    refine DG.look rfl rfl (Yield.move rfl) rfl ?_
    refine DG.look rfl rfl (Yield.nilCheck rfl) rfl ?_
    refine DG.look rfl rfl (Yield.fieldAddr fa191_0 rfl) rfl ?_
    refine DG.look rfl rfl (Yield.load_agg (vs := (Chan.abs ch).cf.cells) ti156 rfl (Cf.len _) (row_take ((SlR.of_osl (E := 191) eX).elem Chan.len hcs) 5 rfl)) rfl ?_
    refine DG.look rfl rfl (Yield.move rfl) rfl ?_
    refine DG.look rfl rfl (Yield.nilCheck rfl) rfl ?_
    refine DG.look rfl rfl (Yield.fieldAddr fa191_1 rfl) rfl ?_
    refine DG.look rfl rfl (Yield.move rfl) rfl ?_
    refine DG.look rfl rfl (Yield.nilCheck rfl) rfl ?_
    refine DG.look rfl rfl (Yield.fieldAddr fa191_2 rfl) rfl ?_
    refine DG.eff1 ?_
    refine Chg.callo rfl rfl call96 rfl (Imp.refl _) (all_spec W0 _ (b := b) (o := o + i * 7 + 5) (x := ch.s) (by exact ((SlR.of_osl (E := 191) (a := some ⟨b, o, none⟩) eX).elem Chan.len hcs) 5 _ rfl) (by exact SlR.of_osl (E := 32) eX) (by intro m hm; exact pool_rd (ms := x.pl) eX (hmem2 m (.inl hm))) (by omega) (by intro m hm; have := hok.sl m.b (List.mem_map_of_mem hm); omega)) rfl (fun _ => iM) (fun _ => Imp.refl _) (fun _ => iM) ?_
    rintro y hy
    refine DG.look rfl rfl (Yield.build (pvs := [(0, y.cell)]) bu189 ti189 rfl (cells := [y.cell]) rfl) rfl ?_
    refine DG.eff1 ?_
    refine Chg.callo rfl rfl call96 rfl (Imp.refl _) (all_spec W0 _ (b := b) (o := o + i * 7 + 6) (x := ch.r) (by exact ((SlR.of_osl (E := 191) (a := some ⟨b, o, none⟩) eX).elem Chan.len hcs) 6 _ rfl) (by exact SlR.of_osl (E := 32) eX) (by intro m hm; exact pool_rd (ms := x.pl) eX (hmem2 m (.inr hm))) (by omega) (by intro m hm; have := hok.rl m.b (List.mem_map_of_mem hm); omega)) rfl (fun _ => iM) (fun _ => Imp.refl _) (fun _ => iM) ?_
    rintro z hz
    refine DG.look rfl rfl (Yield.build (pvs := [(0, z.cell)]) bu189 ti189 rfl (cells := [z.cell]) rfl) rfl ?_
    refine DG.look rfl rfl (Yield.build (pvs := [(0, .agg (Chan.abs ch).cf.cells.toArray), (1, .agg #[y.cell]), (2, .agg #[z.cell])]) bu191 ti191 rfl (cells := Chan.cells { ch with s := y, r := z }) rfl) rfl ?_
    refine DG.eff1 ?_
    refine Chg.eff rfl rfl (Eff.lit [.tmp 41] (vs := [.agg (Chan.cells { ch with s := y, r := z }).toArray]) (cells := Chan.cells { ch with s := y, r := z }) Tryz.underlying194 ti191 rfl rfl rfl rfl (by decide) (by simp [Value.cells, Chan.cells]) (by simp [Value.cells])) rfl (fun _ => iM) (fun _ => Imp.refl _) (fun _ => iM) ?_
    rintro b42 -
    refine DG.eff1 ?_
    refine Chg.eff rfl rfl (Eff.append (a := a) (c := c) (k := 1) (ys := Chan.cells { ch with s := y, r := z }) rfl rfl rfl Tryz.underlying194 Tryz.underlying194 ti191 rfl (by decide) fC (SlR.of_osl (a := some ⟨b42, 0, none⟩) eX) (Chan.ones _) (by omega)) rfl (fun _ => iM) (fun _ => Imp.refl _) (fun _ => iM) ?_
    rintro ⟨a43, c43⟩ -
    refine DG.look rfl rfl (Yield.nilCheck rfl) rfl ?_
    refine DG.look rfl rfl (Yield.fieldAddr fa196_0 rfl) rfl ?_
    refine DG.eff1 ?_
    refine Chg.eff rfl rfl (Eff.store1 ti194 rfl rfl fC rfl (by first | (simp; done) | decide)) rfl (fun _ => iM) (fun _ => Imp.refl _) (fun _ => iM) ?_
    rintro ⟨⟩ -
    refine DG.done ?_
    refine QG.block_normal ?_
    refine QG.then ?_
    refine CG.region ?_
    refine OG.yield (Yield.add rfl rfl (w64 (by omega) (by omega))) rfl ?_
    refine OG.mv rfl rfl ?_
    refine OG.nil ?_
    refine QG.next ⟨i + 1, chs ++ [{ ch with s := y, r := z }], pl ++ (y.ms ++ z.ms), a43, c43⟩ ⟨by simp only; omega, ?_, ?_⟩ (by simp only; omega) eS ?_
    · obtain ⟨hlt, hq⟩ := List.getElem?_eq_some_iff.1 hget
      dsimp only; rw [List.map_append, habs, List.take_succ_eq_append_getElem hlt, hq]
      simp only [List.map_cons, List.map_nil, Chan.abs, hy, hz]
    · dsimp only
      intro ch2 h2 m hm
      rcases List.mem_append.1 h2 with h2 | h2
      · exact List.mem_append.2 (.inl (hmem ch2 h2 m hm))
      · simp only [List.mem_cons, List.not_mem_nil, or_false] at h2
        subst h2
        rcases hm with hm | hm
        · exact List.mem_append.2 (.inr (List.mem_append.2 (.inl hm)))
        · exact List.mem_append.2 (.inr (List.mem_append.2 (.inr hm)))
    · dsimp only
      rw [List.length_append, List.map_append, List.map_append, List.flatten_append, show ([({ ch with s := y, r := z } : Chan)].map Chan.cells).flatten = Chan.cells { ch with s := y, r := z } by simp]
      refine Imp.pull eX (Imp.pull eX ?_)
      refine Imp.trans (B := Chan.own { ch with s := y, r := z } :: Star (chs.map Chan.own) :: pool pl :: pool (y.ms ++ z.ms) :: Po p acs :: Fr) ?_ (Imp.trans star_add (Imp.cons pool_join))
      refine Imp.trans (B := [oend y, oend z] ++ (Star (chs.map Chan.own) :: pool pl :: pool (y.ms ++ z.ms) :: Po p acs :: Fr)) ?_ star_close
      refine Imp.pull eX (Imp.pull eX (Imp.pull eX (Imp.pull eX ?_)))
      exact Imp.trans (Imp.pull (A := pool y.ms) eX (Imp.pull (A := pool z.ms) eX (Imp.refl _))) (Imp.trans pool_join (Imp.cons (Imp.trans iM hback)))
  · try replace hc := of_decide_eq_false hc
    refine CG.exit ?_
    refine QG.pass_exit ?_
    refine QG.pass_exit ?_
    refine QG.block_exit ?_
    refine QG.then ?_
    refine CG.seq ?_
    refine CG.region ?_
    refine OG.mv rfl rfl ?_
    refine OG.sg rfl rfl ?_
    refine OG.nil ?_
    refine QG.then ?_
    refine CG.ret ?_
    have hie : i = acs.length := by omega
    subst hie
    rw [List.take_length] at habs
    exact QG.ret1 rfl rfl b7 trivial rfl (Imp.trans iM (po_close (p := b7) ⟨chs, pl, a, c⟩ ⟨habs, hao, hmem, hal⟩))
end
end Go.Proofs.YtphljkplokjonaaGreat.Po
/- Calls of a partition: what a partition has, what a call's outcome is, and what throws. -/
namespace Go.Proofs.YtphljkplokjonaaGreat.Hc
open Go Go.Sl Go.RowKit Go.Proofs Go.Proofs.YtphljkplokjonaaGreat.T Go.Proofs.YtphljkplokjonaaGreat.Sp
set_option maxRecDepth 100000
abbrev B := List UInt8
/-- Where a partition's things lie. -/
structure HP where
  e : Nat
  s : Nat
  v : Nat
  k : Nat
  d : Nat
  p : Nat
  m : Nat
  f : Nat
  t : Nat
  r : Nat
/-- What a partition has. -/
structure HS where
  o : Ob
  q : Nat
  p : Nat
  at' : Int
  set : Bool
  out : B
  inn : B
  d : Vd.Ds
  acs : List Po.AC
  time : Int
  major : Int
abbrev heB (x : HP) (S : HS) : HProp := blk x.e [.int .i64 0, .pointer (some ⟨x.s, 0, none⟩), .pointer (some ⟨x.v, 0, none⟩), .pointer (some ⟨x.k, 0, none⟩), .pointer (some ⟨x.d, 0, none⟩), .pointer (some ⟨x.p, 0, none⟩), .int .i64 S.time, .int .i64 S.major] 83
abbrev hG (x : HP) (S : HS) (qs : List Int) (σ : St) (Fr : List HProp) : List HProp :=
  WG x.m x.f x.t 64 qs σ (sb x.s 0 x.r x.m x.f x.t :: heB x S :: Vi.V x.v S.q S.p S.at' S.set :: Vc.Con x.k S.out S.inn :: Vd.D x.d S.d :: Po.Po x.p S.acs :: Fr)
/-- A call that is being done. -/
abbrev clB (cl : Nat) (x : HP) (a b c rg : Nat) (cp ef : Int) : HProp := blk cl [.pointer (some ⟨x.e, 0, none⟩), .int .u32 a, .int .u32 b, .int .u32 c, .pointer (some ⟨rg, 0, none⟩), .int .i64 cp, .int .i64 ef] 137
/-- What a call comes to when it does not throw. -/
structure MO where
  ans : Int
  cp : Int
  ef : Int
  S : HS
  R : List Value
/-- An error's number as an answer. -/
def errC (e : Int) : Nat := if e = 90 then 2 else if e = 4 then 4 else if e = 110 then 5 else if e = 141 then 6 else if e = 91 then 7 else if e = 210 then 8 else 3
theorem errC_rng (e : Int) : 2 ≤ errC e ∧ errC e ≤ 8 := by unfold errC; split <;> (try split) <;> (try split) <;> (try split) <;> (try split) <;> (try split) <;> decide
/-- Ports. -/
def sndP (acs : List Po.AC) (part n : Int) (bs : B) : Int × List Po.AC :=
  if 0 ≤ n then match acs[n.toNat]? with | some ac => ((Po.sendR ac part bs).1, acs.set n.toNat (Po.sendR ac part bs).2) | none => (210, acs) else (210, acs)
def rcvP (acs : List Po.AC) (part n : Int) : Int × B × List Po.AC :=
  if 0 ≤ n then match acs[n.toNat]? with
    | some ac => if ac.to ≠ part then (210, [], acs) else match ac.r with | [] => (110, [], acs) | m :: rest => (0, m, acs.set n.toNat (if ac.kind = 2 then { ac with r := rest } else ac))
    | none => (210, [], acs) else (210, [], acs)
/-- A request is asked of the disk: the tag, the error, the disk. -/
def subP (s : Vd.Ds) (write : Bool) (sector addr : Int) (data : B) (major : Int) : Int × Int × Vd.Ds :=
  if Vd.subE s write sector data.length major = 0 then (Vd.w32 (s.last + 1), 0, Vd.subR s write sector addr data major) else (0, Vd.subE s write sector data.length major, s)
section
variable (W0 : World) (Fr : List HProp)
theorem snd_spec {p c : Nat} {acs : List Po.AC} (part n : Int) {a : Option Addr} {bs : B} (hr : SlR W0 Fr 1 a bs.length (bytesV bs)) (hb : bs.length ≤ 2 ^ 47) :
    Ctr Tryz.prog W0 44 [.pointer (some ⟨p, 0, none⟩), .int .i64 part, .int .i64 n, .slice a bs.length c] (Po.Po p acs :: Fr) (fun _ : Unit => True) (fun _ => .int .i64 (sndP acs part n bs).1) (fun _ => Po.Po p (sndP acs part n bs).2 :: Fr) := by
  unfold sndP
  by_cases h0 : 0 ≤ n
  · rw [if_pos h0]
    obtain ⟨k, rfl⟩ := Int.eq_ofNat_of_zero_le h0
    cases hac : acs[(k : Int).toNat]? with
    | none =>
      rw [Int.toNat_natCast] at hac
      exact Po.send_out W0 Fr part (k : Int) (.inr (by have := List.getElem?_eq_none_iff.1 hac; omega))
    | some ac =>
      rw [Int.toNat_natCast] at hac ⊢
      exact Po.send_in W0 Fr part hr hb hac
  · rw [if_neg h0]; exact Po.send_out W0 Fr part n (.inl (by omega))
theorem rcv_spec {p : Nat} {acs : List Po.AC} (part n : Int) :
    Ctr Tryz.prog W0 59 [.pointer (some ⟨p, 0, none⟩), .int .i64 part, .int .i64 n] (Po.Po p acs :: Fr) (fun z : BZ => z.b = (rcvP acs part n).2.1) (fun z => .tuple #[.slice z.a z.b.length z.c, .int .i64 (rcvP acs part n).1]) (fun z => oby 5 z.a z.c z.b :: Po.Po p (rcvP acs part n).2.2 :: Fr) := by
  have out : (n < 0 ∨ (acs.length : Int) ≤ n) → rcvP acs part n = (210, [], acs) → Ctr Tryz.prog W0 59 [.pointer (some ⟨p, 0, none⟩), .int .i64 part, .int .i64 n] (Po.Po p acs :: Fr) (fun z : BZ => z.b = (rcvP acs part n).2.1) (fun z => .tuple #[.slice z.a z.b.length z.c, .int .i64 (rcvP acs part n).1]) (fun z => oby 5 z.a z.c z.b :: Po.Po p (rcvP acs part n).2.2 :: Fr) := fun hn e => by
    rw [e]
    exact Ctr.re (Po.recv_out W0 Fr (p := p) part n hn) (fun _ => (⟨none, 0, []⟩ : BZ)) (fun _ _ => rfl) (fun _ _ => rfl) (fun _ _ => oby_nil)
  by_cases h0 : 0 ≤ n
  · obtain ⟨k, rfl⟩ := Int.eq_ofNat_of_zero_le h0
    cases hac : acs[k]? with
    | none => exact out (.inr (by have := List.getElem?_eq_none_iff.1 hac; omega)) (by unfold rcvP; rw [if_pos h0, Int.toNat_natCast, hac])
    | some ac =>
      by_cases hto : ac.to = part
      · cases hr : ac.r with
        | nil =>
          have e : rcvP acs part (k : Int) = (110, [], acs) := by unfold rcvP; rw [if_pos h0, Int.toNat_natCast, hac]; simp [hto, hr]
          have he : Po.recvE ac part = 110 := by unfold Po.recvE; rw [if_neg (not_not_intro hto), if_pos hr]
          have hs := Po.recv_bad W0 Fr (p := p) part hac (by rw [he]; decide)
          rw [he] at hs
          rw [e]
          exact Ctr.re hs (fun _ => (⟨none, 0, []⟩ : BZ)) (fun _ _ => rfl) (fun _ _ => rfl) (fun _ _ => oby_nil)
        | cons m rest =>
          have e : rcvP acs part (k : Int) = (0, m, acs.set k (if ac.kind = 2 then { ac with r := rest } else ac)) := by unfold rcvP; rw [if_pos h0, Int.toNat_natCast, hac]; simp [hto, hr]
          rw [e]
          exact Ctr.re (Po.recv_ok W0 Fr (p := p) part hac hto hr) (fun u => (⟨some ⟨u, 0, none⟩, m.length, m⟩ : BZ)) (fun _ _ => rfl) (fun _ _ => rfl) (fun _ _ => Imp.refl _)
      · have e : rcvP acs part (k : Int) = (210, [], acs) := by unfold rcvP; rw [if_pos h0, Int.toNat_natCast, hac]; simp [hto]
        have he : Po.recvE ac part = 210 := by unfold Po.recvE; rw [if_pos hto]
        have hs := Po.recv_bad W0 Fr (p := p) part hac (by rw [he]; decide)
        rw [he] at hs
        rw [e]
        exact Ctr.re hs (fun _ => (⟨none, 0, []⟩ : BZ)) (fun _ _ => rfl) (fun _ _ => rfl) (fun _ _ => oby_nil)
  · exact out (.inl (by omega)) (by unfold rcvP; rw [if_neg h0])
theorem sub_spec {d dc : Nat} {s : Vd.Ds} {write : Bool} {sector addr major : Int} {da : Option Addr} {data : B} (hr : RdB W0 Fr da dc data) (hdl : data.length ≤ 2 ^ 47) :
    Ctr Tryz.prog W0 91 [.pointer (some ⟨d, 0, none⟩), .bool write, .int .i64 sector, .int .u32 addr, .slice da data.length dc, .int .i64 major] (Vd.D d s :: Fr) (fun _ : Unit => True) (fun _ => .tuple #[.int .u32 (subP s write sector addr data major).1, .int .i64 (subP s write sector addr data major).2.1]) (fun _ => Vd.D d (subP s write sector addr data major).2.2 :: Fr) := by
  unfold subP
  by_cases he : Vd.subE s write sector data.length major = 0
  · rw [if_pos he]; exact Vd.submit_ok W0 Fr hr hdl he
  · rw [if_neg he]; exact Vd.submit_bad W0 Fr he
theorem check_spec (e : Int) : CtrX Tryz.prog W0 210 [.int .i64 e] Fr (fun _ : Unit => e = 0) (fun _ => .tuple #[]) (fun _ => Fr) (fun y : Nat => e ≠ 0 ∧ y = errC e) (fun y => .iface 235 (.int .i64 y)) (fun _ => Fr) := by
  refine CtrX.of_body Tryz.func210 rfl Tryz.ntmps210 rfl ?_
  refine CG.seq ?_
  refine CG.seq ?_
  refine CG.region ?_
  refine OG.mv rfl rfl ?_
  refine OG.nil ?_
  refine QG.then ?_
  refine CG.block ?_
  refine CG.seq ?_
  refine CG.region ?_
  refine OG.yield Yield.eqlA rfl ?_
  refine OG.sg rfl rfl ?_
  refine OG.nil ?_
  refine QG.then ?_
  refine CG.cond rfl (fun hc => ?_) (fun hc => ?_)
  · try replace hc := of_decide_eq_true hc
    refine CG.ret ?_
    refine QG.block_ret ?_
    refine QG.pass_ret ?_
    exact QG.bx (QG.ret0 rfl () hc rfl iM)
  · try replace hc := of_decide_eq_false hc
    have k1 := hc
    refine CG.seq ?_
    refine CG.region ?_
    refine OG.yield Yield.eqlA rfl ?_
    refine OG.sg rfl rfl ?_
    refine OG.nil ?_
    refine QG.then ?_
    refine CG.cond rfl (fun hc => ?_) (fun hc => ?_)
    · try replace hc := of_decide_eq_true hc
      subst hc
      refine CG.region ?_
      refine OG.yield (Yield.makeIface Tryz.underlying235 (by intro _ h; cases h) rfl) rfl ?_
      refine OG.panic rfl ?_
      refine QG.block_panic ?_
      refine QG.pass_panic ?_
      exact QG.px 2 ⟨by decide, by decide⟩ rfl iM
    · try replace hc := of_decide_eq_false hc
      have k2 := hc
      refine CG.seq ?_
      refine CG.region ?_
      refine OG.yield Yield.eqlA rfl ?_
      refine OG.sg rfl rfl ?_
      refine OG.nil ?_
      refine QG.then ?_
      refine CG.cond rfl (fun hc => ?_) (fun hc => ?_)
      · try replace hc := of_decide_eq_true hc
        subst hc
        refine CG.region ?_
        refine OG.yield (Yield.makeIface Tryz.underlying235 (by intro _ h; cases h) rfl) rfl ?_
        refine OG.panic rfl ?_
        refine QG.block_panic ?_
        refine QG.pass_panic ?_
        exact QG.px 4 ⟨by decide, by decide⟩ rfl iM
      · try replace hc := of_decide_eq_false hc
        have k3 := hc
        refine CG.seq ?_
        refine CG.region ?_
        refine OG.yield Yield.eqlA rfl ?_
        refine OG.sg rfl rfl ?_
        refine OG.nil ?_
        refine QG.then ?_
        refine CG.cond rfl (fun hc => ?_) (fun hc => ?_)
        · try replace hc := of_decide_eq_true hc
          subst hc
          refine CG.region ?_
          refine OG.yield (Yield.makeIface Tryz.underlying235 (by intro _ h; cases h) rfl) rfl ?_
          refine OG.panic rfl ?_
          refine QG.block_panic ?_
          refine QG.pass_panic ?_
          exact QG.px 5 ⟨by decide, by decide⟩ rfl iM
        · try replace hc := of_decide_eq_false hc
          have k4 := hc
          refine CG.seq ?_
          refine CG.region ?_
          refine OG.yield Yield.eqlA rfl ?_
          refine OG.sg rfl rfl ?_
          refine OG.nil ?_
          refine QG.then ?_
          refine CG.cond rfl (fun hc => ?_) (fun hc => ?_)
          · try replace hc := of_decide_eq_true hc
            subst hc
            refine CG.region ?_
            refine OG.yield (Yield.makeIface Tryz.underlying235 (by intro _ h; cases h) rfl) rfl ?_
            refine OG.panic rfl ?_
            refine QG.block_panic ?_
            refine QG.pass_panic ?_
            exact QG.px 6 ⟨by decide, by decide⟩ rfl iM
          · try replace hc := of_decide_eq_false hc
            have k5 := hc
            refine CG.seq ?_
            refine CG.region ?_
            refine OG.yield Yield.eqlA rfl ?_
            refine OG.sg rfl rfl ?_
            refine OG.nil ?_
            refine QG.then ?_
            refine CG.cond rfl (fun hc => ?_) (fun hc => ?_)
            · try replace hc := of_decide_eq_true hc
              subst hc
              refine CG.region ?_
              refine OG.yield (Yield.makeIface Tryz.underlying235 (by intro _ h; cases h) rfl) rfl ?_
              refine OG.panic rfl ?_
              refine QG.block_panic ?_
              refine QG.pass_panic ?_
              exact QG.px 7 ⟨by decide, by decide⟩ rfl iM
            · try replace hc := of_decide_eq_false hc
              have k6 := hc
              refine CG.seq ?_
              refine CG.region ?_
              refine OG.yield Yield.eqlA rfl ?_
              refine OG.sg rfl rfl ?_
              refine OG.nil ?_
              refine QG.then ?_
              refine CG.cond rfl (fun hc => ?_) (fun hc => ?_)
              · try replace hc := of_decide_eq_true hc
                subst hc
                refine CG.region ?_
                refine OG.yield (Yield.makeIface Tryz.underlying235 (by intro _ h; cases h) rfl) rfl ?_
                refine OG.panic rfl ?_
                refine QG.block_panic ?_
                refine QG.pass_panic ?_
                exact QG.px 8 ⟨by decide, by decide⟩ rfl iM
              · try replace hc := of_decide_eq_false hc
                have k7 := hc
                refine CG.skip ?_
                refine QG.block_normal ?_
                refine QG.then ?_
                refine CG.region ?_
                refine OG.yield (Yield.makeIface Tryz.underlying235 (by intro _ h; cases h) rfl) rfl ?_
                refine OG.panic rfl ?_
                exact QG.px 3 ⟨k1, by unfold errC; rw [if_neg k2, if_neg k3, if_neg k4, if_neg k5, if_neg k6, if_neg k7]⟩ rfl iM
theorem atMost_spec {n most : Nat} (hn : n < 4294967296) (hm : most ≤ 65536) : CtrX Tryz.prog W0 214 [.int .u32 n, .int .i64 most] Fr (fun _ : Unit => n ≤ most) (fun _ => .int .i64 n) (fun _ => Fr) (fun y : Nat => ¬ n ≤ most ∧ y = 3) (fun y => .iface 235 (.int .i64 y)) (fun _ => Fr) := by
  refine CtrX.of_body Tryz.func214 rfl Tryz.ntmps214 rfl ?_
  refine CG.seq ?_
  refine CG.region ?_
  refine OG.sg rfl rfl ?_
  refine OG.nil ?_
  refine QG.then ?_
  refine CG.seq ?_
  refine CG.seq ?_
  refine CG.region ?_
  refine OG.mv rfl rfl ?_
  refine OG.yield (by first | exact Yield.conv Tryz.underlying24 rfl rfl (wu64 (by omega) (by omega)) | exact Yield.conv Tryz.underlying24 rfl rfl rfl) rfl ?_
  refine OG.mv rfl rfl ?_
  refine OG.yield (by first | exact Yield.conv Tryz.underlying24 rfl rfl (wu64 (by omega) (by omega)) | exact Yield.conv Tryz.underlying24 rfl rfl rfl) rfl ?_
  refine OG.yield (Yield.gtr rfl rfl) rfl ?_
  refine OG.nil ?_
  refine QG.then ?_
  refine CG.cond rfl (fun hc => ?_) (fun hc => ?_)
  · try replace hc := of_decide_eq_true hc
    refine CG.region ?_
    refine OG.yield (Yield.makeIface Tryz.underlying235 (by intro _ h; cases h) rfl) rfl ?_
    refine OG.panic rfl ?_
    refine QG.pass_panic ?_
    exact QG.px 3 ⟨by omega, rfl⟩ rfl iM
  · try replace hc := of_decide_eq_false hc
    refine CG.skip ?_
    refine QG.then ?_
    refine CG.seq ?_
    refine CG.region ?_
    refine OG.mv rfl rfl ?_
    refine OG.yield (by first | exact Yield.conv Tryz.underlying3 rfl rfl (w64 (by omega) (by omega)) | exact Yield.conv Tryz.underlying3 rfl rfl rfl) rfl ?_
    refine OG.sg rfl rfl ?_
    refine OG.nil ?_
    refine QG.then ?_
    refine CG.ret ?_
    exact QG.bx (QG.ret1 rfl rfl () (by omega) rfl iM)
end
end Go.Proofs.YtphljkplokjonaaGreat.Hc
