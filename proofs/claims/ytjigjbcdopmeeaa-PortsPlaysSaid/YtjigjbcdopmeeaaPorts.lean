/- ports.Ports as channels with lists of messages: what each function does. -/
import Derived.Test.YtjigjbcdopmeeaaTab
import Derived.Test.YtjigjbcdopmeeaaPool
namespace Go.Proofs.Ytjigjbcdopmeeaa.Po
open Go Go.Sl Go.RowKit Go.Proofs Go.Proofs.Ytjigjbcdopmeeaa.T
set_option linter.unusedVariables false
set_option linter.unusedSimpArgs false
set_option maxRecDepth 100000
abbrev B := List UInt8
/-- A message where it lies. -/
structure Msg where
  a : Option Addr
  c : Nat
  b : B
def Msg.cell (m : Msg) : Value := .slice m.a m.b.length m.c
abbrev Msg.own (m : Msg) : HProp := oby 5 m.a m.c m.b
abbrev pool (ms : List Msg) : HProp := Star (ms.map Msg.own)
/-- An end where it lies: its slice of messages. -/
structure End where
  a : Option Addr
  c : Nat
  ms : List Msg
def End.bs (x : End) : List B := x.ms.map Msg.b
def End.cell (x : End) : Value := .slice x.a x.ms.length x.c
abbrev oend (x : End) : HProp := osl 49 1 x.a x.c x.ms.length (x.ms.map Msg.cell)
theorem cells_ones (ms : List Msg) : ∀ v ∈ ms.map Msg.cell, one v = true := by intro v hv; rw [List.mem_map] at hv; obtain ⟨m, _, rfl⟩ := hv; rfl
theorem pool_nil {G : List HProp} : Imp G (pool [] :: G) := star_nil
theorem pool_add {G : List HProp} {m : Msg} {ms : List Msg} : Imp (m.own :: pool ms :: G) (pool (ms ++ [m]) :: G) := by
  have h := star_add (L := ms.map Msg.own) (A := m.own) (G := G)
  unfold pool; rw [List.map_append]; exact h
theorem pool_one {G : List HProp} {m : Msg} : Imp (m.own :: G) (pool [m] :: G) := Imp.trans (Imp.cons star_nil) (pool_add (ms := []))
theorem pool_join {G : List HProp} {ms ns : List Msg} : Imp (pool ms :: pool ns :: G) (pool (ms ++ ns) :: G) := by
  have h := star_join (L := ms.map Msg.own) (M := ns.map Msg.own) (G := G)
  unfold pool; rw [List.map_append]; exact h
theorem pool_rd {W0 : World} {G R : List HProp} {ms : List Msg} (x : Ext G (pool ms) R) {m : Msg} (h : m ∈ ms) : RdB W0 G m.a m.c m.b :=
  RdB.of_star (E := 5) x (List.mem_map_of_mem h)
section
variable (W0 : World) (Fr : List HProp)
theorem own_spec {a : Option Addr} {c : Nat} {bs : B} (hr : SlR W0 Fr 1 a bs.length (bytesV bs)) (hb : bs.length ≤ 2 ^ 47) : Ctr Try.prog W0 47 [.slice a bs.length c] Fr (fun _ : Nat => True) (fun x => .slice (some ⟨x, 0, none⟩) bs.length bs.length) (fun x => oby 5 (some ⟨x, 0, none⟩) bs.length bs :: Fr) := by
  refine Ctr.of_body Try.func47 rfl Try.ntmps47 rfl ?_
  refine CG.seq ?_
  refine CG.region ?_
  refine OG.yield (Yield.assign rfl) rfl ?_
  refine OG.nil ?_
  refine QG.then ?_
  refine CG.seq ?_
  refine CG.region ?_
  refine OG.yield (Yield.move rfl) rfl ?_
  refine OG.yield (Yield.len_slice Try.underlying49 rfl rfl) rfl ?_
  refine OG.effd (Eff.makeB bs.length Try.underlying49 ti5 rfl rfl (by omega)) rfl ?_
  rintro b6 -
  refine OG.yield (Yield.assign rfl) rfl ?_
  refine OG.nil ?_
  refine QG.then ?_
  refine CG.seq ?_
  refine CG.region ?_
  refine OG.yield (Yield.move rfl) rfl ?_
  refine OG.yield (Yield.move rfl) rfl ?_
  refine OG.effd (Eff.copyB (bs := List.replicate bs.length 0) (ys := bs) rfl rfl rfl Try.underlying49 ti5 (by repeat (first | exact Foc.here | apply Foc.there)) (hr.imp (by repeat (first | exact Imp.refl _ | exact Imp.none _ | apply Imp.pull (by repeat (first | exact Ext.here | apply Ext.there)) | apply Imp.trans Imp.drop))) (by rw [List.length_replicate]) rfl) rfl ?_
  rintro ⟨⟩ -
  refine OG.nil ?_
  refine QG.then ?_
  refine CG.seq ?_
  refine CG.region ?_
  refine OG.yield (Yield.move rfl) rfl ?_
  refine OG.yield (Yield.assign rfl) rfl ?_
  refine OG.nil ?_
  refine QG.then ?_
  refine CG.ret ?_
  exact QG.ret1 rfl rfl b6 trivial (by rw [List.length_replicate]) (by repeat (first | exact Imp.refl _ | exact Imp.none _ | apply Imp.pull (by repeat (first | exact Ext.here | apply Ext.there)) | apply Imp.trans Imp.drop))
theorem all_spec {b o : Nat} {x : End} (hc : Cel W0 Fr ⟨b, o, none⟩ x.cell) (hs : SlR W0 Fr 1 x.a x.ms.length (x.ms.map Msg.cell)) (hm : ∀ m ∈ x.ms, RdB W0 Fr m.a m.c m.b) (hl : x.ms.length ≤ 1000) (hbl : ∀ m ∈ x.ms, m.b.length ≤ 2 ^ 40) :
    Ctr Try.prog W0 49 [.pointer (some ⟨b, o, none⟩)] Fr (fun y : End => y.bs = x.bs) (fun y => y.cell) (fun y => oend y :: pool y.ms :: Fr) := by
  refine Ctr.of_body Try.func49 rfl Try.ntmps49 rfl ?_
  refine CG.seq ?_
  refine CG.region ?_
  refine OG.yield (Yield.assign rfl) rfl ?_
  refine OG.nil ?_
  refine QG.then ?_
  refine CG.seq ?_
  refine CG.region ?_
  refine OG.yield (Yield.assign rfl) rfl ?_
  refine OG.nil ?_
  refine QG.then ?_
  refine CG.seq ?_
  refine CG.seq ?_
  refine CG.region ?_
  refine OG.yield (Yield.move rfl) rfl ?_
  refine OG.yield (Yield.nilCheck rfl) rfl ?_
  refine OG.yield (Yield.fieldAddr fa84_0 rfl) rfl ?_
  refine OG.yield (Yield.load (v := x.cell) ti65 rfl hc) rfl ?_
  refine OG.yield (Yield.len_slice (a := x.a) (m := x.ms.length) (c := x.c) Try.underlying65 rfl rfl) rfl ?_
  refine OG.yield (Yield.move rfl) rfl ?_
  refine OG.nil ?_
  refine QG.then ?_
  refine CG.block ?_
  refine CG.loop (fun s : Nat × End => s.1 ≤ x.ms.length ∧ s.2.bs = (x.ms.take s.1).map Msg.b) (fun s => [(3, s.2.cell), (9, x.cell), (10, .int .i64 x.ms.length), (11, .int .i64 s.1)]) (fun s => oend s.2 :: pool s.2.ms :: Fr) (fun s => x.ms.length - s.1) (0, ⟨none, 0, []⟩) ⟨Nat.zero_le _, rfl⟩ (by repeat (first | exact Env.sub_nil _ | refine Env.sub_cons rfl ?_)) (Imp.trans pool_nil (osl_nil (E := 49) (sz := 1))) ?_
  rintro ⟨i, y⟩ ⟨hi, hy⟩
  dsimp only at hi hy ⊢
  have hyl : y.ms.length = i := by have := congrArg List.length hy; unfold End.bs at this; simp only [List.length_map, List.length_take] at this; omega
  refine CG.seq ?_
  refine CG.region ?_
  refine OG.yield (by first | exact Yield.as (Yield.lss rfl rfl) (bT (by omega)) | exact Yield.as (Yield.lss rfl rfl) (bF (by omega)) | exact Yield.lss rfl rfl) rfl ?_
  refine OG.nil ?_
  refine QG.then ?_
  refine CG.seq ?_
  refine CG.cond rfl (fun hc => ?_) (fun hc => ?_)
  · try replace hc := of_decide_eq_true hc
    have hi' : i < x.ms.length := by omega
    have hget : x.ms[i]? = some x.ms[i] := by simp [hi']
    have hmm := hm x.ms[i] (List.getElem_mem hi')
    have hml := hbl x.ms[i] (List.getElem_mem hi')
    generalize x.ms[i] = m at hget hmm hml
    refine CG.pure (fun w hw => SlR.shape (hs.imp (by repeat (first | exact Imp.refl _ | exact Imp.none _ | apply Imp.pull (by repeat (first | exact Ext.here | apply Ext.there)) | apply Imp.trans Imp.drop))) (by intro h; have := congrArg List.length h; simp only [List.length_map, List.length_nil] at this; omega) w hw) ?_
    rintro ⟨bx, ox, hxa⟩
    refine CG.skip ?_
    refine QG.then ?_
    refine CG.seq ?_
    refine CG.block ?_
    refine CG.seq ?_
    refine CG.region ?_
    refine OG.yield (Yield.index_slice (b := bx) (o := ox) (m := x.ms.length) (c := x.c) Try.underlying65 ti49 (by unfold End.cell; rw [hxa]; rfl) rfl (by omega) (by omega)) rfl ?_
    refine OG.yield (Yield.load (v := m.cell) ti49 rfl (by rw [show ox + (i : Int).toNat * 1 = ox + i by omega]; exact SlR.cel (by rw [← hxa]; exact hs.imp (by repeat (first | exact Imp.refl _ | exact Imp.none _ | apply Imp.pull (by repeat (first | exact Ext.here | apply Ext.there)) | apply Imp.trans Imp.drop))) (by rw [List.getElem?_map, hget]; rfl))) rfl ?_
    refine OG.yield (Yield.assign rfl) rfl ?_
    refine OG.nil ?_
    refine QG.then ?_
    refine CG.region ?_
    refine OG.yield (Yield.move rfl) rfl ?_
    refine OG.yield (Yield.move rfl) rfl ?_
    refine OG.callo call47 rfl (Imp.refl _) (own_spec W0 _ (a := m.a) (c := m.c) (bs := m.b) (by exact (hmm.imp (by repeat (first | exact Imp.refl _ | exact Imp.none _ | apply Imp.pull (by repeat (first | exact Ext.here | apply Ext.there)) | apply Imp.trans Imp.drop))).slR) (by omega)) rfl ?_
    rintro bm -
    refine OG.effd (Eff.lit1 Try.underlying65 ti49 rfl rfl rfl) rfl ?_
    rintro b18 -
    refine OG.effd (Eff.append (a := y.a) (c := y.c) (k := 1) (ys := [Msg.cell ⟨some ⟨bm, 0, none⟩, m.b.length, m.b⟩]) rfl rfl rfl Try.underlying65 Try.underlying65 ti49 rfl (by decide) (by repeat (first | exact Foc.here | apply Foc.there)) (SlR.of_osl (a := some ⟨b18, 0, none⟩) (by repeat (first | exact Ext.here | apply Ext.there))) (by simp [one, Msg.cell]) (by omega)) rfl ?_
    rintro ⟨a19, c19⟩ -
    refine OG.yield (Yield.assign rfl) rfl ?_
    refine OG.nil ?_
    refine QG.block_normal ?_
    refine QG.then ?_
    refine CG.region ?_
    refine OG.yield (Yield.add rfl rfl (w64 (by omega) (by omega))) rfl ?_
    refine OG.yield (Yield.move rfl) rfl ?_
    refine OG.nil ?_
    refine QG.next (i + 1, ⟨a19, c19, y.ms ++ [⟨some ⟨bm, 0, none⟩, m.b.length, m.b⟩]⟩) ⟨by simp only; omega, ?_⟩ (by simp only; omega) ?_ ?_
    · obtain ⟨hlt, rfl⟩ := List.getElem?_eq_some_iff.1 hget
      unfold End.bs at hy ⊢
      rw [List.map_append, hy, List.take_succ_eq_append_getElem hlt, List.map_append]; rfl
    · unfold End.cell; dsimp only; rw [List.length_append]; exact (by repeat (first | exact Env.sub_nil _ | refine Env.sub_cons rfl ?_))
    · dsimp only; rw [show oend ⟨a19, c19, y.ms ++ [⟨some ⟨bm, 0, none⟩, m.b.length, m.b⟩]⟩ = osl 49 1 a19 c19 (y.ms.length + 1) (y.ms.map Msg.cell ++ [Msg.cell ⟨some ⟨bm, 0, none⟩, m.b.length, m.b⟩]) by unfold oend; rw [List.length_append, List.map_append]; rfl]
      exact Imp.trans (Imp.pull (by repeat (first | exact Ext.here | apply Ext.there)) (Imp.pull (A := Msg.own ⟨some ⟨bm, 0, none⟩, m.b.length, m.b⟩) (by repeat (first | exact Ext.here | apply Ext.there)) (by repeat (first | exact Imp.refl _ | exact Imp.none _ | apply Imp.pull (by repeat (first | exact Ext.here | apply Ext.there)) | apply Imp.trans Imp.drop)))) (Imp.cons pool_add)
  · try replace hc := of_decide_eq_false hc
    refine CG.exit ?_
    refine QG.pass_exit ?_
    refine QG.pass_exit ?_
    refine QG.block_exit ?_
    refine QG.then ?_
    refine CG.seq ?_
    refine CG.region ?_
    refine OG.yield (Yield.move rfl) rfl ?_
    refine OG.yield (Yield.assign rfl) rfl ?_
    refine OG.nil ?_
    refine QG.then ?_
    refine CG.ret ?_
    have : i = x.ms.length := by omega
    subst this
    rw [List.take_length] at hy
    exact QG.ret1 rfl rfl y hy rfl (by repeat (first | exact Imp.refl _ | exact Imp.none _ | apply Imp.pull (by repeat (first | exact Ext.here | apply Ext.there)) | apply Imp.trans Imp.drop))
theorem size_spec {b o : Nat} {sz : Int} (h : Cel W0 Fr ⟨b, o + 3, none⟩ (.int .i64 sz)) : Ctr Try.prog W0 46 [.pointer (some ⟨b, o, none⟩)] Fr (fun _ : Unit => True) (fun _ => .int .i64 (max 0 (min sz 64))) (fun _ => Fr) := by
  refine Ctr.of_body Try.func46 rfl Try.ntmps46 rfl ?_
  refine CG.seq ?_
  refine CG.region ?_
  refine OG.yield (Yield.assign rfl) rfl ?_
  refine OG.nil ?_
  refine QG.then ?_
  refine CG.seq ?_
  refine CG.region ?_
  refine OG.yield (Yield.move rfl) rfl ?_
  refine OG.yield (Yield.nilCheck rfl) rfl ?_
  refine OG.yield (Yield.fieldAddr fa86_0 rfl) rfl ?_
  refine OG.yield (Yield.fieldAddr fa47_3 rfl) rfl ?_
  refine OG.yield (Yield.load (v := .int .i64 sz) ti3 rfl h) rfl ?_
  refine OG.yield (Yield.min2 rfl rfl) rfl ?_
  refine OG.yield (Yield.max2 rfl rfl) rfl ?_
  refine OG.yield (Yield.assign rfl) rfl ?_
  refine OG.nil ?_
  refine QG.then ?_
  refine CG.ret ?_
  exact QG.ret1 rfl rfl () trivial rfl (Imp.refl _)
def dep (kind depth : Int) : Int := if kind = 2 then max 1 (min depth 8) else 1
theorem depth_spec {b o : Nat} {kd d : Int} (h0 : Cel W0 Fr ⟨b, o, none⟩ (.int .i64 kd)) (h4 : Cel W0 Fr ⟨b, o + 4, none⟩ (.int .i64 d)) : Ctr Try.prog W0 48 [.pointer (some ⟨b, o, none⟩)] Fr (fun _ : Unit => True) (fun _ => .int .i64 (dep kd d)) (fun _ => Fr) := by
  refine Ctr.of_body Try.func48 rfl Try.ntmps48 rfl ?_
  refine CG.seq ?_
  refine CG.region ?_
  refine OG.yield (Yield.assign rfl) rfl ?_
  refine OG.nil ?_
  refine QG.then ?_
  refine CG.seq ?_
  refine CG.seq ?_
  rcases (show kd = 2 ∨ kd ≠ 2 by omega) with hk | hk
  · skip
    refine CG.region ?_
    refine OG.yield (Yield.move rfl) rfl ?_
    refine OG.yield (Yield.nilCheck rfl) rfl ?_
    refine OG.yield (Yield.fieldAddr fa86_0 rfl) rfl ?_
    refine OG.yield (Yield.fieldAddr fa47_0 rfl) rfl ?_
    refine OG.yield (Yield.load (v := .int .i64 kd) ti3 rfl h0) rfl ?_
    refine OG.yield (by first | exact Yield.as (Yield.neq rfl rfl) (bT (by omega)) | exact Yield.as (Yield.neq rfl rfl) (bF (by omega)) | exact Yield.neq rfl rfl) rfl ?_
    refine OG.nil ?_
    refine QG.then ?_
    refine CG.cond_f rfl ?_
    refine CG.skip ?_
    refine QG.then ?_
    refine CG.seq ?_
    refine CG.region ?_
    refine OG.yield (Yield.move rfl) rfl ?_
    refine OG.yield (Yield.nilCheck rfl) rfl ?_
    refine OG.yield (Yield.fieldAddr fa86_0 rfl) rfl ?_
    refine OG.yield (Yield.fieldAddr fa47_4 rfl) rfl ?_
    refine OG.yield (Yield.load (v := .int .i64 d) ti3 rfl h4) rfl ?_
    refine OG.yield (Yield.min2 rfl rfl) rfl ?_
    refine OG.yield (Yield.max2 rfl rfl) rfl ?_
    refine OG.yield (Yield.assign rfl) rfl ?_
    refine OG.nil ?_
    refine QG.then ?_
    refine CG.ret ?_
    exact QG.ret1 rfl rfl () trivial (by unfold dep; rw [if_pos hk]) (Imp.refl _)
  · skip
    refine CG.region ?_
    refine OG.yield (Yield.move rfl) rfl ?_
    refine OG.yield (Yield.nilCheck rfl) rfl ?_
    refine OG.yield (Yield.fieldAddr fa86_0 rfl) rfl ?_
    refine OG.yield (Yield.fieldAddr fa47_0 rfl) rfl ?_
    refine OG.yield (Yield.load (v := .int .i64 kd) ti3 rfl h0) rfl ?_
    refine OG.yield (by first | exact Yield.as (Yield.neq rfl rfl) (bT (by omega)) | exact Yield.as (Yield.neq rfl rfl) (bF (by omega)) | exact Yield.neq rfl rfl) rfl ?_
    refine OG.nil ?_
    refine QG.then ?_
    refine CG.cond_t rfl ?_
    refine CG.seq ?_
    refine CG.region ?_
    refine OG.yield (Yield.assign rfl) rfl ?_
    refine OG.nil ?_
    refine QG.then ?_
    refine CG.ret ?_
    refine QG.pass_ret ?_
    exact QG.ret1 rfl rfl () trivial (by unfold dep; rw [if_neg hk]) (Imp.refl _)
end
/-- A channel where it lies. -/
structure Chan where
  kind : Int
  from_ : Int
  to : Int
  size : Int
  depth : Int
  s : End
  r : End
def Chan.cells (ch : Chan) : List Value := [.int .i64 ch.kind, .int .i64 ch.from_, .int .i64 ch.to, .int .i64 ch.size, .int .i64 ch.depth, ch.s.cell, ch.r.cell]
theorem Chan.len (ch : Chan) : ch.cells.length = 7 := rfl
theorem Chan.ones (ch : Chan) : ∀ v ∈ ch.cells, one v = true := by simp [Chan.cells, one, End.cell]
abbrev Chan.own (ch : Chan) : HProp := Star [oend ch.s, oend ch.r]
/-- A channel. -/
structure AC where
  kind : Int
  from_ : Int
  to : Int
  size : Int
  depth : Int
  s : List B
  r : List B
def Chan.abs (ch : Chan) : AC := ⟨ch.kind, ch.from_, ch.to, ch.size, ch.depth, ch.s.bs, ch.r.bs⟩
/-- As many messages as may be, and no longer ones. -/
structure AC.OK (a : AC) : Prop where
  s : a.s.length ≤ 8
  r : a.r.length ≤ 8
  sl : ∀ m ∈ a.s, m.length ≤ 64
  rl : ∀ m ∈ a.r, m.length ≤ 64
structure PC where
  chs : List Chan
  pl : List Msg
  a : Option Addr
  c : Nat
abbrev CO (p : Nat) (x : PC) : List HProp :=
  [blk p [.slice x.a x.chs.length x.c] 82, osl 86 7 x.a x.c x.chs.length ((x.chs.map Chan.cells).flatten), Star (x.chs.map Chan.own), pool x.pl]
/-- The channels are these, and their messages lie in the pool. -/
structure PC.OK (x : PC) (acs : List AC) : Prop where
  abs : x.chs.map Chan.abs = acs
  ok : ∀ a ∈ acs, a.OK
  mem : ∀ ch ∈ x.chs, ∀ m, m ∈ ch.s.ms ∨ m ∈ ch.r.ms → m ∈ x.pl
  len : acs.length ≤ 1000
/-- At block p lie ports. -/
def Po (p : Nat) (acs : List AC) : HProp := fun h => ∃ x : PC, x.OK acs ∧ Star (CO p x) h
theorem po_open {p : Nat} {acs : List AC} (y : Heaplet) (h : Po p acs y) : ∃ x : PC, x.OK acs ∧ Star (CO p x) y := h
theorem po_close {p : Nat} {acs : List AC} {G : List HProp} (x : PC) (hx : x.OK acs) : Imp (CO p x ++ G) (Po p acs :: G) :=
  Imp.trans star_close (Imp.head fun y hy => ⟨x, hx, hy⟩)
theorem PC.OK.get {x : PC} {acs : List AC} (h : x.OK acs) {n : Nat} {ac : AC} (ha : acs[n]? = some ac) : ∃ ch, x.chs[n]? = some ch ∧ ch.abs = ac := by
  rw [← h.abs, List.getElem?_map] at ha
  cases hc : x.chs[n]? with
  | none => rw [hc] at ha; cases ha
  | some ch => rw [hc] at ha; exact ⟨ch, rfl, by simpa using ha⟩
theorem PC.OK.lens {x : PC} {acs : List AC} (h : x.OK acs) : x.chs.length = acs.length := by rw [← h.abs]; simp
theorem PC.OK.set {x : PC} {acs : List AC} (h : x.OK acs) {n : Nat} {ch : Chan} {ms : List Msg} (hok : ch.abs.OK) (hm : ∀ m, m ∈ ch.s.ms ∨ m ∈ ch.r.ms → m ∈ ms ++ x.pl) : PC.OK ⟨x.chs.set n ch, ms ++ x.pl, x.a, x.c⟩ (acs.set n ch.abs) := by
  refine ⟨by dsimp only; rw [List.map_set, h.abs], fun a ha => ?_, fun c hc m hcm => ?_, by rw [List.length_set]; exact h.len⟩
  · rcases List.mem_or_eq_of_mem_set ha with ha | rfl
    · exact h.ok a ha
    · exact hok
  · rcases List.mem_or_eq_of_mem_set hc with hc | rfl
    · exact List.mem_append.2 (.inr (h.mem c hc m hcm))
    · exact hm m hcm
section
variable (W0 : World) (Fr : List HProp)
theorem at_in {p b o c n m : Nat} (hn : n < m) : Ctr Try.prog W0 45 [.pointer (some ⟨p, 0, none⟩), .int .i64 n] (blk p [.slice (some ⟨b, o, none⟩) m c] 82 :: Fr) (fun _ : Unit => True) (fun _ => .pointer (some ⟨b, o + n * 7, none⟩)) (fun _ => blk p [.slice (some ⟨b, o, none⟩) m c] 82 :: Fr) := by
  refine Ctr.of_body Try.func45 rfl Try.ntmps45 rfl ?_
  refine CG.seq ?_
  refine CG.region ?_
  refine OG.yield (Yield.assign rfl) rfl ?_
  refine OG.nil ?_
  refine QG.then ?_
  refine CG.seq ?_
  refine CG.seq ?_
  refine CG.region ?_
  refine OG.yield (Yield.move rfl) rfl ?_
  refine OG.yield (by first | exact Yield.as (Yield.lss rfl rfl) (bT (by omega)) | exact Yield.as (Yield.lss rfl rfl) (bF (by omega)) | exact Yield.lss rfl rfl) rfl ?_
  refine OG.yield (Yield.move rfl) rfl ?_
  refine OG.guard_yes rfl rfl rfl (by decide) ?_
  refine OG.yield (Yield.move rfl) rfl ?_
  refine OG.guard_yes rfl rfl rfl (by decide) ?_
  refine OG.yield (Yield.move rfl) rfl ?_
  refine OG.guard_yes rfl rfl rfl (by decide) ?_
  refine OG.yield (Yield.nilCheck rfl) rfl ?_
  refine OG.guard_yes rfl rfl rfl (by decide) ?_
  refine OG.yield (Yield.fieldAddr fa82_0 rfl) rfl ?_
  refine OG.guard_yes rfl rfl rfl (by decide) ?_
  refine OG.yield (Yield.load ti80 rfl (by first | exact Cel.of_blk (by repeat (first | exact Ext.here | apply Ext.there)) rfl | exact (hrow (by repeat (first | exact Ext.here | apply Ext.there))) _ _ rfl)) rfl ?_
  refine OG.guard_yes rfl rfl rfl (by decide) ?_
  refine OG.yield (Yield.len_slice Try.underlying80 rfl rfl) rfl ?_
  refine OG.guard_yes rfl rfl rfl (by decide) ?_
  refine OG.yield (by first | exact Yield.as (Yield.geq rfl rfl) (bT (by omega)) | exact Yield.as (Yield.geq rfl rfl) (bF (by omega)) | exact Yield.geq rfl rfl) rfl ?_
  refine OG.yield (by first | exact Yield.pick_t rfl rfl | exact Yield.pick_f rfl rfl | exact Yield.pick rfl (fun _ => rfl) (fun _ => rfl)) rfl ?_
  refine OG.nil ?_
  refine QG.then ?_
  refine CG.cond_f rfl ?_
  refine CG.skip ?_
  refine QG.then ?_
  refine CG.seq ?_
  refine CG.region ?_
  refine OG.yield (Yield.move rfl) rfl ?_
  refine OG.yield (Yield.nilCheck rfl) rfl ?_
  refine OG.yield (Yield.fieldAddr fa82_0 rfl) rfl ?_
  refine OG.yield (Yield.load ti80 rfl (by first | exact Cel.of_blk (by repeat (first | exact Ext.here | apply Ext.there)) rfl | exact (hrow (by repeat (first | exact Ext.here | apply Ext.there))) _ _ rfl)) rfl ?_
  refine OG.yield (Yield.move rfl) rfl ?_
  refine OG.yield (Yield.index_slice Try.underlying80 ti86 rfl rfl (by omega) (by omega)) rfl ?_
  refine OG.yield (Yield.assign rfl) rfl ?_
  refine OG.nil ?_
  refine QG.then ?_
  refine CG.ret ?_
  exact QG.ret1 rfl rfl () trivial rfl (Imp.refl _)
theorem at_out {p c m : Nat} {n : Int} {a : Option Addr} (hn : n < 0 ∨ (m : Int) ≤ n) : Ctr Try.prog W0 45 [.pointer (some ⟨p, 0, none⟩), .int .i64 n] (blk p [.slice a m c] 82 :: Fr) (fun _ : Unit => True) (fun _ => .pointer none) (fun _ => blk p [.slice a m c] 82 :: Fr) := by
  refine Ctr.of_body Try.func45 rfl Try.ntmps45 rfl ?_
  refine CG.seq ?_
  refine CG.region ?_
  refine OG.yield (Yield.assign rfl) rfl ?_
  refine OG.nil ?_
  refine QG.then ?_
  refine CG.seq ?_
  refine CG.seq ?_
  rcases (show n < 0 ∨ (¬ n < 0 ∧ (m : Int) ≤ n) by omega) with hh | hh
  · skip
    refine CG.region ?_
    refine OG.yield (Yield.move rfl) rfl ?_
    refine OG.yield (by first | exact Yield.as (Yield.lss rfl rfl) (bT (by omega)) | exact Yield.as (Yield.lss rfl rfl) (bF (by omega)) | exact Yield.lss rfl rfl) rfl ?_
    refine OG.yield (Yield.move rfl) rfl ?_
    refine OG.guard_no rfl rfl rfl rfl rfl (by decide) (by decide) ?_
    refine OG.guard_no rfl rfl rfl rfl rfl (by decide) (by decide) ?_
    refine OG.guard_no rfl rfl rfl rfl rfl (by decide) (by decide) ?_
    refine OG.guard_no rfl rfl rfl rfl rfl (by decide) (by decide) ?_
    refine OG.guard_no rfl rfl rfl rfl rfl (by decide) (by decide) ?_
    refine OG.guard_no rfl rfl rfl rfl rfl (by decide) (by decide) ?_
    refine OG.guard_no rfl rfl rfl rfl rfl (by decide) (by decide) ?_
    refine OG.yield (by first | exact Yield.pick_t rfl rfl | exact Yield.pick_f rfl rfl | exact Yield.pick rfl (fun _ => rfl) (fun _ => rfl)) rfl ?_
    refine OG.nil ?_
    refine QG.then ?_
    refine CG.cond_t rfl ?_
    refine CG.seq ?_
    refine CG.region ?_
    refine OG.yield (Yield.assign rfl) rfl ?_
    refine OG.nil ?_
    refine QG.then ?_
    refine CG.ret ?_
    refine QG.pass_ret ?_
    exact QG.ret1 rfl rfl () trivial rfl (Imp.refl _)
  · skip
    refine CG.region ?_
    refine OG.yield (Yield.move rfl) rfl ?_
    refine OG.yield (by first | exact Yield.as (Yield.lss rfl rfl) (bT (by omega)) | exact Yield.as (Yield.lss rfl rfl) (bF (by omega)) | exact Yield.lss rfl rfl) rfl ?_
    refine OG.yield (Yield.move rfl) rfl ?_
    refine OG.guard_yes rfl rfl rfl (by decide) ?_
    refine OG.yield (Yield.move rfl) rfl ?_
    refine OG.guard_yes rfl rfl rfl (by decide) ?_
    refine OG.yield (Yield.move rfl) rfl ?_
    refine OG.guard_yes rfl rfl rfl (by decide) ?_
    refine OG.yield (Yield.nilCheck rfl) rfl ?_
    refine OG.guard_yes rfl rfl rfl (by decide) ?_
    refine OG.yield (Yield.fieldAddr fa82_0 rfl) rfl ?_
    refine OG.guard_yes rfl rfl rfl (by decide) ?_
    refine OG.yield (Yield.load ti80 rfl (by first | exact Cel.of_blk (by repeat (first | exact Ext.here | apply Ext.there)) rfl | exact (hrow (by repeat (first | exact Ext.here | apply Ext.there))) _ _ rfl)) rfl ?_
    refine OG.guard_yes rfl rfl rfl (by decide) ?_
    refine OG.yield (Yield.len_slice Try.underlying80 rfl rfl) rfl ?_
    refine OG.guard_yes rfl rfl rfl (by decide) ?_
    refine OG.yield (by first | exact Yield.as (Yield.geq rfl rfl) (bT (by omega)) | exact Yield.as (Yield.geq rfl rfl) (bF (by omega)) | exact Yield.geq rfl rfl) rfl ?_
    refine OG.yield (by first | exact Yield.pick_t rfl rfl | exact Yield.pick_f rfl rfl | exact Yield.pick rfl (fun _ => rfl) (fun _ => rfl)) rfl ?_
    refine OG.nil ?_
    refine QG.then ?_
    refine CG.cond_t rfl ?_
    refine CG.seq ?_
    refine CG.region ?_
    refine OG.yield (Yield.assign rfl) rfl ?_
    refine OG.nil ?_
    refine QG.then ?_
    refine CG.ret ?_
    refine QG.pass_ret ?_
    exact QG.ret1 rfl rfl () trivial rfl (Imp.refl _)
/-- The ports laid open at a channel. -/
abbrev CP (p : Nat) (x : PC) (n : Nat) (ch : Chan) : List HProp :=
  [blk p [.slice x.a x.chs.length x.c] 82, osl 86 7 x.a x.c x.chs.length (((x.chs.set n ch).map Chan.cells).flatten), oend ch.s, oend ch.r, Star ((x.chs.map Chan.own).eraseIdx n)]
theorem cp_open {p n : Nat} {x : PC} {ch : Chan} {G : List HProp} (h : x.chs[n]? = some ch) : Imp (CO p x ++ G) (CP p x n ch ++ (pool x.pl :: G)) := by
  have e : x.chs.set n ch = x.chs := by
    obtain ⟨hi, rfl⟩ := List.getElem?_eq_some_iff.1 h
    exact List.set_getElem_self hi
  unfold CP; rw [e]
  exact Imp.cons (Imp.cons (Imp.trans (star_take (i := n) (A := ch.own) (by rw [List.getElem?_map, h]; rfl)) star_open))
theorem cp_close {p n : Nat} {x : PC} {acs : List AC} {ch ch0 : Chan} {ms : List Msg} {G : List HProp} (h : x.chs[n]? = some ch0) (hx : x.OK acs) (hok : ch.abs.OK) (hm : ∀ m, m ∈ ch.s.ms ∨ m ∈ ch.r.ms → m ∈ ms ++ x.pl) :
    Imp (CP p x n ch ++ (pool ms :: pool x.pl :: G)) (Po p (acs.set n ch.abs) :: G) := by
  refine Imp.trans ?_ (po_close ⟨x.chs.set n ch, ms ++ x.pl, x.a, x.c⟩ (hx.set hok hm))
  unfold CO CP
  dsimp only
  rw [List.length_set, List.map_set (f := Chan.own)]
  refine Imp.cons (Imp.cons ?_)
  refine Imp.trans (B := ch.own :: Star ((x.chs.map Chan.own).eraseIdx n) :: pool ms :: pool x.pl :: G) ?_ ?_
  · exact star_close (D := [oend ch.s, oend ch.r])
  · exact Imp.trans (star_put (A := ch0.own) (by rw [List.getElem?_map, h]; rfl)) (Imp.cons pool_join)
theorem cp_back {p n : Nat} {x : PC} {acs : List AC} {ch : Chan} {G : List HProp} (h : x.chs[n]? = some ch) (hx : x.OK acs) : Imp (CP p x n ch ++ (pool x.pl :: G)) (Po p acs :: G) := by
  have e : x.chs.set n ch = x.chs := by
    obtain ⟨hi, rfl⟩ := List.getElem?_eq_some_iff.1 h
    exact List.set_getElem_self hi
  refine Imp.trans ?_ (po_close x hx)
  unfold CO CP
  rw [e]
  refine Imp.cons (Imp.cons ?_)
  refine Imp.trans (B := ch.own :: Star ((x.chs.map Chan.own).eraseIdx n) :: pool x.pl :: G) ?_ ?_
  · exact star_close (D := [oend ch.s, oend ch.r])
  · have := star_put (L := x.chs.map Chan.own) (i := n) (A := ch.own) (B := ch.own) (G := pool x.pl :: G) (by rw [List.getElem?_map, h]; rfl)
    rw [← List.map_set, e] at this; exact this
/-- What a sending comes to at a channel. -/
def sendR (ac : AC) (part : Int) (bs : B) : Int × AC :=
  if ac.from_ ≠ part then (210, ac) else if max 0 (min ac.size 64) < (bs.length : Int) then (9, ac) else if ac.kind ≠ 2 then (0, { ac with s := [bs] })
  else if dep ac.kind ac.depth ≤ (ac.s.length : Int) then (4, ac) else (0, { ac with s := ac.s ++ [bs] })
theorem set_self {α : Type} {l : List α} {i : Nat} {x : α} (h : l[i]? = some x) : l.set i x = l := by
  obtain ⟨hi, rfl⟩ := List.getElem?_eq_some_iff.1 h
  exact List.set_getElem_self hi
theorem shape_chs {W0 : World} {G R : List HProp} {x : PC} {n : Nat} {ch : Chan} {cs : List Chan} (h : x.chs[n]? = some ch) (hc : cs.length = x.chs.length) (e : Ext G (osl 86 7 x.a x.c x.chs.length ((cs.map Chan.cells).flatten)) R) (w : World) (hw : Sat W0 G w) : ∃ b o, x.a = some ⟨b, o, none⟩ := by
  have hn := (List.getElem?_eq_some_iff.1 h).1
  exact (SlR.of_osl e).elem_shape (i := n) Chan.len (by decide) (by omega) w hw
theorem send_out {p c : Nat} {acs : List AC} (part n : Int) {a : Option Addr} {m : Nat} (hn : n < 0 ∨ (acs.length : Int) ≤ n) : Ctr Try.prog W0 23 [.pointer (some ⟨p, 0, none⟩), .int .i64 part, .int .i64 n, .slice a m c] (Po p acs :: Fr) (fun _ : Unit => True) (fun _ => .int .i64 210) (fun _ => Po p acs :: Fr) := by
  refine Ctr.ex Ext.here po_open ?_
  intro x hx
  refine Ctr.imp star_open ?_
  have hln := hx.lens
  dsimp only [CO, List.cons_append, List.nil_append]
  refine Ctr.of_body Try.func23 rfl Try.ntmps23 rfl ?_
  refine CG.seq ?_
  refine CG.region ?_
  refine OG.yield (Yield.assign rfl) rfl ?_
  refine OG.nil ?_
  refine QG.then ?_
  refine CG.seq ?_
  refine CG.region ?_
  refine OG.yield (Yield.move rfl) rfl ?_
  refine OG.yield (Yield.move rfl) rfl ?_
  refine OG.callo call45 rfl ((by repeat (first | exact Imp.refl _ | exact Imp.none _ | apply Imp.pull (by repeat (first | exact Ext.here | apply Ext.there)) | apply Imp.trans Imp.drop))) (at_out W0 _ (p := p) (n := n) (by omega)) rfl ?_
  rintro ⟨⟩ -
  refine OG.yield (Yield.assign rfl) rfl ?_
  refine OG.nil ?_
  refine QG.then ?_
  refine CG.seq ?_
  refine CG.block ?_
  refine CG.seq ?_
  refine CG.region ?_
  refine OG.yield (Yield.move rfl) rfl ?_
  refine OG.yield (by first | exact Yield.ptr_nil Try.underlying87 rfl rfl | exact Yield.nil_nil Try.underlying87 rfl rfl) rfl ?_
  refine OG.yield (Yield.move rfl) rfl ?_
  refine OG.guard_no rfl rfl rfl rfl rfl (by decide) (by decide) ?_
  refine OG.guard_no rfl rfl rfl rfl rfl (by decide) (by decide) ?_
  refine OG.guard_no rfl rfl rfl rfl rfl (by decide) (by decide) ?_
  refine OG.guard_no rfl rfl rfl rfl rfl (by decide) (by decide) ?_
  refine OG.guard_no rfl rfl rfl rfl rfl (by decide) (by decide) ?_
  refine OG.guard_no rfl rfl rfl rfl rfl (by decide) (by decide) ?_
  refine OG.guard_no rfl rfl rfl rfl rfl (by decide) (by decide) ?_
  refine OG.yield (by first | exact Yield.pick_t rfl rfl | exact Yield.pick_f rfl rfl | exact Yield.pick rfl (fun _ => rfl) (fun _ => rfl)) rfl ?_
  refine OG.yield (Yield.assign rfl) rfl ?_
  refine OG.nil ?_
  refine QG.then ?_
  refine CG.cond_t rfl ?_
  refine CG.seq ?_
  refine CG.region ?_
  refine OG.yield (Yield.assign rfl) rfl ?_
  refine OG.nil ?_
  refine QG.then ?_
  refine CG.ret ?_
  refine QG.block_ret ?_
  refine QG.pass_ret ?_
  exact QG.ret1 rfl rfl () trivial rfl (Imp.trans (by repeat (first | exact Imp.refl _ | exact Imp.none _ | apply Imp.pull (by repeat (first | exact Ext.here | apply Ext.there)) | apply Imp.trans Imp.drop)) (po_close x hx))
set_option maxHeartbeats 1000000 in
theorem send_in {p c n : Nat} {acs : List AC} (part : Int) {a : Option Addr} {bs : B} {ac : AC} (hr : SlR W0 Fr 1 a bs.length (bytesV bs)) (hb : bs.length ≤ 2 ^ 47) (hac : acs[n]? = some ac) :
    Ctr Try.prog W0 23 [.pointer (some ⟨p, 0, none⟩), .int .i64 part, .int .i64 n, .slice a bs.length c] (Po p acs :: Fr) (fun _ : Unit => True) (fun _ => .int .i64 (sendR ac part bs).1) (fun _ => Po p (acs.set n (sendR ac part bs).2) :: Fr) := by
  refine Ctr.ex Ext.here po_open ?_
  intro x hx
  refine Ctr.imp star_open ?_
  have hln := hx.lens
  obtain ⟨ch, hch, rfl⟩ := hx.get hac
  have hnl : n < x.chs.length := (List.getElem?_eq_some_iff.1 hch).1
  have hok := hx.ok _ (List.mem_of_getElem? hac)
  have hmem := hx.mem ch (List.mem_of_getElem? hch)
  have hsl : ch.s.ms.length ≤ 8 := by have := hok.s; simp only [Chan.abs, End.bs, List.length_map] at this; exact this
  refine Ctr.imp (cp_open hch) ?_
  have hcs : (x.chs.set n ch)[n]? = some ch := by rw [set_self hch]; exact hch
  refine Ctr.pure (fun w hw => shape_chs (cs := x.chs.set n ch) hch (by rw [List.length_set]) (Ext.there Ext.here) w hw) ?_
  rintro ⟨b, o, hxa⟩
  unfold CP
  rw [hxa]
  dsimp only [List.cons_append, List.nil_append]
  refine Ctr.of_body Try.func23 rfl Try.ntmps23 rfl ?_
  refine CG.seq ?_
  refine CG.region ?_
  refine OG.yield (Yield.assign rfl) rfl ?_
  refine OG.nil ?_
  refine QG.then ?_
  refine CG.seq ?_
  refine CG.region ?_
  refine OG.yield (Yield.move rfl) rfl ?_
  refine OG.yield (Yield.move rfl) rfl ?_
  refine OG.callo call45 rfl ((by repeat (first | exact Imp.refl _ | exact Imp.none _ | apply Imp.pull (by repeat (first | exact Ext.here | apply Ext.there)) | apply Imp.trans Imp.drop))) (at_in W0 _ (p := p) (b := b) (o := o) (c := x.c) (n := n) hnl) rfl ?_
  rintro ⟨⟩ -
  refine OG.yield (Yield.assign rfl) rfl ?_
  refine OG.nil ?_
  refine QG.then ?_
  refine CG.seq ?_
  refine CG.block ?_
  refine CG.seq ?_
  rcases (show ch.from_ ≠ part ∨ (ch.from_ = part ∧ max 0 (min ch.size 64) < (bs.length : Int)) ∨ (ch.from_ = part ∧ (bs.length : Int) ≤ max 0 (min ch.size 64) ∧ ch.kind ≠ 2) ∨ (ch.from_ = part ∧ (bs.length : Int) ≤ max 0 (min ch.size 64) ∧ ch.kind = 2 ∧ dep ch.kind ch.depth ≤ (ch.s.ms.length : Int)) ∨ (ch.from_ = part ∧ (bs.length : Int) ≤ max 0 (min ch.size 64) ∧ ch.kind = 2 ∧ (ch.s.ms.length : Int) < dep ch.kind ch.depth) by omega) with hh | hh | hh | hh | hh
  · skip
    refine CG.region ?_
    refine OG.yield (Yield.move rfl) rfl ?_
    refine OG.yield (by first | exact Yield.ptr_nil Try.underlying87 rfl rfl | exact Yield.nil_nil Try.underlying87 rfl rfl) rfl ?_
    refine OG.yield (Yield.move rfl) rfl ?_
    refine OG.guard_yes rfl rfl rfl (by decide) ?_
    refine OG.yield (Yield.move rfl) rfl ?_
    refine OG.guard_yes rfl rfl rfl (by decide) ?_
    refine OG.yield (Yield.nilCheck rfl) rfl ?_
    refine OG.guard_yes rfl rfl rfl (by decide) ?_
    refine OG.yield (Yield.fieldAddr fa86_0 rfl) rfl ?_
    refine OG.guard_yes rfl rfl rfl (by decide) ?_
    refine OG.yield (Yield.fieldAddr fa47_1 rfl) rfl ?_
    refine OG.guard_yes rfl rfl rfl (by decide) ?_
    refine OG.yield (Yield.load (v := .int .i64 ch.from_) ti3 rfl (((SlR.of_osl (by repeat (first | exact Ext.here | apply Ext.there))).elem Chan.len hcs) 1 _ rfl)) rfl ?_
    refine OG.guard_yes rfl rfl rfl (by decide) ?_
    refine OG.yield (Yield.move rfl) rfl ?_
    refine OG.guard_yes rfl rfl rfl (by decide) ?_
    refine OG.yield (by first | exact Yield.as (Yield.neq rfl rfl) (bT (by omega)) | exact Yield.as (Yield.neq rfl rfl) (bF (by omega)) | exact Yield.neq rfl rfl) rfl ?_
    refine OG.yield (by first | exact Yield.pick_t rfl rfl | exact Yield.pick_f rfl rfl | exact Yield.pick rfl (fun _ => rfl) (fun _ => rfl)) rfl ?_
    refine OG.yield (Yield.assign rfl) rfl ?_
    refine OG.nil ?_
    refine QG.then ?_
    refine CG.cond_t rfl ?_
    refine CG.seq ?_
    refine CG.region ?_
    refine OG.yield (Yield.assign rfl) rfl ?_
    refine OG.nil ?_
    refine QG.then ?_
    refine CG.ret ?_
    refine QG.block_ret ?_
    refine QG.pass_ret ?_
    rw [show sendR ch.abs part bs = (210, ch.abs) by unfold sendR; rw [if_pos (by exact hh)], set_self hac]
    exact QG.ret1 rfl rfl () trivial rfl (Imp.trans (by repeat (first | exact Imp.refl _ | exact Imp.none _ | apply Imp.pull (by repeat (first | exact Ext.here | apply Ext.there)) | apply Imp.trans Imp.drop)) (Imp.trans (by unfold CP; rw [hxa]; exact Imp.refl _) (cp_back hch hx)))
  · skip
    refine CG.region ?_
    refine OG.yield (Yield.move rfl) rfl ?_
    refine OG.yield (by first | exact Yield.ptr_nil Try.underlying87 rfl rfl | exact Yield.nil_nil Try.underlying87 rfl rfl) rfl ?_
    refine OG.yield (Yield.move rfl) rfl ?_
    refine OG.guard_yes rfl rfl rfl (by decide) ?_
    refine OG.yield (Yield.move rfl) rfl ?_
    refine OG.guard_yes rfl rfl rfl (by decide) ?_
    refine OG.yield (Yield.nilCheck rfl) rfl ?_
    refine OG.guard_yes rfl rfl rfl (by decide) ?_
    refine OG.yield (Yield.fieldAddr fa86_0 rfl) rfl ?_
    refine OG.guard_yes rfl rfl rfl (by decide) ?_
    refine OG.yield (Yield.fieldAddr fa47_1 rfl) rfl ?_
    refine OG.guard_yes rfl rfl rfl (by decide) ?_
    refine OG.yield (Yield.load (v := .int .i64 ch.from_) ti3 rfl (((SlR.of_osl (by repeat (first | exact Ext.here | apply Ext.there))).elem Chan.len hcs) 1 _ rfl)) rfl ?_
    refine OG.guard_yes rfl rfl rfl (by decide) ?_
    refine OG.yield (Yield.move rfl) rfl ?_
    refine OG.guard_yes rfl rfl rfl (by decide) ?_
    refine OG.yield (by first | exact Yield.as (Yield.neq rfl rfl) (bT (by omega)) | exact Yield.as (Yield.neq rfl rfl) (bF (by omega)) | exact Yield.neq rfl rfl) rfl ?_
    refine OG.yield (by first | exact Yield.pick_t rfl rfl | exact Yield.pick_f rfl rfl | exact Yield.pick rfl (fun _ => rfl) (fun _ => rfl)) rfl ?_
    refine OG.yield (Yield.assign rfl) rfl ?_
    refine OG.nil ?_
    refine QG.then ?_
    refine CG.cond_f rfl ?_
    refine CG.seq ?_
    refine CG.region ?_
    refine OG.yield (Yield.move rfl) rfl ?_
    refine OG.yield (Yield.len_slice Try.underlying49 rfl rfl) rfl ?_
    refine OG.yield (Yield.move rfl) rfl ?_
    refine OG.callo call46 rfl (Imp.refl _) (size_spec W0 _ (b := b) (o := o + n * 7) (sz := ch.size) (by exact ((SlR.of_osl (by repeat (first | exact Ext.here | apply Ext.there))).elem Chan.len hcs) 3 _ rfl)) rfl ?_
    rintro ⟨⟩ -
    refine OG.yield (by first | exact Yield.as (Yield.gtr rfl rfl) (bT (by omega)) | exact Yield.as (Yield.gtr rfl rfl) (bF (by omega)) | exact Yield.gtr rfl rfl) rfl ?_
    refine OG.yield (Yield.assign rfl) rfl ?_
    refine OG.nil ?_
    refine QG.then ?_
    refine CG.cond_t rfl ?_
    refine CG.seq ?_
    refine CG.region ?_
    refine OG.yield (Yield.assign rfl) rfl ?_
    refine OG.nil ?_
    refine QG.then ?_
    refine CG.ret ?_
    refine QG.block_ret ?_
    refine QG.pass_ret ?_
    rw [show sendR ch.abs part bs = (9, ch.abs) by unfold sendR; rw [if_neg (by exact not_not_intro hh.1), if_pos (by exact hh.2)], set_self hac]
    exact QG.ret1 rfl rfl () trivial rfl (Imp.trans (by repeat (first | exact Imp.refl _ | exact Imp.none _ | apply Imp.pull (by repeat (first | exact Ext.here | apply Ext.there)) | apply Imp.trans Imp.drop)) (Imp.trans (by unfold CP; rw [hxa]; exact Imp.refl _) (cp_back hch hx)))
  · skip
    refine CG.region ?_
    refine OG.yield (Yield.move rfl) rfl ?_
    refine OG.yield (by first | exact Yield.ptr_nil Try.underlying87 rfl rfl | exact Yield.nil_nil Try.underlying87 rfl rfl) rfl ?_
    refine OG.yield (Yield.move rfl) rfl ?_
    refine OG.guard_yes rfl rfl rfl (by decide) ?_
    refine OG.yield (Yield.move rfl) rfl ?_
    refine OG.guard_yes rfl rfl rfl (by decide) ?_
    refine OG.yield (Yield.nilCheck rfl) rfl ?_
    refine OG.guard_yes rfl rfl rfl (by decide) ?_
    refine OG.yield (Yield.fieldAddr fa86_0 rfl) rfl ?_
    refine OG.guard_yes rfl rfl rfl (by decide) ?_
    refine OG.yield (Yield.fieldAddr fa47_1 rfl) rfl ?_
    refine OG.guard_yes rfl rfl rfl (by decide) ?_
    refine OG.yield (Yield.load (v := .int .i64 ch.from_) ti3 rfl (((SlR.of_osl (by repeat (first | exact Ext.here | apply Ext.there))).elem Chan.len hcs) 1 _ rfl)) rfl ?_
    refine OG.guard_yes rfl rfl rfl (by decide) ?_
    refine OG.yield (Yield.move rfl) rfl ?_
    refine OG.guard_yes rfl rfl rfl (by decide) ?_
    refine OG.yield (by first | exact Yield.as (Yield.neq rfl rfl) (bT (by omega)) | exact Yield.as (Yield.neq rfl rfl) (bF (by omega)) | exact Yield.neq rfl rfl) rfl ?_
    refine OG.yield (by first | exact Yield.pick_t rfl rfl | exact Yield.pick_f rfl rfl | exact Yield.pick rfl (fun _ => rfl) (fun _ => rfl)) rfl ?_
    refine OG.yield (Yield.assign rfl) rfl ?_
    refine OG.nil ?_
    refine QG.then ?_
    refine CG.cond_f rfl ?_
    refine CG.seq ?_
    refine CG.region ?_
    refine OG.yield (Yield.move rfl) rfl ?_
    refine OG.yield (Yield.len_slice Try.underlying49 rfl rfl) rfl ?_
    refine OG.yield (Yield.move rfl) rfl ?_
    refine OG.callo call46 rfl (Imp.refl _) (size_spec W0 _ (b := b) (o := o + n * 7) (sz := ch.size) (by exact ((SlR.of_osl (by repeat (first | exact Ext.here | apply Ext.there))).elem Chan.len hcs) 3 _ rfl)) rfl ?_
    rintro ⟨⟩ -
    refine OG.yield (by first | exact Yield.as (Yield.gtr rfl rfl) (bT (by omega)) | exact Yield.as (Yield.gtr rfl rfl) (bF (by omega)) | exact Yield.gtr rfl rfl) rfl ?_
    refine OG.yield (Yield.assign rfl) rfl ?_
    refine OG.nil ?_
    refine QG.then ?_
    refine CG.cond_f rfl ?_
    refine CG.seq ?_
    refine CG.region ?_
    refine OG.yield (Yield.move rfl) rfl ?_
    refine OG.yield (Yield.nilCheck rfl) rfl ?_
    refine OG.yield (Yield.fieldAddr fa86_0 rfl) rfl ?_
    refine OG.yield (Yield.fieldAddr fa47_0 rfl) rfl ?_
    refine OG.yield (Yield.load (v := .int .i64 ch.kind) ti3 rfl (((SlR.of_osl (by repeat (first | exact Ext.here | apply Ext.there))).elem Chan.len hcs) 0 _ rfl)) rfl ?_
    refine OG.yield (by first | exact Yield.as (Yield.neq rfl rfl) (bT (by omega)) | exact Yield.as (Yield.neq rfl rfl) (bF (by omega)) | exact Yield.neq rfl rfl) rfl ?_
    refine OG.yield (Yield.assign rfl) rfl ?_
    refine OG.nil ?_
    refine QG.then ?_
    refine CG.cond_t rfl ?_
    refine CG.seq ?_
    refine CG.region ?_
    refine OG.yield (Yield.move rfl) rfl ?_
    refine OG.yield (Yield.move rfl) rfl ?_
    refine OG.callo call47 rfl (Imp.refl _) (own_spec W0 _ (a := a) (c := c) (bs := bs) (by exact hr.imp (by repeat (first | exact Imp.refl _ | exact Imp.none _ | apply Imp.pull (by repeat (first | exact Ext.here | apply Ext.there)) | apply Imp.trans Imp.drop))) hb) rfl ?_
    rintro bm -
    refine OG.effd (Eff.lit1 Try.underlying65 ti49 rfl rfl rfl) rfl ?_
    rintro b41 -
    refine OG.yield (Yield.nilCheck rfl) rfl ?_
    refine OG.yield (Yield.fieldAddr fa86_1 rfl) rfl ?_
    refine OG.yield (Yield.fieldAddr fa84_0 rfl) rfl ?_
    refine OG.eff (Eff.storeFld (i := n) 5 (r := ch) (r' := { ch with s := ⟨some ⟨b41, 0, none⟩, 1, [⟨some ⟨bm, 0, none⟩, bs.length, bs⟩]⟩ }) (rs := x.chs.set n ch) Chan.len hcs rfl (by decide) ti65 rfl rfl (by repeat (first | exact Foc.here | apply Foc.there)) rfl (by rw [List.length_set])) rfl ?_
    rintro ⟨⟩ -
    refine OG.nil ?_
    refine QG.then ?_
    refine CG.seq ?_
    refine CG.region ?_
    refine OG.yield (Yield.assign rfl) rfl ?_
    refine OG.nil ?_
    refine QG.then ?_
    refine CG.ret ?_
    refine QG.block_ret ?_
    refine QG.pass_ret ?_
    rw [show sendR ch.abs part bs = (0, { ch.abs with s := [bs] }) by unfold sendR; rw [if_neg (by exact not_not_intro hh.1), if_neg (by have := hh.2.1; exact Int.not_lt.2 this), if_pos (by exact hh.2.2)]]
    have hc := cp_close (p := p) (ms := [⟨some ⟨bm, 0, none⟩, bs.length, bs⟩]) (ch := { ch with s := ⟨some ⟨b41, 0, none⟩, 1, [⟨some ⟨bm, 0, none⟩, bs.length, bs⟩]⟩ }) (G := Fr) hch hx ⟨by simp [Chan.abs, End.bs], hok.r, fun m hm => by simp only [Chan.abs, End.bs, List.map_cons, List.map_nil, List.mem_cons, List.not_mem_nil, or_false] at hm; subst hm; omega, hok.rl⟩ (fun m hm => by rcases hm with hm | hm; exact List.mem_append.2 (.inl hm); exact List.mem_append.2 (.inr (hmem m (.inr hm))))
    unfold CP at hc
    rw [hxa, List.set_set] at *
    refine QG.ret1 rfl rfl () trivial rfl (Imp.trans ?_ hc)
    refine Imp.trans ?_ (Imp.cons (Imp.cons (Imp.cons (Imp.cons (Imp.cons (pool_one (m := ⟨some ⟨bm, 0, none⟩, bs.length, bs⟩)))))))
    exact (by repeat (first | exact Imp.refl _ | exact Imp.none _ | apply Imp.pull (by repeat (first | exact Ext.here | apply Ext.there)) | apply Imp.trans Imp.drop))
  · skip
    refine CG.region ?_
    refine OG.yield (Yield.move rfl) rfl ?_
    refine OG.yield (by first | exact Yield.ptr_nil Try.underlying87 rfl rfl | exact Yield.nil_nil Try.underlying87 rfl rfl) rfl ?_
    refine OG.yield (Yield.move rfl) rfl ?_
    refine OG.guard_yes rfl rfl rfl (by decide) ?_
    refine OG.yield (Yield.move rfl) rfl ?_
    refine OG.guard_yes rfl rfl rfl (by decide) ?_
    refine OG.yield (Yield.nilCheck rfl) rfl ?_
    refine OG.guard_yes rfl rfl rfl (by decide) ?_
    refine OG.yield (Yield.fieldAddr fa86_0 rfl) rfl ?_
    refine OG.guard_yes rfl rfl rfl (by decide) ?_
    refine OG.yield (Yield.fieldAddr fa47_1 rfl) rfl ?_
    refine OG.guard_yes rfl rfl rfl (by decide) ?_
    refine OG.yield (Yield.load (v := .int .i64 ch.from_) ti3 rfl (((SlR.of_osl (by repeat (first | exact Ext.here | apply Ext.there))).elem Chan.len hcs) 1 _ rfl)) rfl ?_
    refine OG.guard_yes rfl rfl rfl (by decide) ?_
    refine OG.yield (Yield.move rfl) rfl ?_
    refine OG.guard_yes rfl rfl rfl (by decide) ?_
    refine OG.yield (by first | exact Yield.as (Yield.neq rfl rfl) (bT (by omega)) | exact Yield.as (Yield.neq rfl rfl) (bF (by omega)) | exact Yield.neq rfl rfl) rfl ?_
    refine OG.yield (by first | exact Yield.pick_t rfl rfl | exact Yield.pick_f rfl rfl | exact Yield.pick rfl (fun _ => rfl) (fun _ => rfl)) rfl ?_
    refine OG.yield (Yield.assign rfl) rfl ?_
    refine OG.nil ?_
    refine QG.then ?_
    refine CG.cond_f rfl ?_
    refine CG.seq ?_
    refine CG.region ?_
    refine OG.yield (Yield.move rfl) rfl ?_
    refine OG.yield (Yield.len_slice Try.underlying49 rfl rfl) rfl ?_
    refine OG.yield (Yield.move rfl) rfl ?_
    refine OG.callo call46 rfl (Imp.refl _) (size_spec W0 _ (b := b) (o := o + n * 7) (sz := ch.size) (by exact ((SlR.of_osl (by repeat (first | exact Ext.here | apply Ext.there))).elem Chan.len hcs) 3 _ rfl)) rfl ?_
    rintro ⟨⟩ -
    refine OG.yield (by first | exact Yield.as (Yield.gtr rfl rfl) (bT (by omega)) | exact Yield.as (Yield.gtr rfl rfl) (bF (by omega)) | exact Yield.gtr rfl rfl) rfl ?_
    refine OG.yield (Yield.assign rfl) rfl ?_
    refine OG.nil ?_
    refine QG.then ?_
    refine CG.cond_f rfl ?_
    refine CG.seq ?_
    refine CG.region ?_
    refine OG.yield (Yield.move rfl) rfl ?_
    refine OG.yield (Yield.nilCheck rfl) rfl ?_
    refine OG.yield (Yield.fieldAddr fa86_0 rfl) rfl ?_
    refine OG.yield (Yield.fieldAddr fa47_0 rfl) rfl ?_
    refine OG.yield (Yield.load (v := .int .i64 ch.kind) ti3 rfl (((SlR.of_osl (by repeat (first | exact Ext.here | apply Ext.there))).elem Chan.len hcs) 0 _ rfl)) rfl ?_
    refine OG.yield (by first | exact Yield.as (Yield.neq rfl rfl) (bT (by omega)) | exact Yield.as (Yield.neq rfl rfl) (bF (by omega)) | exact Yield.neq rfl rfl) rfl ?_
    refine OG.yield (Yield.assign rfl) rfl ?_
    refine OG.nil ?_
    refine QG.then ?_
    refine CG.cond_f rfl ?_
    refine CG.seq ?_
    refine CG.draw (.look 0 0 (.look 1 0 (.look 2 0 (.look 3 0 (.look 4 0 (.look 5 0 (.look 6 1 (.eff1 7 false (.look 8 1 (.look 9 1 (.done))))))))))) [7] [] ([osl 86 7 (some ⟨b, o, none⟩) x.c x.chs.length (((x.chs.set n ch).map Chan.cells).flatten)]) ([]) mixed (by kernel_rfl) ((by repeat (first | exact Imp.refl _ | exact Imp.none _ | apply Imp.pull (by repeat (first | exact Ext.here | apply Ext.there)) | apply Imp.trans Imp.drop))) (Imp.none _) ?_
    refine DG.look rfl rfl (Yield.move rfl) rfl ?_
    refine DG.look rfl rfl (Yield.nilCheck rfl) rfl ?_
    refine DG.look rfl rfl (Yield.fieldAddr fa86_1 rfl) rfl ?_
    refine DG.look rfl rfl (Yield.fieldAddr fa84_0 rfl) rfl ?_
    refine DG.look rfl rfl (Yield.load (v := ch.s.cell) ti65 rfl (((SlR.of_osl Ext.here).elem Chan.len hcs) 5 _ rfl)) rfl ?_
    refine DG.look rfl rfl (Yield.len_slice (a := ch.s.a) (m := ch.s.ms.length) (c := ch.s.c) Try.underlying65 rfl rfl) rfl ?_
    refine DG.look rfl rfl (Yield.move rfl) rfl ?_
    refine DG.eff1 ?_
    refine Chg.callo rfl rfl call48 rfl (Imp.refl _) (depth_spec W0 _ (b := b) (o := o + n * 7) (kd := ch.kind) (d := ch.depth) (by exact ((SlR.of_osl (by repeat (first | exact Ext.here | apply Ext.there))).elem Chan.len hcs) 0 _ rfl) (by exact ((SlR.of_osl (by repeat (first | exact Ext.here | apply Ext.there))).elem Chan.len hcs) 4 _ rfl)) rfl (fun _ => (by repeat (first | exact Imp.refl _ | exact Imp.none _ | apply Imp.pull (by repeat (first | exact Ext.here | apply Ext.there)) | apply Imp.trans Imp.drop))) (fun _ => Imp.refl _) (fun _ => (by repeat (first | exact Imp.refl _ | exact Imp.none _ | apply Imp.pull (by repeat (first | exact Ext.here | apply Ext.there)) | apply Imp.trans Imp.drop))) ?_
    rintro ⟨⟩ -
    refine DG.look rfl rfl (by first | exact Yield.as (Yield.geq rfl rfl) (bT (by omega)) | exact Yield.as (Yield.geq rfl rfl) (bF (by omega)) | exact Yield.geq rfl rfl) rfl ?_
    refine DG.look rfl rfl (Yield.assign rfl) rfl ?_
    refine DG.done ?_
    refine QG.then ?_
    refine CG.cond_t rfl ?_
    refine CG.seq ?_
    refine CG.region ?_
    refine OG.yield (Yield.assign rfl) rfl ?_
    refine OG.nil ?_
    refine QG.then ?_
    refine CG.ret ?_
    refine QG.block_ret ?_
    refine QG.pass_ret ?_
    rw [show sendR ch.abs part bs = (4, ch.abs) by unfold sendR; rw [if_neg (by exact not_not_intro hh.1), if_neg (by have := hh.2.1; exact Int.not_lt.2 this), if_neg (by exact not_not_intro hh.2.2.1), if_pos (by simp only [Chan.abs, End.bs, List.length_map]; exact hh.2.2.2)], set_self hac]
    exact QG.ret1 rfl rfl () trivial rfl (Imp.trans (by repeat (first | exact Imp.refl _ | exact Imp.none _ | apply Imp.pull (by repeat (first | exact Ext.here | apply Ext.there)) | apply Imp.trans Imp.drop)) (Imp.trans (by unfold CP; rw [hxa]; exact Imp.refl _) (cp_back hch hx)))
  · skip
    refine CG.region ?_
    refine OG.yield (Yield.move rfl) rfl ?_
    refine OG.yield (by first | exact Yield.ptr_nil Try.underlying87 rfl rfl | exact Yield.nil_nil Try.underlying87 rfl rfl) rfl ?_
    refine OG.yield (Yield.move rfl) rfl ?_
    refine OG.guard_yes rfl rfl rfl (by decide) ?_
    refine OG.yield (Yield.move rfl) rfl ?_
    refine OG.guard_yes rfl rfl rfl (by decide) ?_
    refine OG.yield (Yield.nilCheck rfl) rfl ?_
    refine OG.guard_yes rfl rfl rfl (by decide) ?_
    refine OG.yield (Yield.fieldAddr fa86_0 rfl) rfl ?_
    refine OG.guard_yes rfl rfl rfl (by decide) ?_
    refine OG.yield (Yield.fieldAddr fa47_1 rfl) rfl ?_
    refine OG.guard_yes rfl rfl rfl (by decide) ?_
    refine OG.yield (Yield.load (v := .int .i64 ch.from_) ti3 rfl (((SlR.of_osl (by repeat (first | exact Ext.here | apply Ext.there))).elem Chan.len hcs) 1 _ rfl)) rfl ?_
    refine OG.guard_yes rfl rfl rfl (by decide) ?_
    refine OG.yield (Yield.move rfl) rfl ?_
    refine OG.guard_yes rfl rfl rfl (by decide) ?_
    refine OG.yield (by first | exact Yield.as (Yield.neq rfl rfl) (bT (by omega)) | exact Yield.as (Yield.neq rfl rfl) (bF (by omega)) | exact Yield.neq rfl rfl) rfl ?_
    refine OG.yield (by first | exact Yield.pick_t rfl rfl | exact Yield.pick_f rfl rfl | exact Yield.pick rfl (fun _ => rfl) (fun _ => rfl)) rfl ?_
    refine OG.yield (Yield.assign rfl) rfl ?_
    refine OG.nil ?_
    refine QG.then ?_
    refine CG.cond_f rfl ?_
    refine CG.seq ?_
    refine CG.region ?_
    refine OG.yield (Yield.move rfl) rfl ?_
    refine OG.yield (Yield.len_slice Try.underlying49 rfl rfl) rfl ?_
    refine OG.yield (Yield.move rfl) rfl ?_
    refine OG.callo call46 rfl (Imp.refl _) (size_spec W0 _ (b := b) (o := o + n * 7) (sz := ch.size) (by exact ((SlR.of_osl (by repeat (first | exact Ext.here | apply Ext.there))).elem Chan.len hcs) 3 _ rfl)) rfl ?_
    rintro ⟨⟩ -
    refine OG.yield (by first | exact Yield.as (Yield.gtr rfl rfl) (bT (by omega)) | exact Yield.as (Yield.gtr rfl rfl) (bF (by omega)) | exact Yield.gtr rfl rfl) rfl ?_
    refine OG.yield (Yield.assign rfl) rfl ?_
    refine OG.nil ?_
    refine QG.then ?_
    refine CG.cond_f rfl ?_
    refine CG.seq ?_
    refine CG.region ?_
    refine OG.yield (Yield.move rfl) rfl ?_
    refine OG.yield (Yield.nilCheck rfl) rfl ?_
    refine OG.yield (Yield.fieldAddr fa86_0 rfl) rfl ?_
    refine OG.yield (Yield.fieldAddr fa47_0 rfl) rfl ?_
    refine OG.yield (Yield.load (v := .int .i64 ch.kind) ti3 rfl (((SlR.of_osl (by repeat (first | exact Ext.here | apply Ext.there))).elem Chan.len hcs) 0 _ rfl)) rfl ?_
    refine OG.yield (by first | exact Yield.as (Yield.neq rfl rfl) (bT (by omega)) | exact Yield.as (Yield.neq rfl rfl) (bF (by omega)) | exact Yield.neq rfl rfl) rfl ?_
    refine OG.yield (Yield.assign rfl) rfl ?_
    refine OG.nil ?_
    refine QG.then ?_
    refine CG.cond_f rfl ?_
    refine CG.seq ?_
    refine CG.draw (.look 0 0 (.look 1 0 (.look 2 0 (.look 3 0 (.look 4 0 (.look 5 0 (.look 6 1 (.eff1 7 false (.look 8 1 (.look 9 1 (.done))))))))))) [7] [] ([osl 86 7 (some ⟨b, o, none⟩) x.c x.chs.length (((x.chs.set n ch).map Chan.cells).flatten)]) ([]) mixed (by kernel_rfl) ((by repeat (first | exact Imp.refl _ | exact Imp.none _ | apply Imp.pull (by repeat (first | exact Ext.here | apply Ext.there)) | apply Imp.trans Imp.drop))) (Imp.none _) ?_
    refine DG.look rfl rfl (Yield.move rfl) rfl ?_
    refine DG.look rfl rfl (Yield.nilCheck rfl) rfl ?_
    refine DG.look rfl rfl (Yield.fieldAddr fa86_1 rfl) rfl ?_
    refine DG.look rfl rfl (Yield.fieldAddr fa84_0 rfl) rfl ?_
    refine DG.look rfl rfl (Yield.load (v := ch.s.cell) ti65 rfl (((SlR.of_osl Ext.here).elem Chan.len hcs) 5 _ rfl)) rfl ?_
    refine DG.look rfl rfl (Yield.len_slice (a := ch.s.a) (m := ch.s.ms.length) (c := ch.s.c) Try.underlying65 rfl rfl) rfl ?_
    refine DG.look rfl rfl (Yield.move rfl) rfl ?_
    refine DG.eff1 ?_
    refine Chg.callo rfl rfl call48 rfl (Imp.refl _) (depth_spec W0 _ (b := b) (o := o + n * 7) (kd := ch.kind) (d := ch.depth) (by exact ((SlR.of_osl (by repeat (first | exact Ext.here | apply Ext.there))).elem Chan.len hcs) 0 _ rfl) (by exact ((SlR.of_osl (by repeat (first | exact Ext.here | apply Ext.there))).elem Chan.len hcs) 4 _ rfl)) rfl (fun _ => (by repeat (first | exact Imp.refl _ | exact Imp.none _ | apply Imp.pull (by repeat (first | exact Ext.here | apply Ext.there)) | apply Imp.trans Imp.drop))) (fun _ => Imp.refl _) (fun _ => (by repeat (first | exact Imp.refl _ | exact Imp.none _ | apply Imp.pull (by repeat (first | exact Ext.here | apply Ext.there)) | apply Imp.trans Imp.drop))) ?_
    rintro ⟨⟩ -
    refine DG.look rfl rfl (by first | exact Yield.as (Yield.geq rfl rfl) (bT (by omega)) | exact Yield.as (Yield.geq rfl rfl) (bF (by omega)) | exact Yield.geq rfl rfl) rfl ?_
    refine DG.look rfl rfl (Yield.assign rfl) rfl ?_
    refine DG.done ?_
    refine QG.then ?_
    refine CG.cond_f rfl ?_
    refine CG.skip ?_
    refine QG.block_normal ?_
    refine QG.then ?_
    refine CG.seq ?_
    refine CG.draw (.look 0 0 (.look 1 0 (.look 2 0 (.look 3 0 (.look 4 0 (.look 5 2 (.look 6 1 (.eff1 7 false (.eff1 8 false (.eff1 9 false (.look 10 1 (.look 11 1 (.look 12 1 (.eff1 13 true (.done))))))))))))))) [7, 8, 9, 13] [5] ([]) ([osl 86 7 (some ⟨b, o, none⟩) x.c x.chs.length (((x.chs.set n ch).map Chan.cells).flatten)]) mixed (by kernel_rfl) (Imp.none _) ((by repeat (first | exact Imp.refl _ | exact Imp.none _ | apply Imp.pull (by repeat (first | exact Ext.here | apply Ext.there)) | apply Imp.trans Imp.drop))) ?_
    refine DG.look rfl rfl (Yield.move rfl) rfl ?_
    refine DG.look rfl rfl (Yield.move rfl) rfl ?_
    refine DG.look rfl rfl (Yield.nilCheck rfl) rfl ?_
    refine DG.look rfl rfl (Yield.fieldAddr fa86_1 rfl) rfl ?_
    refine DG.look rfl rfl (Yield.fieldAddr fa84_0 rfl) rfl ?_
    refine DG.look rfl rfl (Yield.load (v := ch.s.cell) ti65 rfl (((SlR.of_osl Ext.here).elem Chan.len hcs) 5 _ rfl)) rfl ?_
    refine DG.look rfl rfl (Yield.move rfl) rfl ?_
    refine DG.eff1 ?_
    refine Chg.callo rfl rfl call47 rfl (Imp.refl _) (own_spec W0 _ (a := a) (c := c) (bs := bs) (by exact hr.imp (by repeat (first | exact Imp.refl _ | exact Imp.none _ | apply Imp.pull (by repeat (first | exact Ext.here | apply Ext.there)) | apply Imp.trans Imp.drop))) hb) rfl (fun _ => (by repeat (first | exact Imp.refl _ | exact Imp.none _ | apply Imp.pull (by repeat (first | exact Ext.here | apply Ext.there)) | apply Imp.trans Imp.drop))) (fun _ => Imp.refl _) (fun _ => (by repeat (first | exact Imp.refl _ | exact Imp.none _ | apply Imp.pull (by repeat (first | exact Ext.here | apply Ext.there)) | apply Imp.trans Imp.drop))) ?_
    rintro bm -
    refine DG.eff1 ?_
    refine Chg.eff rfl rfl (Eff.lit1 Try.underlying65 ti49 rfl rfl rfl) rfl (fun _ => (by repeat (first | exact Imp.refl _ | exact Imp.none _ | apply Imp.pull (by repeat (first | exact Ext.here | apply Ext.there)) | apply Imp.trans Imp.drop))) (fun _ => Imp.refl _) (fun _ => (by repeat (first | exact Imp.refl _ | exact Imp.none _ | apply Imp.pull (by repeat (first | exact Ext.here | apply Ext.there)) | apply Imp.trans Imp.drop))) ?_
    rintro b63 -
    refine DG.eff1 ?_
    refine Chg.eff rfl rfl (Eff.append (a := ch.s.a) (c := ch.s.c) (k := 1) (ys := [Msg.cell ⟨some ⟨bm, 0, none⟩, bs.length, bs⟩]) rfl rfl rfl Try.underlying65 Try.underlying65 ti49 rfl (by decide) (by repeat (first | exact Foc.here | apply Foc.there)) (SlR.of_osl (a := some ⟨b63, 0, none⟩) (by repeat (first | exact Ext.here | apply Ext.there))) (by simp [one, Msg.cell]) (by omega)) rfl (fun _ => (by repeat (first | exact Imp.refl _ | exact Imp.none _ | apply Imp.pull (by repeat (first | exact Ext.here | apply Ext.there)) | apply Imp.trans Imp.drop))) (fun _ => Imp.refl _) (fun _ => (by repeat (first | exact Imp.refl _ | exact Imp.none _ | apply Imp.pull (by repeat (first | exact Ext.here | apply Ext.there)) | apply Imp.trans Imp.drop))) ?_
    rintro ⟨a64, c64⟩ -
    refine DG.look rfl rfl (Yield.nilCheck rfl) rfl ?_
    refine DG.look rfl rfl (Yield.fieldAddr fa86_1 rfl) rfl ?_
    refine DG.look rfl rfl (Yield.fieldAddr fa84_0 rfl) rfl ?_
    refine DG.eff1 ?_
    refine Chg.eff rfl rfl (Eff.storeFld (i := n) 5 (r := ch) (r' := { ch with s := ⟨a64, c64, ch.s.ms ++ [⟨some ⟨bm, 0, none⟩, bs.length, bs⟩]⟩ }) (rs := x.chs.set n ch) Chan.len hcs (by simp [Chan.cells, End.cell]) (by decide) ti65 rfl rfl (by repeat (first | exact Foc.here | apply Foc.there)) rfl (by rw [List.length_set])) rfl (fun _ => (by repeat (first | exact Imp.refl _ | exact Imp.none _ | apply Imp.pull (by repeat (first | exact Ext.here | apply Ext.there)) | apply Imp.trans Imp.drop))) (fun _ => Imp.refl _) (fun _ => (by repeat (first | exact Imp.refl _ | exact Imp.none _ | apply Imp.pull (by repeat (first | exact Ext.here | apply Ext.there)) | apply Imp.trans Imp.drop))) ?_
    rintro ⟨⟩ -
    refine DG.done ?_
    refine QG.then ?_
    refine CG.seq ?_
    refine CG.region ?_
    refine OG.yield (Yield.assign rfl) rfl ?_
    refine OG.nil ?_
    refine QG.then ?_
    refine CG.ret ?_
    rw [show sendR ch.abs part bs = (0, { ch.abs with s := ch.abs.s ++ [bs] }) by unfold sendR; rw [if_neg (by exact not_not_intro hh.1), if_neg (by have := hh.2.1; exact Int.not_lt.2 this), if_neg (by exact not_not_intro hh.2.2.1), if_neg (by simp only [Chan.abs, End.bs, List.length_map]; exact Int.not_le.2 hh.2.2.2)]]
    have hd8 : dep ch.kind ch.depth ≤ 8 := by unfold dep; split <;> omega
    have hc := cp_close (p := p) (ms := [⟨some ⟨bm, 0, none⟩, bs.length, bs⟩]) (ch := { ch with s := ⟨a64, c64, ch.s.ms ++ [⟨some ⟨bm, 0, none⟩, bs.length, bs⟩]⟩ }) (G := Fr) hch hx ⟨by simp only [Chan.abs, End.bs, List.length_map, List.length_append, List.length_cons, List.length_nil]; omega, hok.r, fun m hm => by simp only [Chan.abs, End.bs, List.map_append, List.map_cons, List.map_nil, List.mem_append, List.mem_cons, List.not_mem_nil, or_false] at hm; rcases hm with hm | rfl; exact hok.sl m hm; omega, hok.rl⟩ (fun m hm => by rcases hm with hm | hm; (rcases List.mem_append.1 hm with hm | hm; exact List.mem_append.2 (.inr (hmem m (.inl hm))); exact List.mem_append.2 (.inl hm)); exact List.mem_append.2 (.inr (hmem m (.inr hm))))
    rw [show Chan.abs { ch with s := ⟨a64, c64, ch.s.ms ++ [⟨some ⟨bm, 0, none⟩, bs.length, bs⟩]⟩ } = { ch.abs with s := ch.abs.s ++ [bs] } by simp [Chan.abs, End.bs]] at hc
    unfold CP at hc
    rw [hxa, List.set_set] at *
    refine QG.ret1 rfl rfl () trivial rfl (Imp.trans ?_ hc)
    refine Imp.trans ?_ (Imp.cons (Imp.cons (Imp.cons (Imp.cons (Imp.cons (pool_one (m := ⟨some ⟨bm, 0, none⟩, bs.length, bs⟩)))))))
    dsimp only
    rw [show oend ⟨a64, c64, ch.s.ms ++ [⟨some ⟨bm, 0, none⟩, bs.length, bs⟩]⟩ = osl 49 1 a64 c64 (ch.s.ms.length + 1) (ch.s.ms.map Msg.cell ++ [Msg.cell ⟨some ⟨bm, 0, none⟩, bs.length, bs⟩]) by unfold oend; rw [List.length_append, List.map_append]; rfl]
    exact (by repeat (first | exact Imp.refl _ | exact Imp.none _ | apply Imp.pull (by repeat (first | exact Ext.here | apply Ext.there)) | apply Imp.trans Imp.drop))
end
end Go.Proofs.Ytjigjbcdopmeeaa.Po
