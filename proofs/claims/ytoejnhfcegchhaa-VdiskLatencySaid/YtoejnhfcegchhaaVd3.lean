/- vdisk.Disk: Ready, Waiting, Told, Clone. -/
import Derived.Test.YtoejnhfcegchhaaVd2
namespace Go.Proofs.Ytoejnhfcegchhaa.Vd
open Go Go.Sl Go.RowKit Go.Proofs Go.Proofs.Ytoejnhfcegchhaa.T Go.Proofs.Ytoejnhfcegchhaa.Ms
set_option linter.unusedVariables false
set_option linter.unusedSimpArgs false
set_option maxRecDepth 100000
/-- A request that is over. -/
structure Dn where
  tag : Int
  write : Bool
  addr : Int
  data : B
structure CD where
  tag : Int
  write : Bool
  addr : Int
  m : Msg
def CD.cells (r : CD) : List Value := [.int .u32 r.tag, .bool r.write, .int .u32 r.addr, r.m.cell]
def CD.abs (r : CD) : Dn := ⟨r.tag, r.write, r.addr, r.m.b⟩
theorem CD.len (r : CD) : r.cells.length = 4 := rfl
theorem CD.ones (r : CD) : ∀ v ∈ r.cells, one v = true := by simp [CD.cells, one, Msg.cell]
abbrev odone (a : Option Addr) (c : Nat) (l : List CD) : HProp := osl 38 4 a c l.length ((l.map CD.cells).flatten)
structure Dns where
  l : List CD
  a : Option Addr
  c : Nat
def Dns.ms (r : Dns) : List Msg := r.l.map CD.m
abbrev Dns.G (r : Dns) : List HProp := [odone r.a r.c r.l, pool r.ms]
def Dns.cell (r : Dns) : Value := .slice r.a r.l.length r.c
def over (major : Int) (a : Ak) : Bool := decide (a.st = 2) && decide (a.due ≤ major)
theorem over_no1 {major : Int} {a : Ak} (h : a.st ≠ 2) : over major a = false := by unfold over; rw [decide_eq_false h, Bool.false_and]
theorem over_no2 {major : Int} {a : Ak} (h : major < a.due) : over major a = false := by unfold over; rw [decide_eq_false (p := a.due ≤ major) (by omega), Bool.and_false]
theorem over_yes {major : Int} {a : Ak} (h : a.st = 2) (h2 : a.due ≤ major) : over major a = true := by unfold over; rw [decide_eq_true h, decide_eq_true h2]; rfl
def done (a : Ak) : Dn := ⟨a.tag, a.write, a.addr, if a.write then [] else a.data⟩
def rdyL (s : Ds) (major : Int) : List Dn := (s.asks.filter (over major)).map done
def rdyS (s : Ds) (major : Int) : Ds := { s with asks := s.asks.filter (fun a => !over major a), told := (s.asks.filter (over major)).map Ak.tag }
structure Rt where
  i : Nat
  out : Dns
  rest : List CA
  ra : Option Addr
  rc : Nat
  told : List Int
  ta : Option Addr
  tc : Nat
structure Rt.OK (s : Ds) (major : Int) (pl : List Msg) (t : Rt) : Prop where
  le : t.i ≤ s.asks.length
  out : t.out.l.map CD.abs = ((s.asks.take t.i).filter (over major)).map done
  outl : t.out.l.length ≤ t.i
  rest : t.rest.map CA.abs = (s.asks.take t.i).filter (fun a => !over major a)
  restl : t.rest.length ≤ t.i
  mem : ∀ a ∈ t.rest, a.m ∈ pl
  told : t.told = ((s.asks.take t.i).filter (over major)).map Ak.tag
  toldl : t.told.length ≤ t.i
theorem DC.OK.mems {x : DC} {s : Ds} (h : x.OK s) {n : Nat} {c : CA} (hc : x.cas[n]? = some c) : c.m ∈ x.pl := h.mem c (List.mem_of_getElem? hc)
section
variable (W0 : World) (Fr : List HProp)
set_option maxHeartbeats 2000000 in
theorem ready_spec {d : Nat} {s : Ds} (major : Int) : Ctr Try.prog W0 12 [.pointer (some ⟨d, 0, none⟩), .int .i64 major] (D d s :: Fr) (fun r : Dns => r.l.map CD.abs = rdyL s major) (fun r => r.cell) (fun r => r.G ++ (D d (rdyS s major) :: Fr)) := by
  refine Ctr.ex Ext.here d_open ?_
  intro x hx
  refine Ctr.imp star_open ?_
  have hln := hx.len
  have hok := hx.ok
  have hal := hx.ok.asks
  have hab := hx.abs
  dsimp only [DO, List.cons_append, List.nil_append]
  refine Ctr.of_body Try.func12 rfl Try.ntmps12 rfl ?_
  refine CG.seq ?_
  refine CG.region ?_
  refine OG.yield (Yield.assign rfl) rfl ?_
  refine OG.nil ?_
  refine QG.then ?_
  refine CG.seq ?_
  refine CG.region ?_
  refine OG.yield (Yield.assign rfl) rfl ?_
  refine OG.nil ?_
  refine QG.then ?_
  refine CG.seq ?_
  refine CG.region ?_
  refine OG.yield (Yield.assign rfl) rfl ?_
  refine OG.nil ?_
  refine QG.then ?_
  refine CG.seq ?_
  refine CG.region ?_
  refine OG.yield (Yield.move rfl) rfl ?_
  refine OG.yield (Yield.nilCheck rfl) rfl ?_
  refine OG.yield (Yield.fieldAddr fa84_6 rfl) rfl ?_
  refine OG.eff (Eff.store1 ti43 rfl rfl (by repeat (first | exact Foc.here | apply Foc.there)) rfl (by simp)) rfl ?_
  rintro ⟨⟩ -
  refine OG.nil ?_
  refine QG.then ?_
  refine CG.seq ?_
  refine CG.seq ?_
  refine CG.region ?_
  refine OG.yield (Yield.move rfl) rfl ?_
  refine OG.yield (Yield.nilCheck rfl) rfl ?_
  refine OG.yield (Yield.fieldAddr fa84_5 rfl) rfl ?_
  refine OG.yield (Yield.load ti82 rfl (by first | exact Cel.of_blk (by repeat (first | exact Ext.here | apply Ext.there)) rfl | exact (hrow (by repeat (first | exact Ext.here | apply Ext.there))) _ _ rfl)) rfl ?_
  refine OG.yield (Yield.len_slice Try.underlying82 rfl rfl) rfl ?_
  refine OG.yield (Yield.move rfl) rfl ?_
  refine OG.nil ?_
  refine QG.then ?_
  refine CG.block ?_
  refine CG.loop (fun t : Rt => t.OK s major x.pl) (fun t => [(0, .pointer (some ⟨d, 0, none⟩)), (1, .int .i64 major), (5, t.out.cell), (6, .slice t.ra t.rest.length t.rc), (16, .slice x.a x.cas.length x.c), (17, .int .i64 x.cas.length), (18, .int .i64 t.i)]) (fun t => DH d s s.last x.a x.cas.length x.c t.ta t.told.length t.tc :: oasks x.a x.c x.cas :: odone t.out.a t.out.c t.out.l :: pool t.out.ms :: oasks t.ra t.rc t.rest :: onum 35 .u32 t.ta t.tc t.told :: pool x.pl :: Fr) (fun t => x.cas.length - t.i) ⟨0, ⟨[], none, 0⟩, [], none, 0, [], none, 0⟩ ⟨Nat.zero_le _, rfl, Nat.le_refl _, rfl, Nat.le_refl _, fun a h => absurd h List.not_mem_nil, rfl, Nat.le_refl _⟩ (by repeat (first | exact Env.sub_nil _ | refine Env.sub_cons rfl ?_)) (Imp.trans pool_nil (Imp.trans (osl_nil (E := 35) (sz := 1)) (Imp.trans (osl_nil (E := 86) (sz := 7)) (Imp.trans (osl_nil (E := 38) (sz := 4)) (Imp.pull (by repeat (first | exact Ext.here | apply Ext.there)) (Imp.pull (A := oasks x.a x.c x.cas) (by repeat (first | exact Ext.here | apply Ext.there)) (Imp.pull (A := odone none 0 []) (by repeat (first | exact Ext.here | apply Ext.there)) (Imp.pull (A := pool []) (by repeat (first | exact Ext.here | apply Ext.there)) (Imp.pull (A := oasks none 0 []) (by repeat (first | exact Ext.here | apply Ext.there)) (Imp.pull (A := onum 35 .u32 none 0 []) (by repeat (first | exact Ext.here | apply Ext.there)) (Imp.pull (A := pool x.pl) (by repeat (first | exact Ext.here | apply Ext.there)) (by repeat (first | exact Imp.refl _ | exact Imp.none _ | apply Imp.pull (by repeat (first | exact Ext.here | apply Ext.there)) | apply Imp.trans Imp.drop))))))))))))) ?_
  rintro ⟨i, ⟨l, la, lc⟩, rest, ra, rc, told, ta, tc⟩ ⟨hi, hout, hol, hrest, hrl, hmem, htold, htl⟩
  dsimp only at hi hout hol hrest hrl hmem htold htl ⊢
  refine CG.seq ?_
  refine CG.region ?_
  refine OG.yield (by first | exact Yield.as (Yield.lss rfl rfl) (bT (by omega)) | exact Yield.as (Yield.lss rfl rfl) (bF (by omega)) | exact Yield.lss rfl rfl) rfl ?_
  refine OG.nil ?_
  refine QG.then ?_
  refine CG.seq ?_
  refine CG.cond rfl (fun hc => ?_) (fun hc => ?_)
  · try replace hc := of_decide_eq_true hc
    have hi' : i < x.cas.length := by omega
    have hgc : x.cas[i]? = some x.cas[i] := by simp [hi']
    generalize x.cas[i] = ca at hgc
    have hget : s.asks[i]? = some ca.abs := by rw [← hab, List.getElem?_map, hgc]; rfl
    have hdat := hok.data _ (List.mem_of_getElem? hget)
    have hcm := hx.mems hgc
    have htk : s.asks.take (i + 1) = s.asks.take i ++ [ca.abs] := by obtain ⟨hlt, hq⟩ := List.getElem?_eq_some_iff.1 hget; rw [List.take_succ_eq_append_getElem hlt, hq]
    refine CG.pure (fun w hw => shape_as (n := i) (l := x.cas) (by omega) (Ext.there Ext.here) w hw) ?_
    rintro ⟨b, o, hxa⟩
    rw [hxa]
    refine CG.skip ?_
    refine QG.then ?_
    refine CG.seq ?_
    refine CG.block ?_
    refine CG.seq ?_
    refine CG.region ?_
    refine OG.yield (Yield.index_slice Try.underlying82 ti86 rfl rfl (by omega) (by omega)) rfl ?_
    refine OG.yield (Yield.load_agg (vs := ca.cells) ti86 rfl (CA.len ca) (by rw [show o + (i : Int).toNat * 7 = o + i * 7 by omega]; exact (SlR.of_osl (E := 86) (a := some ⟨b, o, none⟩) (by repeat (first | exact Ext.here | apply Ext.there))).elem CA.len hgc)) rfl ?_
    refine OG.effd (Eff.alloc ti86) rfl ?_
    rintro b8 -
    refine OG.eff (Eff.storeAll ti86 rfl rfl (by repeat (first | exact Foc.here | apply Foc.there)) (CA.len ca) (CA.ones ca) rfl) rfl ?_
    rintro ⟨⟩ -
    refine OG.nil ?_
    refine QG.then ?_
    refine CG.seq ?_
    refine CG.seq ?_
    rcases (show ca.st ≠ 2 ∨ (ca.st = 2 ∧ major < ca.due) ∨ (ca.st = 2 ∧ ca.due ≤ major) by omega) with hh | hh | hh
    · skip
      have hov : over major ca.abs = false := over_no1 (a := ca.abs) hh
      refine CG.region ?_
      refine OG.yield (Yield.fieldAddr fa86_6 rfl) rfl ?_
      refine OG.yield (Yield.load (v := .int .i64 ca.st) ti3 rfl (Cel.of_blk (b := b8) (by repeat (first | exact Ext.here | apply Ext.there)) rfl)) rfl ?_
      refine OG.yield (Yield.as (Yield.neq rfl rfl) (bT hh)) rfl ?_
      refine OG.yield (Yield.move rfl) rfl ?_
      refine OG.guard_no rfl rfl rfl rfl rfl (by decide) (by decide) ?_
      refine OG.guard_no rfl rfl rfl rfl rfl (by decide) (by decide) ?_
      refine OG.guard_no rfl rfl rfl rfl rfl (by decide) (by decide) ?_
      refine OG.guard_no rfl rfl rfl rfl rfl (by decide) (by decide) ?_
      refine OG.yield (by first | exact Yield.pick_t rfl rfl | exact Yield.pick_f rfl rfl | exact Yield.pick rfl (fun _ => rfl) (fun _ => rfl)) rfl ?_
      refine OG.nil ?_
      refine QG.then ?_
      refine CG.cond_t rfl ?_
      refine CG.seq ?_
      refine CG.region ?_
      refine OG.yield (Yield.move rfl) rfl ?_
      refine OG.yield (Yield.load_agg (vs := ca.cells) ti86 rfl (CA.len ca) (Row.of_blk (b := b8) (by repeat (first | exact Ext.here | apply Ext.there)) rfl)) rfl ?_
      refine OG.effd (Eff.lit [.tmp 32] (vs := [.agg ca.cells.toArray]) (cells := ca.cells) Try.underlying82 ti86 rfl rfl rfl rfl (by decide) (by simp [Value.cells, CA.cells]) (by simp [Value.cells])) rfl ?_
      rintro b33 -
      refine OG.effd (Eff.append (a := ra) (c := rc) (m := rest.length) (xs := (rest.map CA.cells).flatten) (k := 1) (ys := ca.cells) rfl rfl rfl Try.underlying82 Try.underlying82 ti86 rfl (by decide) (by repeat (first | exact Foc.here | apply Foc.there)) (SlR.of_osl (a := some ⟨b33, 0, none⟩) (by repeat (first | exact Ext.here | apply Ext.there))) (CA.ones _) (by omega)) rfl ?_
      rintro ⟨a34, c34⟩ -
      refine OG.yield (Yield.assign rfl) rfl ?_
      refine OG.nil ?_
      refine QG.then ?_
      refine CG.exit ?_
      refine QG.pass_exit ?_
      refine QG.block_exit ?_
      refine QG.then ?_
      refine CG.region ?_
      refine OG.yield (Yield.add rfl rfl (w64 (by omega) (by omega))) rfl ?_
      refine OG.yield (Yield.move rfl) rfl ?_
      refine OG.nil ?_
      refine QG.next ⟨i + 1, ⟨l, la, lc⟩, rest ++ [ca], a34, c34, told, ta, tc⟩ ⟨by simp only; omega, by dsimp only; rw [htk, List.filter_append, List.map_append, hout]; simp [hov], by simp only; omega, by dsimp only; rw [htk, List.filter_append, List.map_append, hrest]; simp [hov], by simp only [List.length_append, List.length_cons, List.length_nil]; omega, fun a ha => by rcases List.mem_append.1 ha with ha | ha; exact hmem a ha; (simp only [List.mem_cons, List.not_mem_nil, or_false] at ha; subst ha; exact hcm), by dsimp only; rw [htk, List.filter_append, List.map_append, htold]; simp [hov], by simp only; omega⟩ (show x.cas.length - (i + 1) < x.cas.length - i by omega) (by dsimp only; rw [List.length_append]; exact (by repeat (first | exact Env.sub_nil _ | refine Env.sub_cons rfl ?_))) (by dsimp only [oasks]; rw [List.length_append, flat_app]; exact (by repeat (first | exact Imp.refl _ | exact Imp.none _ | apply Imp.pull (by repeat (first | exact Ext.here | apply Ext.there)) | apply Imp.trans Imp.drop)))
    · skip
      have hov : over major ca.abs = false := over_no2 (a := ca.abs) hh.2
      refine CG.region ?_
      refine OG.yield (Yield.fieldAddr fa86_6 rfl) rfl ?_
      refine OG.yield (Yield.load (v := .int .i64 ca.st) ti3 rfl (Cel.of_blk (b := b8) (by repeat (first | exact Ext.here | apply Ext.there)) rfl)) rfl ?_
      refine OG.yield (Yield.as (Yield.neq rfl rfl) (bF (not_not_intro hh.1))) rfl ?_
      refine OG.yield (Yield.move rfl) rfl ?_
      refine OG.guard_yes rfl rfl rfl (by decide) ?_
      refine OG.yield (Yield.move rfl) rfl ?_
      refine OG.guard_yes rfl rfl rfl (by decide) ?_
      refine OG.yield (Yield.fieldAddr fa86_5 rfl) rfl ?_
      refine OG.guard_yes rfl rfl rfl (by decide) ?_
      refine OG.yield (Yield.load (v := .int .i64 ca.due) ti3 rfl (Cel.of_blk (b := b8) (by repeat (first | exact Ext.here | apply Ext.there)) rfl)) rfl ?_
      refine OG.guard_yes rfl rfl rfl (by decide) ?_
      refine OG.yield (by first | exact Yield.as (Yield.lss rfl rfl) (bT (by omega)) | exact Yield.as (Yield.lss rfl rfl) (bF (by omega)) | exact Yield.lss rfl rfl) rfl ?_
      refine OG.yield (by first | exact Yield.pick_t rfl rfl | exact Yield.pick_f rfl rfl | exact Yield.pick rfl (fun _ => rfl) (fun _ => rfl)) rfl ?_
      refine OG.nil ?_
      refine QG.then ?_
      refine CG.cond_t rfl ?_
      refine CG.seq ?_
      refine CG.region ?_
      refine OG.yield (Yield.move rfl) rfl ?_
      refine OG.yield (Yield.load_agg (vs := ca.cells) ti86 rfl (CA.len ca) (Row.of_blk (b := b8) (by repeat (first | exact Ext.here | apply Ext.there)) rfl)) rfl ?_
      refine OG.effd (Eff.lit [.tmp 32] (vs := [.agg ca.cells.toArray]) (cells := ca.cells) Try.underlying82 ti86 rfl rfl rfl rfl (by decide) (by simp [Value.cells, CA.cells]) (by simp [Value.cells])) rfl ?_
      rintro b33 -
      refine OG.effd (Eff.append (a := ra) (c := rc) (m := rest.length) (xs := (rest.map CA.cells).flatten) (k := 1) (ys := ca.cells) rfl rfl rfl Try.underlying82 Try.underlying82 ti86 rfl (by decide) (by repeat (first | exact Foc.here | apply Foc.there)) (SlR.of_osl (a := some ⟨b33, 0, none⟩) (by repeat (first | exact Ext.here | apply Ext.there))) (CA.ones _) (by omega)) rfl ?_
      rintro ⟨a34, c34⟩ -
      refine OG.yield (Yield.assign rfl) rfl ?_
      refine OG.nil ?_
      refine QG.then ?_
      refine CG.exit ?_
      refine QG.pass_exit ?_
      refine QG.block_exit ?_
      refine QG.then ?_
      refine CG.region ?_
      refine OG.yield (Yield.add rfl rfl (w64 (by omega) (by omega))) rfl ?_
      refine OG.yield (Yield.move rfl) rfl ?_
      refine OG.nil ?_
      refine QG.next ⟨i + 1, ⟨l, la, lc⟩, rest ++ [ca], a34, c34, told, ta, tc⟩ ⟨by simp only; omega, by dsimp only; rw [htk, List.filter_append, List.map_append, hout]; simp [hov], by simp only; omega, by dsimp only; rw [htk, List.filter_append, List.map_append, hrest]; simp [hov], by simp only [List.length_append, List.length_cons, List.length_nil]; omega, fun a ha => by rcases List.mem_append.1 ha with ha | ha; exact hmem a ha; (simp only [List.mem_cons, List.not_mem_nil, or_false] at ha; subst ha; exact hcm), by dsimp only; rw [htk, List.filter_append, List.map_append, htold]; simp [hov], by simp only; omega⟩ (show x.cas.length - (i + 1) < x.cas.length - i by omega) (by dsimp only; rw [List.length_append]; exact (by repeat (first | exact Env.sub_nil _ | refine Env.sub_cons rfl ?_))) (by dsimp only [oasks]; rw [List.length_append, flat_app]; exact (by repeat (first | exact Imp.refl _ | exact Imp.none _ | apply Imp.pull (by repeat (first | exact Ext.here | apply Ext.there)) | apply Imp.trans Imp.drop)))
    · skip
      have hov : over major ca.abs = true := over_yes (a := ca.abs) hh.1 hh.2
      refine CG.region ?_
      refine OG.yield (Yield.fieldAddr fa86_6 rfl) rfl ?_
      refine OG.yield (Yield.load (v := .int .i64 ca.st) ti3 rfl (Cel.of_blk (b := b8) (by repeat (first | exact Ext.here | apply Ext.there)) rfl)) rfl ?_
      refine OG.yield (Yield.as (Yield.neq rfl rfl) (bF (not_not_intro hh.1))) rfl ?_
      refine OG.yield (Yield.move rfl) rfl ?_
      refine OG.guard_yes rfl rfl rfl (by decide) ?_
      refine OG.yield (Yield.move rfl) rfl ?_
      refine OG.guard_yes rfl rfl rfl (by decide) ?_
      refine OG.yield (Yield.fieldAddr fa86_5 rfl) rfl ?_
      refine OG.guard_yes rfl rfl rfl (by decide) ?_
      refine OG.yield (Yield.load (v := .int .i64 ca.due) ti3 rfl (Cel.of_blk (b := b8) (by repeat (first | exact Ext.here | apply Ext.there)) rfl)) rfl ?_
      refine OG.guard_yes rfl rfl rfl (by decide) ?_
      refine OG.yield (by first | exact Yield.as (Yield.lss rfl rfl) (bT (by omega)) | exact Yield.as (Yield.lss rfl rfl) (bF (by omega)) | exact Yield.lss rfl rfl) rfl ?_
      refine OG.yield (by first | exact Yield.pick_t rfl rfl | exact Yield.pick_f rfl rfl | exact Yield.pick rfl (fun _ => rfl) (fun _ => rfl)) rfl ?_
      refine OG.nil ?_
      refine QG.then ?_
      refine CG.cond_f rfl ?_
      refine CG.skip ?_
      refine QG.then ?_
      refine CG.seq ?_
      refine CG.region ?_
      refine OG.yield (Yield.fieldAddr fa86_0 rfl) rfl ?_
      refine OG.yield (Yield.load (v := .int .u32 ca.tag) ti35 rfl (Cel.of_blk (b := b8) (by repeat (first | exact Ext.here | apply Ext.there)) rfl)) rfl ?_
      refine OG.yield (Yield.fieldAddr fa86_1 rfl) rfl ?_
      refine OG.yield (Yield.load (v := .bool ca.write) ti4 rfl (Cel.of_blk (b := b8) (by repeat (first | exact Ext.here | apply Ext.there)) rfl)) rfl ?_
      refine OG.yield (Yield.fieldAddr fa86_3 rfl) rfl ?_
      refine OG.yield (Yield.load (v := .int .u32 ca.addr) ti35 rfl (Cel.of_blk (b := b8) (by repeat (first | exact Ext.here | apply Ext.there)) rfl)) rfl ?_
      refine OG.yield (Yield.build (pvs := [(0, .int .u32 ca.tag), (1, .bool ca.write), (2, .int .u32 ca.addr)]) bu38 ti38 rfl (cells := CD.cells ⟨ca.tag, ca.write, ca.addr, Msg.nil⟩) rfl) rfl ?_
      refine OG.effd (Eff.alloc ti38) rfl ?_
      rintro b9 -
      refine OG.eff (Eff.storeAll ti38 rfl rfl (by repeat (first | exact Foc.here | apply Foc.there)) (CD.len ⟨ca.tag, ca.write, ca.addr, Msg.nil⟩) (CD.ones ⟨ca.tag, ca.write, ca.addr, Msg.nil⟩) rfl) rfl ?_
      rintro ⟨⟩ -
      refine OG.nil ?_
      refine QG.then ?_
      refine CG.cut (fun m : Msg => m.b = if ca.write then [] else ca.m.b) (fun _ => [(0, .pointer (some ⟨d, 0, none⟩)), (1, .int .i64 major), (5, .slice la l.length lc), (6, .slice ra rest.length rc), (8, .pointer (some ⟨b8, 0, none⟩)), (9, .pointer (some ⟨b9, 0, none⟩)), (16, .slice (some ⟨b, o, none⟩) x.cas.length x.c), (17, .int .i64 x.cas.length), (18, .int .i64 i)]) (fun m => blk b9 (CD.cells ⟨ca.tag, ca.write, ca.addr, m⟩) 38 :: m.own :: blk b8 ca.cells 86 :: DH d s s.last (some ⟨b, o, none⟩) x.cas.length x.c ta told.length tc :: oasks (some ⟨b, o, none⟩) x.c x.cas :: odone la lc l :: pool (l.map CD.m) :: oasks ra rc rest :: onum 35 .u32 ta tc told :: pool x.pl :: Fr) ?_ ?_
      · skip
        refine CG.seq ?_
        refine CG.region ?_
        refine OG.yield (Yield.fieldAddr fa86_1 rfl) rfl ?_
        refine OG.yield (Yield.load (v := .bool ca.write) ti4 rfl (Cel.of_blk (b := b8) (by repeat (first | exact Ext.here | apply Ext.there)) rfl)) rfl ?_
        refine OG.yield (Yield.not rfl) rfl ?_
        refine OG.nil ?_
        refine QG.then ?_
        refine CG.cond rfl (fun hc => ?_) (fun hc => ?_)
        · try replace hc := of_decide_eq_true hc
          have hwf : ca.write = false := by simpa using hc
          refine CG.region ?_
          refine OG.yield (Yield.fieldAddr fa86_4 rfl) rfl ?_
          refine OG.yield (Yield.load (v := ca.m.cell) ti36 rfl (Cel.of_blk (b := b8) (by repeat (first | exact Ext.here | apply Ext.there)) rfl)) rfl ?_
          refine OG.callo call38 rfl (Imp.refl _) (cloneB_spec W0 _ (a := ca.m.a) (c := ca.m.c) (bs := ca.m.b) (by exact pool_rd (ms := x.pl) (by repeat (first | exact Ext.here | apply Ext.there)) hcm) (by have h9 : (CA.abs ca).data = ca.m.b := rfl; rw [h9] at hdat; omega)) rfl ?_
          rintro m hm
          refine OG.yield (Yield.fieldAddr fa38_3 rfl) rfl ?_
          refine OG.eff (Eff.store1 ti36 rfl rfl (by repeat (first | exact Foc.here | apply Foc.there)) rfl (by rw [CD.len]; decide)) rfl ?_
          rintro ⟨⟩ -
          refine OG.nil ?_
          exact QG.mid m (by rw [hwf]; exact hm) (by repeat (first | exact Env.sub_nil _ | refine Env.sub_cons rfl ?_)) (by repeat (first | exact Imp.refl _ | exact Imp.none _ | apply Imp.pull (by repeat (first | exact Ext.here | apply Ext.there)) | apply Imp.trans Imp.drop))
        · try replace hc := of_decide_eq_false hc
          have hwt : ca.write = true := by simpa using hc
          refine CG.skip ?_
          exact QG.mid Msg.nil (by rw [hwt]; rfl) (by repeat (first | exact Env.sub_nil _ | refine Env.sub_cons rfl ?_)) (Imp.trans own_nil (by repeat (first | exact Imp.refl _ | exact Imp.none _ | apply Imp.pull (by repeat (first | exact Ext.here | apply Ext.there)) | apply Imp.trans Imp.drop)))
      rintro m hm
      refine CG.seq ?_
      refine CG.region ?_
      refine OG.yield (Yield.move rfl) rfl ?_
      refine OG.yield (Yield.load_agg (vs := CD.cells ⟨ca.tag, ca.write, ca.addr, m⟩) ti38 rfl (CD.len _) (Row.of_blk (b := b9) (by repeat (first | exact Ext.here | apply Ext.there)) rfl)) rfl ?_
      refine OG.effd (Eff.lit [.tmp 50] (vs := [.agg (CD.cells ⟨ca.tag, ca.write, ca.addr, m⟩).toArray]) (cells := CD.cells ⟨ca.tag, ca.write, ca.addr, m⟩) Try.underlying33 ti38 rfl rfl rfl rfl (by decide) (by simp [Value.cells, CD.cells]) (by simp [Value.cells])) rfl ?_
      rintro b51 -
      refine OG.effd (Eff.append (a := la) (c := lc) (m := l.length) (xs := (l.map CD.cells).flatten) (k := 1) (ys := CD.cells ⟨ca.tag, ca.write, ca.addr, m⟩) rfl rfl rfl Try.underlying33 Try.underlying33 ti38 rfl (by decide) (by repeat (first | exact Foc.here | apply Foc.there)) (SlR.of_osl (a := some ⟨b51, 0, none⟩) (by repeat (first | exact Ext.here | apply Ext.there))) (CD.ones _) (by omega)) rfl ?_
      rintro ⟨a52, c52⟩ -
      refine OG.yield (Yield.assign rfl) rfl ?_
      refine OG.nil ?_
      refine QG.then ?_
      refine CG.draw (.look 0 0 (.look 1 0 (.look 2 0 (.look 3 0 (.look 4 2 (.look 5 1 (.look 6 1 (.eff1 7 false (.eff1 8 false (.look 9 1 (.look 10 1 (.eff1 11 true (.done))))))))))))) [7, 8, 11] [4] ([]) ([DH d s s.last (some ⟨b, o, none⟩) x.cas.length x.c ta told.length tc]) mixed (by kernel_rfl) (Imp.none _) ((by repeat (first | exact Imp.refl _ | exact Imp.none _ | apply Imp.pull (by repeat (first | exact Ext.here | apply Ext.there)) | apply Imp.trans Imp.drop))) ?_
      refine DG.look rfl rfl (Yield.move rfl) rfl ?_
      refine DG.look rfl rfl (Yield.move rfl) rfl ?_
      refine DG.look rfl rfl (Yield.nilCheck rfl) rfl ?_
      refine DG.look rfl rfl (Yield.fieldAddr fa84_6 rfl) rfl ?_
      refine DG.look rfl rfl (Yield.load (v := .slice ta told.length tc) ti43 rfl (Cel.of_blk (b := d) (by repeat (first | exact Ext.here | apply Ext.there)) rfl)) rfl ?_
      refine DG.look rfl rfl (Yield.fieldAddr fa86_0 rfl) rfl ?_
      refine DG.look rfl rfl (Yield.load (v := .int .u32 ca.tag) ti35 rfl (Cel.of_blk (b := b8) (by repeat (first | exact Ext.here | apply Ext.there)) rfl)) rfl ?_
      refine DG.eff1 ?_
      refine Chg.eff rfl rfl (Eff.lit1 Try.underlying43 ti35 rfl rfl rfl) rfl (fun _ => (by repeat (first | exact Imp.refl _ | exact Imp.none _ | apply Imp.pull (by repeat (first | exact Ext.here | apply Ext.there)) | apply Imp.trans Imp.drop))) (fun _ => Imp.refl _) (fun _ => (by repeat (first | exact Imp.refl _ | exact Imp.none _ | apply Imp.pull (by repeat (first | exact Ext.here | apply Ext.there)) | apply Imp.trans Imp.drop))) ?_
      rintro b60 -
      refine DG.eff1 ?_
      refine Chg.eff rfl rfl (Eff.append (a := ta) (c := tc) (m := told.length) (xs := intsV .u32 told) (k := 1) (ys := [.int .u32 ca.tag]) rfl rfl rfl Try.underlying43 Try.underlying43 ti35 rfl (by decide) (by repeat (first | exact Foc.here | apply Foc.there)) (SlR.of_osl (a := some ⟨b60, 0, none⟩) (by repeat (first | exact Ext.here | apply Ext.there))) (by simp [one]) (by omega)) rfl (fun _ => (by repeat (first | exact Imp.refl _ | exact Imp.none _ | apply Imp.pull (by repeat (first | exact Ext.here | apply Ext.there)) | apply Imp.trans Imp.drop))) (fun _ => Imp.refl _) (fun _ => (by repeat (first | exact Imp.refl _ | exact Imp.none _ | apply Imp.pull (by repeat (first | exact Ext.here | apply Ext.there)) | apply Imp.trans Imp.drop))) ?_
      rintro ⟨a61, c61⟩ -
      refine DG.look rfl rfl (Yield.nilCheck rfl) rfl ?_
      refine DG.look rfl rfl (Yield.fieldAddr fa84_6 rfl) rfl ?_
      refine DG.eff1 ?_
      refine Chg.eff rfl rfl (Eff.store1 ti43 rfl rfl (by repeat (first | exact Foc.here | apply Foc.there)) rfl (by simp)) rfl (fun _ => (by repeat (first | exact Imp.refl _ | exact Imp.none _ | apply Imp.pull (by repeat (first | exact Ext.here | apply Ext.there)) | apply Imp.trans Imp.drop))) (fun _ => Imp.refl _) (fun _ => (by repeat (first | exact Imp.refl _ | exact Imp.none _ | apply Imp.pull (by repeat (first | exact Ext.here | apply Ext.there)) | apply Imp.trans Imp.drop))) ?_
      rintro ⟨⟩ -
      refine DG.done ?_
      refine QG.block_normal ?_
      refine QG.then ?_
      refine CG.region ?_
      refine OG.yield (Yield.add rfl rfl (w64 (by omega) (by omega))) rfl ?_
      refine OG.yield (Yield.move rfl) rfl ?_
      refine OG.nil ?_
      refine QG.next ⟨i + 1, ⟨l ++ [⟨ca.tag, ca.write, ca.addr, m⟩], a52, c52⟩, rest, ra, rc, told ++ [ca.tag], a61, c61⟩ ⟨?_, ?_, ?_, ?_, ?_, hmem, ?_, ?_⟩ (show x.cas.length - (i + 1) < x.cas.length - i by omega) (by dsimp only [Dns.cell]; rw [List.length_append]; exact (by repeat (first | exact Env.sub_nil _ | refine Env.sub_cons rfl ?_))) ?_
      · simp only; omega
      · dsimp only; rw [htk, List.filter_append, List.map_append, List.map_append, hout, show [ca.abs].filter (over major) = [ca.abs] by simp [hov]]; simp [CD.abs, done, CA.abs, hm]
      · simp only [List.length_append, List.length_cons, List.length_nil]; omega
      · dsimp only; rw [htk, List.filter_append, hrest]; simp [hov]
      · simp only; omega
      · dsimp only; rw [htk, List.filter_append, List.map_append, htold, show [ca.abs].filter (over major) = [ca.abs] by simp [hov]]; rfl
      · simp only [List.length_append, List.length_cons, List.length_nil]; omega
      · dsimp only [Dns.ms, odone]
        rw [show (l ++ [(⟨ca.tag, ca.write, ca.addr, m⟩ : CD)]).length = l.length + 1 by simp, flat_app, List.map_append, onum_app, show (told ++ [ca.tag]).length = told.length + 1 by simp]
        exact Imp.trans (Imp.trans (Imp.pull (A := m.own) (by repeat (first | exact Ext.here | apply Ext.there)) (Imp.pull (A := pool (l.map CD.m)) (by repeat (first | exact Ext.here | apply Ext.there)) (Imp.refl _))) pool_add) (by repeat (first | exact Imp.refl _ | exact Imp.none _ | apply Imp.pull (by repeat (first | exact Ext.here | apply Ext.there)) | apply Imp.trans Imp.drop))
  · try replace hc := of_decide_eq_false hc
    refine CG.exit ?_
    refine QG.pass_exit ?_
    refine QG.pass_exit ?_
    refine QG.block_exit ?_
    refine QG.then ?_
    refine CG.seq ?_
    refine CG.region ?_
    refine OG.yield (Yield.move rfl) rfl ?_
    refine OG.yield (Yield.move rfl) rfl ?_
    refine OG.yield (Yield.nilCheck rfl) rfl ?_
    refine OG.yield (Yield.fieldAddr fa84_5 rfl) rfl ?_
    refine OG.eff (Eff.store1 ti82 rfl rfl (by repeat (first | exact Foc.here | apply Foc.there)) rfl (by simp)) rfl ?_
    rintro ⟨⟩ -
    refine OG.nil ?_
    refine QG.then ?_
    refine CG.seq ?_
    refine CG.region ?_
    refine OG.yield (Yield.move rfl) rfl ?_
    refine OG.yield (Yield.assign rfl) rfl ?_
    refine OG.nil ?_
    refine QG.then ?_
    refine CG.ret ?_
    have hie : i = s.asks.length := by omega
    subst hie
    rw [List.take_length] at hout hrest htold
    subst htold
    have hcl2 := d_close (d := d) (G := Fr) (s := rdyS s major) ⟨rest, x.pl, ra, rc, ta, tc⟩ ⟨hrest, hmem, ⟨hok.part, hok.first, hok.count, hok.lat, Nat.le_trans (List.length_filter_le _ _) hok.asks, by dsimp only [rdyS]; omega, fun a ha => hok.data a (List.mem_filter.1 ha).1, fun a ha => hok.sec a (List.mem_filter.1 ha).1⟩⟩
    dsimp only [DO, List.cons_append, List.nil_append] at hcl2
    exact QG.ret1 rfl rfl ⟨l, la, lc⟩ hout rfl (Imp.pull (by repeat (first | exact Ext.here | apply Ext.there)) (Imp.pull (by repeat (first | exact Ext.here | apply Ext.there)) (Imp.trans (by repeat (first | exact Imp.refl _ | exact Imp.none _ | apply Imp.pull (by repeat (first | exact Ext.here | apply Ext.there)) | apply Imp.trans Imp.drop)) hcl2)))
theorem waiting_spec {d : Nat} {s : Ds} : Ctr Try.prog W0 13 [.pointer (some ⟨d, 0, none⟩)] (D d s :: Fr) (fun _ : Option Addr × Nat => True) (fun q => .slice q.1 (s.asks.map Ak.tag).length q.2) (fun q => onum 35 .u32 q.1 q.2 (s.asks.map Ak.tag) :: D d s :: Fr) := by
  refine Ctr.ex Ext.here d_open ?_
  intro x hx
  refine Ctr.imp star_open ?_
  have hln := hx.len
  have hok := hx.ok
  have hal := hx.ok.asks
  have hab := hx.abs
  have hcl := d_close (d := d) (G := Fr) x hx
  dsimp only [DO, List.cons_append, List.nil_append] at hcl ⊢
  refine Ctr.of_body Try.func13 rfl Try.ntmps13 rfl ?_
  refine CG.seq ?_
  refine CG.region ?_
  refine OG.yield (Yield.assign rfl) rfl ?_
  refine OG.nil ?_
  refine QG.then ?_
  refine CG.seq ?_
  refine CG.region ?_
  refine OG.yield (Yield.assign rfl) rfl ?_
  refine OG.nil ?_
  refine QG.then ?_
  refine CG.seq ?_
  refine CG.seq ?_
  refine CG.region ?_
  refine OG.yield (Yield.move rfl) rfl ?_
  refine OG.yield (Yield.nilCheck rfl) rfl ?_
  refine OG.yield (Yield.fieldAddr fa84_5 rfl) rfl ?_
  refine OG.yield (Yield.load ti82 rfl (by first | exact Cel.of_blk (by repeat (first | exact Ext.here | apply Ext.there)) rfl | exact (hrow (by repeat (first | exact Ext.here | apply Ext.there))) _ _ rfl)) rfl ?_
  refine OG.yield (Yield.len_slice Try.underlying82 rfl rfl) rfl ?_
  refine OG.yield (Yield.move rfl) rfl ?_
  refine OG.nil ?_
  refine QG.then ?_
  refine CG.block ?_
  refine CG.loop (fun t : Nat × List Int × Option Addr × Nat => t.1 ≤ s.asks.length ∧ t.2.1 = (s.asks.take t.1).map Ak.tag) (fun t => [(0, .pointer (some ⟨d, 0, none⟩)), (3, .slice t.2.2.1 t.2.1.length t.2.2.2), (9, .slice x.a x.cas.length x.c), (10, .int .i64 x.cas.length), (11, .int .i64 t.1)]) (fun t => onum 35 .u32 t.2.2.1 t.2.2.2 t.2.1 :: DH d s s.last x.a x.cas.length x.c x.ta s.told.length x.tc :: oasks x.a x.c x.cas :: onum 35 .u32 x.ta x.tc s.told :: pool x.pl :: Fr) (fun t => x.cas.length - t.1) (0, [], none, 0) ⟨Nat.zero_le _, rfl⟩ (by repeat (first | exact Env.sub_nil _ | refine Env.sub_cons rfl ?_)) (osl_nil (E := 35) (sz := 1)) ?_
  rintro ⟨i, l, la, lc⟩ ⟨hi, hl⟩
  dsimp only at hi hl ⊢
  have hll : l.length = i := by rw [hl, List.length_map, List.length_take]; omega
  refine CG.seq ?_
  refine CG.region ?_
  refine OG.yield (by first | exact Yield.as (Yield.lss rfl rfl) (bT (by omega)) | exact Yield.as (Yield.lss rfl rfl) (bF (by omega)) | exact Yield.lss rfl rfl) rfl ?_
  refine OG.nil ?_
  refine QG.then ?_
  refine CG.seq ?_
  refine CG.cond rfl (fun hc => ?_) (fun hc => ?_)
  · try replace hc := of_decide_eq_true hc
    have hi' : i < x.cas.length := by omega
    have hgc : x.cas[i]? = some x.cas[i] := by simp [hi']
    generalize x.cas[i] = ca at hgc
    have hget : s.asks[i]? = some ca.abs := by rw [← hab, List.getElem?_map, hgc]; rfl
    have htk : s.asks.take (i + 1) = s.asks.take i ++ [ca.abs] := by obtain ⟨hlt, hq⟩ := List.getElem?_eq_some_iff.1 hget; rw [List.take_succ_eq_append_getElem hlt, hq]
    refine CG.pure (fun w hw => shape_as (n := i) (l := x.cas) (by omega) (by repeat (first | exact Ext.here | apply Ext.there)) w hw) ?_
    rintro ⟨b, o, hxa⟩
    rw [hxa]
    refine CG.skip ?_
    refine QG.then ?_
    refine CG.seq ?_
    refine CG.block ?_
    refine CG.seq ?_
    refine CG.region ?_
    refine OG.yield (Yield.index_slice Try.underlying82 ti86 rfl rfl (by omega) (by omega)) rfl ?_
    refine OG.yield (Yield.load_agg (vs := ca.cells) ti86 rfl (CA.len ca) (by rw [show o + (i : Int).toNat * 7 = o + i * 7 by omega]; exact (SlR.of_osl (E := 86) (a := some ⟨b, o, none⟩) (by repeat (first | exact Ext.here | apply Ext.there))).elem CA.len hgc)) rfl ?_
    refine OG.effd (Eff.alloc ti86) rfl ?_
    rintro b5 -
    refine OG.eff (Eff.storeAll ti86 rfl rfl (by repeat (first | exact Foc.here | apply Foc.there)) (CA.len ca) (CA.ones ca) rfl) rfl ?_
    rintro ⟨⟩ -
    refine OG.nil ?_
    refine QG.then ?_
    refine CG.region ?_
    refine OG.yield (Yield.move rfl) rfl ?_
    refine OG.yield (Yield.fieldAddr fa86_0 rfl) rfl ?_
    refine OG.yield (Yield.load (v := .int .u32 ca.tag) ti35 rfl (Cel.of_blk (b := b5) (by repeat (first | exact Ext.here | apply Ext.there)) rfl)) rfl ?_
    refine OG.effd (Eff.lit1 Try.underlying43 ti35 rfl rfl rfl) rfl ?_
    rintro b18 -
    refine OG.effd (Eff.append (a := la) (c := lc) (m := l.length) (xs := intsV .u32 l) (k := 1) (ys := [.int .u32 ca.tag]) rfl rfl rfl Try.underlying43 Try.underlying43 ti35 rfl (by decide) (by repeat (first | exact Foc.here | apply Foc.there)) (SlR.of_osl (a := some ⟨b18, 0, none⟩) (by repeat (first | exact Ext.here | apply Ext.there))) (by simp [one]) (by omega)) rfl ?_
    rintro ⟨a19, c19⟩ -
    refine OG.yield (Yield.assign rfl) rfl ?_
    refine OG.nil ?_
    refine QG.block_normal ?_
    refine QG.then ?_
    refine CG.region ?_
    refine OG.yield (Yield.add rfl rfl (w64 (by omega) (by omega))) rfl ?_
    refine OG.yield (Yield.move rfl) rfl ?_
    refine OG.nil ?_
    refine QG.next (i + 1, l ++ [ca.tag], a19, c19) ⟨by simp only; omega, ?_⟩ (show x.cas.length - (i + 1) < x.cas.length - i by omega) (by dsimp only; rw [List.length_append]; exact (by repeat (first | exact Env.sub_nil _ | refine Env.sub_cons rfl ?_))) (by dsimp only; rw [onum_app]; exact (by repeat (first | exact Imp.refl _ | exact Imp.none _ | apply Imp.pull (by repeat (first | exact Ext.here | apply Ext.there)) | apply Imp.trans Imp.drop)))
    dsimp only; rw [htk, List.map_append, hl]; rfl
  · try replace hc := of_decide_eq_false hc
    refine CG.exit ?_
    refine QG.pass_exit ?_
    refine QG.pass_exit ?_
    refine QG.block_exit ?_
    refine QG.then ?_
    refine CG.seq ?_
    refine CG.region ?_
    refine OG.yield (Yield.move rfl) rfl ?_
    refine OG.yield (Yield.assign rfl) rfl ?_
    refine OG.nil ?_
    refine QG.then ?_
    refine CG.ret ?_
    have hie : i = s.asks.length := by omega
    subst hie
    rw [List.take_length] at hl
    subst hl
    exact QG.ret1 rfl rfl (la, lc) trivial rfl (Imp.pull (by repeat (first | exact Ext.here | apply Ext.there)) (Imp.trans (by repeat (first | exact Imp.refl _ | exact Imp.none _ | apply Imp.pull (by repeat (first | exact Ext.here | apply Ext.there)) | apply Imp.trans Imp.drop)) hcl))
theorem told_spec {d : Nat} {s : Ds} : Ctr Try.prog W0 60 [.pointer (some ⟨d, 0, none⟩)] (D d s :: Fr) (fun _ : Option Addr × Nat => True) (fun q => .slice q.1 s.told.length q.2) (fun q => onum 35 .u32 q.1 q.2 s.told :: D d s :: Fr) := by
  refine Ctr.ex Ext.here d_open ?_
  intro x hx
  refine Ctr.imp star_open ?_
  have htl := hx.ok.told
  have hcl := d_close (d := d) (G := Fr) x hx
  dsimp only [DO, List.cons_append, List.nil_append] at hcl ⊢
  refine Ctr.of_body Try.func60 rfl Try.ntmps60 rfl ?_
  refine CG.seq ?_
  refine CG.region ?_
  refine OG.yield (Yield.assign rfl) rfl ?_
  refine OG.nil ?_
  refine QG.then ?_
  refine CG.seq ?_
  refine CG.region ?_
  refine OG.yield (Yield.move rfl) rfl ?_
  refine OG.yield (Yield.nilCheck rfl) rfl ?_
  refine OG.yield (Yield.fieldAddr fa84_6 rfl) rfl ?_
  refine OG.yield (Yield.load ti43 rfl (by first | exact Cel.of_blk (by repeat (first | exact Ext.here | apply Ext.there)) rfl | exact (hrow (by repeat (first | exact Ext.here | apply Ext.there))) _ _ rfl)) rfl ?_
  refine OG.callo call53 rfl (Imp.refl _) (cloneU_spec W0 _ (a := x.ta) (c := x.tc) (l := s.told) (by exact SlR.of_osl (E := 35) (by repeat (first | exact Ext.here | apply Ext.there))) (by omega)) rfl ?_
  rintro ⟨a7, c7⟩ -
  refine OG.yield (Yield.assign rfl) rfl ?_
  refine OG.nil ?_
  refine QG.then ?_
  refine CG.ret ?_
  exact QG.ret1 rfl rfl (a7, c7) trivial rfl (Imp.cons hcl)
set_option maxHeartbeats 1000000 in
theorem clone_spec {d : Nat} {s : Ds} : Ctr Try.prog W0 25 [.pointer (some ⟨d, 0, none⟩)] (D d s :: Fr) (fun _ : Nat => True) (fun u => .pointer (some ⟨u, 0, none⟩)) (fun u => D u s :: D d s :: Fr) := by
  refine Ctr.ex Ext.here d_open ?_
  intro x hx
  refine Ctr.imp star_open ?_
  have hln := hx.len
  have hok := hx.ok
  have hal := hx.ok.asks
  have hab := hx.abs
  have htl := hx.ok.told
  have hcl := d_close (d := d) (G := Fr) x hx
  dsimp only [DO, List.cons_append, List.nil_append] at hcl ⊢
  refine Ctr.of_body Try.func25 rfl Try.ntmps25 rfl ?_
  refine CG.seq ?_
  refine CG.region ?_
  refine OG.yield (Yield.assign rfl) rfl ?_
  refine OG.nil ?_
  refine QG.then ?_
  refine CG.seq ?_
  refine CG.region ?_
  refine OG.yield (Yield.move rfl) rfl ?_
  refine OG.yield (Yield.nilCheck rfl) rfl ?_
  refine OG.yield (Yield.load_agg (vs := [.int .i64 s.part, .int .i64 s.first, .int .i64 s.count, .int .i64 s.latency, .int .u32 s.last, .slice x.a x.cas.length x.c, .slice x.ta s.told.length x.tc]) ti84 rfl rfl (Row.of_blk (b := d) (by repeat (first | exact Ext.here | apply Ext.there)) rfl)) rfl ?_
  refine OG.effd (Eff.alloc ti84) rfl ?_
  rintro b3 -
  refine OG.eff (Eff.storeAll ti84 rfl rfl (by repeat (first | exact Foc.here | apply Foc.there)) rfl (by simp [one]) rfl) rfl ?_
  rintro ⟨⟩ -
  refine OG.nil ?_
  refine QG.then ?_
  refine CG.seq ?_
  refine CG.draw (.look 0 1 (.look 1 1 (.look 2 1 (.look 3 1 (.look 5 0 (.look 6 0 (.look 7 0 (.look 8 0 (.eff1 4 false (.eff1 9 false (.look 10 1 (.eff1 11 false (.look 12 1 (.eff1 13 false (.done))))))))))))))) [4, 9, 11, 13] [] ([DH d s s.last x.a x.cas.length x.c x.ta s.told.length x.tc]) ([]) mixed (by kernel_rfl) ((by repeat (first | exact Imp.refl _ | exact Imp.none _ | apply Imp.pull (by repeat (first | exact Ext.here | apply Ext.there)) | apply Imp.trans Imp.drop))) (Imp.none _) ?_
  refine DG.look rfl rfl (Yield.move rfl) rfl ?_
  refine DG.look rfl rfl (Yield.nilCheck rfl) rfl ?_
  refine DG.look rfl rfl (Yield.fieldAddr fa84_5 rfl) rfl ?_
  refine DG.look rfl rfl (Yield.load (v := .slice x.a x.cas.length x.c) ti82 rfl (Cel.of_blk (b := d) (by repeat (first | exact Ext.here | apply Ext.there)) rfl)) rfl ?_
  refine DG.look rfl rfl (Yield.move rfl) rfl ?_
  refine DG.look rfl rfl (Yield.nilCheck rfl) rfl ?_
  refine DG.look rfl rfl (Yield.fieldAddr fa84_6 rfl) rfl ?_
  refine DG.look rfl rfl (Yield.load (v := .slice x.ta s.told.length x.tc) ti43 rfl (Cel.of_blk (b := d) (by repeat (first | exact Ext.here | apply Ext.there)) rfl)) rfl ?_
  refine DG.eff1 ?_
  refine Chg.callo rfl rfl call52 rfl (Imp.refl _) (cloneA_spec W0 _ (a := x.a) (c := x.c) (l := x.cas) (by exact SlR.of_osl (E := 86) (by repeat (first | exact Ext.here | apply Ext.there))) (by omega)) rfl (fun _ => (by repeat (first | exact Imp.refl _ | exact Imp.none _ | apply Imp.pull (by repeat (first | exact Ext.here | apply Ext.there)) | apply Imp.trans Imp.drop))) (fun _ => Imp.refl _) (fun _ => (by repeat (first | exact Imp.refl _ | exact Imp.none _ | apply Imp.pull (by repeat (first | exact Ext.here | apply Ext.there)) | apply Imp.trans Imp.drop))) ?_
  rintro ⟨a12, c12⟩ -
  refine DG.eff1 ?_
  refine Chg.callo rfl rfl call53 rfl (Imp.refl _) (cloneU_spec W0 _ (a := x.ta) (c := x.tc) (l := s.told) (by exact SlR.of_osl (E := 35) (a := x.ta) (c := x.tc) (by repeat (first | exact Ext.here | apply Ext.there))) (by omega)) rfl (fun _ => (by repeat (first | exact Imp.refl _ | exact Imp.none _ | apply Imp.pull (by repeat (first | exact Ext.here | apply Ext.there)) | apply Imp.trans Imp.drop))) (fun _ => Imp.refl _) (fun _ => (by repeat (first | exact Imp.refl _ | exact Imp.none _ | apply Imp.pull (by repeat (first | exact Ext.here | apply Ext.there)) | apply Imp.trans Imp.drop))) ?_
  rintro ⟨a17, c17⟩ -
  refine DG.look rfl rfl (Yield.fieldAddr fa84_5 rfl) rfl ?_
  refine DG.eff1 ?_
  refine Chg.eff rfl rfl (Eff.store1 ti82 rfl rfl (by repeat (first | exact Foc.here | apply Foc.there)) rfl (by simp)) rfl (fun _ => (by repeat (first | exact Imp.refl _ | exact Imp.none _ | apply Imp.pull (by repeat (first | exact Ext.here | apply Ext.there)) | apply Imp.trans Imp.drop))) (fun _ => Imp.refl _) (fun _ => (by repeat (first | exact Imp.refl _ | exact Imp.none _ | apply Imp.pull (by repeat (first | exact Ext.here | apply Ext.there)) | apply Imp.trans Imp.drop))) ?_
  rintro ⟨⟩ -
  refine DG.look rfl rfl (Yield.fieldAddr fa84_6 rfl) rfl ?_
  refine DG.eff1 ?_
  refine Chg.eff rfl rfl (Eff.store1 ti43 rfl rfl (by repeat (first | exact Foc.here | apply Foc.there)) rfl (by simp)) rfl (fun _ => (by repeat (first | exact Imp.refl _ | exact Imp.none _ | apply Imp.pull (by repeat (first | exact Ext.here | apply Ext.there)) | apply Imp.trans Imp.drop))) (fun _ => Imp.refl _) (fun _ => (by repeat (first | exact Imp.refl _ | exact Imp.none _ | apply Imp.pull (by repeat (first | exact Ext.here | apply Ext.there)) | apply Imp.trans Imp.drop))) ?_
  rintro ⟨⟩ -
  refine DG.done ?_
  refine QG.then ?_
  refine CG.seq ?_
  refine CG.seq ?_
  refine CG.region ?_
  refine OG.yield (Yield.fieldAddr fa84_5 rfl) rfl ?_
  refine OG.yield (Yield.load ti82 rfl (by first | exact Cel.of_blk (by repeat (first | exact Ext.here | apply Ext.there)) rfl | exact (hrow (by repeat (first | exact Ext.here | apply Ext.there))) _ _ rfl)) rfl ?_
  refine OG.yield (Yield.len_slice Try.underlying82 rfl rfl) rfl ?_
  refine OG.yield (Yield.move rfl) rfl ?_
  refine OG.nil ?_
  refine QG.then ?_
  refine CG.block ?_
  refine CG.loop (fun t : Nat × List CA × List Msg => t.1 ≤ x.cas.length ∧ t.2.1.map CA.abs = s.asks ∧ (∀ j, t.1 ≤ j → t.2.1[j]? = x.cas[j]?) ∧ (∀ (j : Nat) (ca : CA), j < t.1 → t.2.1[j]? = some ca → ca.m ∈ t.2.2)) (fun t => [(3, .pointer (some ⟨b3, 0, none⟩)), (22, .int .i64 x.cas.length), (23, .int .i64 t.1)]) (fun t => DH b3 s s.last a12 x.cas.length c12 a17 s.told.length c17 :: oasks a12 c12 t.2.1 :: onum 35 .u32 a17 c17 s.told :: pool t.2.2 :: DH d s s.last x.a x.cas.length x.c x.ta s.told.length x.tc :: oasks x.a x.c x.cas :: onum 35 .u32 x.ta x.tc s.told :: pool x.pl :: Fr) (fun t => x.cas.length - t.1) (0, x.cas, []) ⟨Nat.zero_le _, hab, fun _ _ => rfl, fun j ca h => absurd h (Nat.not_lt_zero _)⟩ (by repeat (first | exact Env.sub_nil _ | refine Env.sub_cons rfl ?_)) (Imp.trans pool_nil (Imp.pull (A := DH b3 s s.last a12 x.cas.length c12 a17 s.told.length c17) (by repeat (first | exact Ext.here | apply Ext.there)) (Imp.pull (A := oasks a12 c12 x.cas) (by repeat (first | exact Ext.here | apply Ext.there)) (Imp.pull (A := onum 35 .u32 a17 c17 s.told) (by repeat (first | exact Ext.here | apply Ext.there)) (by repeat (first | exact Imp.refl _ | exact Imp.none _ | apply Imp.pull (by repeat (first | exact Ext.here | apply Ext.there)) | apply Imp.trans Imp.drop)))))) ?_
  rintro ⟨i, cas, pl⟩ ⟨hi, hca, hsame, hin⟩
  dsimp only at hi hca hsame hin ⊢
  have hcl0 : cas.length = x.cas.length := by have h1 := congrArg List.length hca; have h2 := congrArg List.length hab; simp only [List.length_map] at h1 h2; omega
  refine CG.seq ?_
  refine CG.region ?_
  refine OG.yield (by first | exact Yield.as (Yield.lss rfl rfl) (bT (by omega)) | exact Yield.as (Yield.lss rfl rfl) (bF (by omega)) | exact Yield.lss rfl rfl) rfl ?_
  refine OG.nil ?_
  refine QG.then ?_
  refine CG.seq ?_
  refine CG.cond rfl (fun hc => ?_) (fun hc => ?_)
  · try replace hc := of_decide_eq_true hc
    have hi' : i < x.cas.length := by omega
    have hgx : x.cas[i]? = some x.cas[i] := by simp [hi']
    generalize x.cas[i] = ca at hgx
    have hgc : cas[i]? = some ca := by rw [hsame i (Nat.le_refl _), hgx]
    have hget : s.asks[i]? = some ca.abs := by rw [← hab, List.getElem?_map, hgx]; rfl
    have hdat := hok.data _ (List.mem_of_getElem? hget)
    have hcm := hx.mems hgx
    refine CG.pure (fun w hw => shape_as (a := a12) (c := c12) (n := i) (l := cas) (by omega) (by repeat (first | exact Ext.here | apply Ext.there)) w hw) ?_
    rintro ⟨b, o, rfl⟩
    refine CG.skip ?_
    refine QG.then ?_
    refine CG.seq ?_
    refine CG.block ?_
    refine CG.seq ?_
    refine CG.region ?_
    refine OG.yield (Yield.move rfl) rfl ?_
    refine OG.yield (Yield.assign rfl) rfl ?_
    refine OG.nil ?_
    refine QG.then ?_
    refine CG.draw (.look 0 0 (.look 1 0 (.look 2 0 (.look 3 1 (.look 4 1 (.look 5 1 (.look 6 1 (.look 7 1 (.look 8 1 (.eff1 9 false (.look 10 1 (.look 11 1 (.eff1 12 false (.done)))))))))))))) [9, 12] [] ([DH b3 s s.last (some ⟨b, o, none⟩) x.cas.length c12 a17 s.told.length c17]) ([]) mixed (by kernel_rfl) ((by repeat (first | exact Imp.refl _ | exact Imp.none _ | apply Imp.pull (by repeat (first | exact Ext.here | apply Ext.there)) | apply Imp.trans Imp.drop))) (Imp.none _) ?_
    refine DG.look rfl rfl (Yield.fieldAddr fa84_5 rfl) rfl ?_
    refine DG.look rfl rfl (Yield.load (v := .slice (some ⟨b, o, none⟩) x.cas.length c12) ti82 rfl (Cel.of_blk (b := b3) (by repeat (first | exact Ext.here | apply Ext.there)) rfl)) rfl ?_
    refine DG.look rfl rfl (Yield.move rfl) rfl ?_
    refine DG.look rfl rfl (Yield.fieldAddr fa84_5 rfl) rfl ?_
    refine DG.look rfl rfl (Yield.load (v := .slice (some ⟨b, o, none⟩) x.cas.length c12) ti82 rfl (Cel.of_blk (b := b3) (by repeat (first | exact Ext.here | apply Ext.there)) rfl)) rfl ?_
    refine DG.look rfl rfl (Yield.move rfl) rfl ?_
    refine DG.look rfl rfl (Yield.index_slice Try.underlying82 ti86 rfl rfl (by omega) (by omega)) rfl ?_
    refine DG.look rfl rfl (Yield.fieldAddr fa86_4 rfl) rfl ?_
    refine DG.look rfl rfl (Yield.load (v := ca.m.cell) ti36 rfl (by rw [show o + (i : Int).toNat * 7 = o + i * 7 by omega]; exact ((SlR.of_osl (E := 86) (a := some ⟨b, o, none⟩) (by repeat (first | exact Ext.here | apply Ext.there))).elem CA.len hgc) 4 _ rfl)) rfl ?_
    refine DG.eff1 ?_
    refine Chg.callo rfl rfl call38 rfl (Imp.refl _) (cloneB_spec W0 _ (a := ca.m.a) (c := ca.m.c) (bs := ca.m.b) (by exact pool_rd (ms := x.pl) (by repeat (first | exact Ext.here | apply Ext.there)) hcm) (by have h9 : (CA.abs ca).data = ca.m.b := rfl; rw [h9] at hdat; omega)) rfl (fun _ => (by repeat (first | exact Imp.refl _ | exact Imp.none _ | apply Imp.pull (by repeat (first | exact Ext.here | apply Ext.there)) | apply Imp.trans Imp.drop))) (fun _ => Imp.refl _) (fun _ => (by repeat (first | exact Imp.refl _ | exact Imp.none _ | apply Imp.pull (by repeat (first | exact Ext.here | apply Ext.there)) | apply Imp.trans Imp.drop))) ?_
    rintro m hm
    refine DG.look rfl rfl (Yield.index_slice Try.underlying82 ti86 rfl rfl (by omega) (by omega)) rfl ?_
    refine DG.look rfl rfl (Yield.fieldAddr fa86_4 rfl) rfl ?_
    refine DG.eff1 ?_
    refine Chg.eff rfl rfl (Eff.storeFld (i := i) 4 (r := ca) (r' := { ca with m := m }) (rs := cas) CA.len hgc rfl (by decide) ti36 (by rw [show o + (i : Int).toNat * 7 = o + i * 7 by omega]; rfl) rfl (by repeat (first | exact Foc.here | apply Foc.there)) rfl rfl) rfl (fun _ => (by repeat (first | exact Imp.refl _ | exact Imp.none _ | apply Imp.pull (by repeat (first | exact Ext.here | apply Ext.there)) | apply Imp.trans Imp.drop))) (fun _ => Imp.refl _) (fun _ => (by repeat (first | exact Imp.refl _ | exact Imp.none _ | apply Imp.pull (by repeat (first | exact Ext.here | apply Ext.there)) | apply Imp.trans Imp.drop))) ?_
    rintro ⟨⟩ -
    refine DG.done ?_
    refine QG.block_normal ?_
    refine QG.then ?_
    refine CG.region ?_
    refine OG.yield (Yield.add rfl rfl (w64 (by omega) (by omega))) rfl ?_
    refine OG.yield (Yield.move rfl) rfl ?_
    refine OG.nil ?_
    refine QG.next (i + 1, cas.set i { ca with m := m }, pl ++ [m]) ⟨by simp only; omega, ?_, fun j hj => ?_, fun j cb hj hcb => ?_⟩ (show x.cas.length - (i + 1) < x.cas.length - i by omega) (by repeat (first | exact Env.sub_nil _ | refine Env.sub_cons rfl ?_)) ?_
    · dsimp only; rw [List.map_set, hca]; refine set_self ?_; rw [hget]; simp [CA.abs, hm]
    · dsimp only at hj ⊢; rw [List.getElem?_set_ne (by omega)]; exact hsame j (by omega)
    · dsimp only at hj hcb ⊢
      by_cases e : j = i
      · subst e; rw [List.getElem?_set_self (by omega)] at hcb; cases hcb; simp
      · rw [List.getElem?_set_ne (by omega)] at hcb; exact List.mem_append.2 (.inl (hin j cb (by omega) hcb))
    · dsimp only [oasks]
      rw [List.length_set]
      exact Imp.trans (Imp.trans (Imp.pull (A := m.own) (by repeat (first | exact Ext.here | apply Ext.there)) (Imp.pull (A := pool pl) (by repeat (first | exact Ext.here | apply Ext.there)) (Imp.refl _))) pool_add) (Imp.pull (A := DH b3 s s.last (some ⟨b, o, none⟩) x.cas.length c12 a17 s.told.length c17) (by repeat (first | exact Ext.here | apply Ext.there)) (Imp.pull (by repeat (first | exact Ext.here | apply Ext.there)) (Imp.pull (A := onum 35 .u32 a17 c17 s.told) (by repeat (first | exact Ext.here | apply Ext.there)) (by repeat (first | exact Imp.refl _ | exact Imp.none _ | apply Imp.pull (by repeat (first | exact Ext.here | apply Ext.there)) | apply Imp.trans Imp.drop)))))
  · try replace hc := of_decide_eq_false hc
    refine CG.exit ?_
    refine QG.pass_exit ?_
    refine QG.pass_exit ?_
    refine QG.block_exit ?_
    refine QG.then ?_
    refine CG.seq ?_
    refine CG.region ?_
    refine OG.yield (Yield.assign rfl) rfl ?_
    refine OG.nil ?_
    refine QG.then ?_
    refine CG.ret ?_
    have hie : i = x.cas.length := by omega
    have hcl2 := d_close (d := b3) (G := D d s :: Fr) (s := s) ⟨cas, pl, a12, c12, a17, c17⟩ ⟨hca, fun a ha => by
      obtain ⟨j, hj, rfl⟩ := List.mem_iff_getElem.1 ha
      have hj2 : j < cas.length := hj
      exact hin j _ (by omega) (List.getElem?_eq_getElem hj), hok⟩
    dsimp only [DO, List.cons_append, List.nil_append] at hcl2
    rw [hcl0] at hcl2
    exact QG.ret1 rfl rfl b3 trivial rfl (Imp.trans (Imp.cons (Imp.cons (Imp.cons (Imp.cons (Imp.trans (by repeat (first | exact Imp.refl _ | exact Imp.none _ | apply Imp.pull (by repeat (first | exact Ext.here | apply Ext.there)) | apply Imp.trans Imp.drop)) hcl))))) hcl2)
end
end Go.Proofs.Ytoejnhfcegchhaa.Vd
