/- vdisk.Disk: Issue, Complete. -/
import Derived.Test.YtoejnhfcegchhaaVd
namespace Go.Proofs.Ytoejnhfcegchhaa.Vd
open Go Go.Sl Go.RowKit Go.Proofs Go.Proofs.Ytoejnhfcegchhaa.T Go.Proofs.Ytoejnhfcegchhaa.Ms
set_option linter.unusedVariables false
set_option linter.unusedSimpArgs false
set_option maxRecDepth 100000
/-- A request to the disk. -/
structure Rq where
  part : Int
  tag : Int
  write : Bool
  sector : Int
  data : B
structure CR where
  part : Int
  tag : Int
  write : Bool
  sector : Int
  m : Msg
def CR.cells (r : CR) : List Value := [.int .i64 r.part, .int .u32 r.tag, .bool r.write, .int .i64 r.sector, r.m.cell]
def CR.abs (r : CR) : Rq := ⟨r.part, r.tag, r.write, r.sector, r.m.b⟩
theorem CR.len (r : CR) : r.cells.length = 5 := rfl
theorem CR.ones (r : CR) : ∀ v ∈ r.cells, one v = true := by simp [CR.cells, one, Msg.cell]
abbrev oreqs (a : Option Addr) (c : Nat) (l : List CR) : HProp := osl 40 5 a c l.length ((l.map CR.cells).flatten)
/-- Requests where they lie. -/
structure Rqs where
  l : List CR
  a : Option Addr
  c : Nat
def Rqs.ms (r : Rqs) : List Msg := r.l.map CR.m
abbrev Rqs.G (r : Rqs) : List HProp := [oreqs r.a r.c r.l, pool r.ms]
def Rqs.cell (r : Rqs) : Value := .slice r.a r.l.length r.c
def iss (a : Ak) : Ak := { a with st := if a.st = 0 then 1 else a.st }
theorem iss_one {a : Ak} (h : a.st = 0) : iss a = { a with st := 1 } := by unfold iss; rw [if_pos h]
theorem iss_no {a : Ak} (h : a.st ≠ 0) : iss a = a := by unfold iss; rw [if_neg h]
def req (s : Ds) (a : Ak) : Rq := ⟨s.part, a.tag, a.write, s.first + a.sector, a.data⟩
def issR (s : Ds) : List Rq := (s.asks.filter fun a => a.st == 0).map (req s)
def issS (s : Ds) : Ds := { s with asks := s.asks.map iss }
theorem mapto_step {α : Type} {f : α → α} {l : List α} {i : Nat} {x : α} (h : l[i]? = some x) : (l.take (i + 1)).map f ++ l.drop (i + 1) = ((l.take i).map f ++ l.drop i).set i (f x) := by
  obtain ⟨hi, rfl⟩ := List.getElem?_eq_some_iff.1 h
  have hl : ((l.take i).map f).length = i := by simp; omega
  rw [List.set_append_right _ _ (by omega), hl, Nat.sub_self, List.drop_eq_getElem_cons hi, List.set_cons_zero, List.take_succ_eq_append_getElem hi, List.map_append, List.append_assoc]; rfl
theorem mapto_get {α : Type} {f : α → α} {l : List α} {i : Nat} {x : α} (h : l[i]? = some x) : ((l.take i).map f ++ l.drop i)[i]? = some x := by
  obtain ⟨hi, rfl⟩ := List.getElem?_eq_some_iff.1 h
  have hl : ((l.take i).map f).length = i := by simp; omega
  rw [List.getElem?_append_right (by omega), hl, Nat.sub_self]; simp [hi]
theorem mapto_len {α : Type} {f : α → α} {l : List α} {i : Nat} (h : i ≤ l.length) : ((l.take i).map f ++ l.drop i).length = l.length := by simp; omega
structure It where
  i : Nat
  cas : List CA
  out : Rqs
structure It.OK (s : Ds) (pl : List Msg) (t : It) : Prop where
  le : t.i ≤ s.asks.length
  abs : t.cas.map CA.abs = (s.asks.take t.i).map iss ++ s.asks.drop t.i
  mem : ∀ a ∈ t.cas, a.m ∈ pl
  out : t.out.l.map CR.abs = ((s.asks.take t.i).filter fun a => a.st == 0).map (req s)
  outl : t.out.l.length ≤ t.i
section
variable (W0 : World) (Fr : List HProp)
set_option maxHeartbeats 2000000 in
theorem issue_spec {d : Nat} {s : Ds} : Ctr Try.prog W0 15 [.pointer (some ⟨d, 0, none⟩)] (D d s :: Fr) (fun r : Rqs => r.l.map CR.abs = issR s) (fun r => r.cell) (fun r => r.G ++ (D d (issS s) :: Fr)) := by
  refine Ctr.ex Ext.here d_open ?_
  intro x hx
  refine Ctr.imp star_open ?_
  have hln := hx.len
  have hok := hx.ok
  have hal := hx.ok.asks
  have hfst := hx.ok.first
  have hcnt := hx.ok.count
  dsimp only [DO, List.cons_append, List.nil_append]
  refine Ctr.of_body Try.func15 rfl Try.ntmps15 rfl ?_
  refine CG.seq ?_
  refine CG.region ?_
  refine OG.yield (Yield.assign rfl) rfl ?_
  refine OG.nil ?_
  refine QG.then ?_
  refine CG.seq ?_
  refine CG.region ?_
  refine OG.yield (Yield.assign rfl) rfl ?_
  refine OG.nil ?_
  refine QG.then ?_
  refine CG.seq ?_
  refine CG.seq ?_
  refine CG.region ?_
  refine OG.yield (Yield.move rfl) rfl ?_
  refine OG.yield (Yield.nilCheck rfl) rfl ?_
  refine OG.yield (Yield.fieldAddr fa84_5 rfl) rfl ?_
  refine OG.yield (Yield.load ti82 rfl (by first | exact Cel.of_blk (by repeat (first | exact Ext.here | apply Ext.there)) rfl | exact (hrow (by repeat (first | exact Ext.here | apply Ext.there))) _ _ rfl)) rfl ?_
  refine OG.yield (Yield.len_slice Try.underlying82 rfl rfl) rfl ?_
  refine OG.yield (Yield.move rfl) rfl ?_
  refine OG.nil ?_
  refine QG.then ?_
  refine CG.block ?_
  refine CG.loop (fun t : It => t.OK s x.pl) (fun t => [(0, .pointer (some ⟨d, 0, none⟩)), (3, t.out.cell), (10, .int .i64 s.asks.length), (11, .int .i64 t.i)]) (fun t => DH d s s.last x.a s.asks.length x.c x.ta s.told.length x.tc :: oasks x.a x.c t.cas :: oreqs t.out.a t.out.c t.out.l :: pool t.out.ms :: onum 35 .u32 x.ta x.tc s.told :: pool x.pl :: Fr) (fun t => s.asks.length - t.i) ⟨0, x.cas, ⟨[], none, 0⟩⟩ ⟨Nat.zero_le _, by rw [List.take_zero, List.drop_zero, hx.abs]; rfl, hx.mem, rfl, Nat.le_refl _⟩ (by rw [← hln]; exact (by repeat (first | exact Env.sub_nil _ | refine Env.sub_cons rfl ?_))) (by rw [← hln]; exact Imp.trans pool_nil (Imp.trans (osl_nil (E := 40) (sz := 5)) (by repeat (first | exact Imp.refl _ | exact Imp.none _ | apply Imp.pull (by repeat (first | exact Ext.here | apply Ext.there)) | apply Imp.trans Imp.drop)))) ?_
  rintro ⟨i, cas, ⟨l, la, lc⟩⟩ ⟨hi, habs, hmem, hout, hol⟩
  dsimp only at hi habs hmem hout hol ⊢
  have hcl : cas.length = s.asks.length := by have := congrArg List.length habs; rw [mapto_len hi, List.length_map] at this; exact this
  refine CG.seq ?_
  refine CG.region ?_
  refine OG.yield (by first | exact Yield.as (Yield.lss rfl rfl) (bT (by omega)) | exact Yield.as (Yield.lss rfl rfl) (bF (by omega)) | exact Yield.lss rfl rfl) rfl ?_
  refine OG.nil ?_
  refine QG.then ?_
  refine CG.seq ?_
  refine CG.cond rfl (fun hc => ?_) (fun hc => ?_)
  · try replace hc := of_decide_eq_true hc
    have hi' : i < s.asks.length := by omega
    have hget : s.asks[i]? = some s.asks[i] := by simp [hi']
    generalize s.asks[i] = ak at hget
    have hgm := mapto_get (f := iss) hget
    have hst := mapto_step (f := iss) hget
    have hsec := hok.sec ak (List.mem_of_getElem? hget)
    have hdat := hok.data ak (List.mem_of_getElem? hget)
    obtain ⟨ca, hgc, hca⟩ : ∃ ca, cas[i]? = some ca ∧ ca.abs = ak := by
      rw [← habs, List.getElem?_map] at hgm
      cases hc : cas[i]? with
      | none => rw [hc] at hgm; cases hgm
      | some c => rw [hc] at hgm; exact ⟨c, rfl, by simpa using hgm⟩
    have hcm := hmem ca (List.mem_of_getElem? hgc)
    have htk : s.asks.take (i + 1) = s.asks.take i ++ [ak] := by obtain ⟨hlt, rfl⟩ := List.getElem?_eq_some_iff.1 hget; exact List.take_succ_eq_append_getElem hlt
    subst hca
    refine CG.pure (fun w hw => shape_as (n := i) (l := cas) (by omega) (by repeat (first | exact Ext.here | apply Ext.there)) w hw) ?_
    rintro ⟨b, o, hxa⟩
    rw [hxa]
    rw [hxa] at *
    refine CG.skip ?_
    refine QG.then ?_
    refine CG.seq ?_
    refine CG.block ?_
    refine CG.seq ?_
    refine CG.region ?_
    refine OG.yield (Yield.move rfl) rfl ?_
    refine OG.yield (Yield.assign rfl) rfl ?_
    refine OG.nil ?_
    refine QG.then ?_
    refine CG.seq ?_
    refine CG.region ?_
    refine OG.yield (Yield.move rfl) rfl ?_
    refine OG.yield (Yield.nilCheck rfl) rfl ?_
    refine OG.yield (Yield.fieldAddr fa84_5 rfl) rfl ?_
    refine OG.yield (Yield.load (v := .slice (some ⟨b, o, none⟩) s.asks.length x.c) ti82 rfl (Cel.of_blk (b := d) (by repeat (first | exact Ext.here | apply Ext.there)) rfl)) rfl ?_
    refine OG.yield (Yield.move rfl) rfl ?_
    refine OG.yield (Yield.index_slice Try.underlying82 ti86 rfl rfl (by omega) (by omega)) rfl ?_
    refine OG.yield (Yield.assign rfl) rfl ?_
    refine OG.nil ?_
    refine QG.then ?_
    refine CG.seq ?_
    refine CG.seq ?_
    rcases (show ca.st ≠ 0 ∨ ca.st = 0 by omega) with hs | hs
    · skip
      refine CG.region ?_
      refine OG.yield (Yield.move rfl) rfl ?_
      refine OG.yield (Yield.nilCheck rfl) rfl ?_
      refine OG.yield (Yield.fieldAddr fa86_6 rfl) rfl ?_
      refine OG.yield (Yield.load (v := .int .i64 ca.st) ti3 rfl (((SlR.of_osl (E := 86) (a := some ⟨b, o, none⟩) (by repeat (first | exact Ext.here | apply Ext.there))).elem CA.len hgc) 6 _ rfl)) rfl ?_
      refine OG.yield (by first | exact Yield.as (Yield.neq rfl rfl) (bT (by omega)) | exact Yield.as (Yield.neq rfl rfl) (bF (by omega)) | exact Yield.neq rfl rfl) rfl ?_
      refine OG.nil ?_
      refine QG.then ?_
      refine CG.cond_t rfl ?_
      refine CG.exit ?_
      refine QG.pass_exit ?_
      refine QG.block_exit ?_
      refine QG.then ?_
      refine CG.region ?_
      refine OG.yield (Yield.add rfl rfl (w64 (by omega) (by omega))) rfl ?_
      refine OG.yield (Yield.move rfl) rfl ?_
      refine OG.nil ?_
      refine QG.next ⟨i + 1, cas, ⟨l, la, lc⟩⟩ ⟨by simp only; omega, ?_, hmem, ?_, by simp only; omega⟩ (by simp only; omega) (by repeat (first | exact Env.sub_nil _ | refine Env.sub_cons rfl ?_)) (by dsimp only; rw [hxa]; exact (by repeat (first | exact Imp.refl _ | exact Imp.none _ | apply Imp.pull (by repeat (first | exact Ext.here | apply Ext.there)) | apply Imp.trans Imp.drop)))
      · dsimp only; rw [hst, habs]; symm; refine set_self ?_; rw [iss_no (a := ca.abs) hs]; exact hgm
      · dsimp only; rw [htk, List.filter_append, hout]; simp [hs, CA.abs]
    · skip
      refine CG.region ?_
      refine OG.yield (Yield.move rfl) rfl ?_
      refine OG.yield (Yield.nilCheck rfl) rfl ?_
      refine OG.yield (Yield.fieldAddr fa86_6 rfl) rfl ?_
      refine OG.yield (Yield.load (v := .int .i64 ca.st) ti3 rfl (((SlR.of_osl (E := 86) (a := some ⟨b, o, none⟩) (by repeat (first | exact Ext.here | apply Ext.there))).elem CA.len hgc) 6 _ rfl)) rfl ?_
      refine OG.yield (by first | exact Yield.as (Yield.neq rfl rfl) (bT (by omega)) | exact Yield.as (Yield.neq rfl rfl) (bF (by omega)) | exact Yield.neq rfl rfl) rfl ?_
      refine OG.nil ?_
      refine QG.then ?_
      refine CG.cond_f rfl ?_
      refine CG.skip ?_
      refine QG.then ?_
      refine CG.seq ?_
      refine CG.region ?_
      refine OG.yield (Yield.move rfl) rfl ?_
      refine OG.yield (Yield.nilCheck rfl) rfl ?_
      refine OG.yield (Yield.fieldAddr fa86_6 rfl) rfl ?_
      refine OG.eff (Eff.storeFld (i := i) 6 (r := ca) (r' := { ca with st := 1 }) (rs := cas) CA.len hgc rfl (by decide) ti3 rfl rfl (by repeat (first | exact Foc.here | apply Foc.there)) rfl (by omega)) rfl ?_
      rintro ⟨⟩ -
      have hgc2 : (cas.set i { ca with st := 1 })[i]? = some { ca with st := 1 } := by rw [List.getElem?_set_self (by omega)]
      refine OG.nil ?_
      refine QG.then ?_
      refine CG.draw (.look 0 0 (.look 1 0 (.look 2 0 (.look 3 0 (.look 4 0 (.look 5 0 (.look 6 0 (.look 7 0 (.look 8 0 (.look 9 0 (.look 10 0 (.look 11 0 (.look 12 0 (.look 13 0 (.look 14 0 (.look 15 0 (.look 16 0 (.look 17 0 (.look 18 0 (.look 19 0 (.look 20 0 (.look 21 0 (.look 22 1 (.look 23 1 (.look 24 1 (.look 25 1 (.eff1 26 false (.look 27 1 (.eff1 28 false (.eff1 29 false (.look 30 1 (.done)))))))))))))))))))))))))))))))) [26, 28, 29] [] ([DH d s s.last (some ⟨b, o, none⟩) s.asks.length x.c x.ta s.told.length x.tc, osl 86 7 (some ⟨b, o, none⟩) x.c cas.length (((cas.set i { ca with st := 1 }).map CA.cells).flatten)]) ([]) mixed (by kernel_rfl) ((by repeat (first | exact Imp.refl _ | exact Imp.none _ | apply Imp.pull (by repeat (first | exact Ext.here | apply Ext.there)) | apply Imp.trans Imp.drop))) (Imp.none _) ?_
      refine DG.look rfl rfl (Yield.move rfl) rfl ?_
      refine DG.look rfl rfl (Yield.move rfl) rfl ?_
      refine DG.look rfl rfl (Yield.nilCheck rfl) rfl ?_
      refine DG.look rfl rfl (Yield.fieldAddr fa84_0 rfl) rfl ?_
      refine DG.look rfl rfl (Yield.load (v := .int .i64 s.part) ti3 rfl (Cel.of_blk (b := d) (by repeat (first | exact Ext.here | apply Ext.there)) rfl)) rfl ?_
      refine DG.look rfl rfl (Yield.move rfl) rfl ?_
      refine DG.look rfl rfl (Yield.nilCheck rfl) rfl ?_
      refine DG.look rfl rfl (Yield.fieldAddr fa86_0 rfl) rfl ?_
      refine DG.look rfl rfl (Yield.load (v := .int .u32 ca.tag) ti35 rfl (((SlR.of_osl (E := 86) (a := some ⟨b, o, none⟩) (by repeat (first | exact Ext.here | apply Ext.there))).elem CA.len hgc2) 0 _ rfl)) rfl ?_
      refine DG.look rfl rfl (Yield.move rfl) rfl ?_
      refine DG.look rfl rfl (Yield.nilCheck rfl) rfl ?_
      refine DG.look rfl rfl (Yield.fieldAddr fa86_1 rfl) rfl ?_
      refine DG.look rfl rfl (Yield.load (v := .bool ca.write) ti4 rfl (((SlR.of_osl (E := 86) (a := some ⟨b, o, none⟩) (by repeat (first | exact Ext.here | apply Ext.there))).elem CA.len hgc2) 1 _ rfl)) rfl ?_
      refine DG.look rfl rfl (Yield.move rfl) rfl ?_
      refine DG.look rfl rfl (Yield.nilCheck rfl) rfl ?_
      refine DG.look rfl rfl (Yield.fieldAddr fa84_1 rfl) rfl ?_
      refine DG.look rfl rfl (Yield.load (v := .int .i64 s.first) ti3 rfl (Cel.of_blk (b := d) (by repeat (first | exact Ext.here | apply Ext.there)) rfl)) rfl ?_
      refine DG.look rfl rfl (Yield.move rfl) rfl ?_
      refine DG.look rfl rfl (Yield.nilCheck rfl) rfl ?_
      refine DG.look rfl rfl (Yield.fieldAddr fa86_2 rfl) rfl ?_
      refine DG.look rfl rfl (Yield.load (v := .int .i64 ca.sector) ti3 rfl (((SlR.of_osl (E := 86) (a := some ⟨b, o, none⟩) (by repeat (first | exact Ext.here | apply Ext.there))).elem CA.len hgc2) 2 _ rfl)) rfl ?_
      refine DG.look rfl rfl (Yield.add rfl rfl (w64 (by have := hsec.1; have h9 : (CA.abs ca).sector = ca.sector := rfl; omega) (by have := hsec.2; have h9 : (CA.abs ca).sector = ca.sector := rfl; omega))) rfl ?_
      refine DG.look rfl rfl (Yield.move rfl) rfl ?_
      refine DG.look rfl rfl (Yield.nilCheck rfl) rfl ?_
      refine DG.look rfl rfl (Yield.fieldAddr fa86_4 rfl) rfl ?_
      refine DG.look rfl rfl (Yield.load (v := ca.m.cell) ti36 rfl (((SlR.of_osl (E := 86) (a := some ⟨b, o, none⟩) (by repeat (first | exact Ext.here | apply Ext.there))).elem CA.len hgc2) 4 _ rfl)) rfl ?_
      refine DG.eff1 ?_
      refine Chg.callo rfl rfl call38 rfl (Imp.refl _) (cloneB_spec W0 _ (a := ca.m.a) (c := ca.m.c) (bs := ca.m.b) (by exact pool_rd (ms := x.pl) (by repeat (first | exact Ext.here | apply Ext.there)) hcm) (by have h9 : (CA.abs ca).data = ca.m.b := rfl; rw [h9] at hdat; omega)) rfl (fun _ => (by repeat (first | exact Imp.refl _ | exact Imp.none _ | apply Imp.pull (by repeat (first | exact Ext.here | apply Ext.there)) | apply Imp.trans Imp.drop))) (fun _ => Imp.refl _) (fun _ => (by repeat (first | exact Imp.refl _ | exact Imp.none _ | apply Imp.pull (by repeat (first | exact Ext.here | apply Ext.there)) | apply Imp.trans Imp.drop))) ?_
      rintro m hm
      refine DG.look rfl rfl (Yield.build (pvs := [(0, .int .i64 s.part), (1, .int .u32 ca.tag), (2, .bool ca.write), (3, .int .i64 (s.first + ca.sector)), (4, m.cell)]) bu40 ti40 rfl (cells := CR.cells ⟨s.part, ca.tag, ca.write, s.first + ca.sector, m⟩) rfl) rfl ?_
      refine DG.eff1 ?_
      refine Chg.eff rfl rfl (Eff.lit [.tmp 55] (vs := [.agg (CR.cells ⟨s.part, ca.tag, ca.write, s.first + ca.sector, m⟩).toArray]) (cells := CR.cells ⟨s.part, ca.tag, ca.write, s.first + ca.sector, m⟩) Try.underlying32 ti40 rfl rfl rfl rfl (by decide) (by simp [Value.cells, CR.cells]) (by simp [Value.cells])) rfl (fun _ => (by repeat (first | exact Imp.refl _ | exact Imp.none _ | apply Imp.pull (by repeat (first | exact Ext.here | apply Ext.there)) | apply Imp.trans Imp.drop))) (fun _ => Imp.refl _) (fun _ => (by repeat (first | exact Imp.refl _ | exact Imp.none _ | apply Imp.pull (by repeat (first | exact Ext.here | apply Ext.there)) | apply Imp.trans Imp.drop))) ?_
      rintro b56 -
      refine DG.eff1 ?_
      refine Chg.eff rfl rfl (Eff.append (a := la) (c := lc) (k := 1) (ys := CR.cells ⟨s.part, ca.tag, ca.write, s.first + ca.sector, m⟩) rfl rfl rfl Try.underlying32 Try.underlying32 ti40 rfl (by decide) (by repeat (first | exact Foc.here | apply Foc.there)) (SlR.of_osl (a := some ⟨b56, 0, none⟩) (by repeat (first | exact Ext.here | apply Ext.there))) (CR.ones _) (by dsimp only; omega)) rfl (fun _ => (by repeat (first | exact Imp.refl _ | exact Imp.none _ | apply Imp.pull (by repeat (first | exact Ext.here | apply Ext.there)) | apply Imp.trans Imp.drop))) (fun _ => Imp.refl _) (fun _ => (by repeat (first | exact Imp.refl _ | exact Imp.none _ | apply Imp.pull (by repeat (first | exact Ext.here | apply Ext.there)) | apply Imp.trans Imp.drop))) ?_
      rintro ⟨a57, c57⟩ -
      refine DG.look rfl rfl (Yield.assign rfl) rfl ?_
      refine DG.done ?_
      refine QG.block_normal ?_
      refine QG.then ?_
      refine CG.region ?_
      refine OG.yield (Yield.add rfl rfl (w64 (by omega) (by omega))) rfl ?_
      refine OG.yield (Yield.move rfl) rfl ?_
      refine OG.nil ?_
      refine QG.next ⟨i + 1, cas.set i { ca with st := 1 }, ⟨l ++ [⟨s.part, ca.tag, ca.write, s.first + ca.sector, m⟩], a57, c57⟩⟩ ⟨by simp only; omega, ?_, ?_, ?_, ?_⟩ (by simp only; omega) ?_ ?_
      · dsimp only; rw [hst, List.map_set, habs]; rw [iss_one (a := ca.abs) hs]; rfl
      · dsimp only; intro a ha; rcases List.mem_or_eq_of_mem_set ha with ha | rfl; exact hmem a ha; exact hcm
      · dsimp only; rw [htk, List.filter_append, List.map_append, List.map_append, hout]; simp [hs, CA.abs, CR.abs, req, hm]
      · simp only [List.length_append, List.length_cons, List.length_nil]; omega
      · dsimp only [Rqs.cell]; rw [List.length_append]; exact (by repeat (first | exact Env.sub_nil _ | refine Env.sub_cons rfl ?_))
      · dsimp only [Rqs.ms, oasks, oreqs]
        try rw [hxa]
        rw [List.length_append, flat_app, List.length_set, List.map_append]
        exact Imp.trans (Imp.trans (Imp.pull (A := m.own) (by repeat (first | exact Ext.here | apply Ext.there)) (Imp.pull (A := pool (l.map CR.m)) (by repeat (first | exact Ext.here | apply Ext.there)) (Imp.refl _))) pool_add) (by repeat (first | exact Imp.refl _ | exact Imp.none _ | apply Imp.pull (by repeat (first | exact Ext.here | apply Ext.there)) | apply Imp.trans Imp.drop))
  · try replace hc := of_decide_eq_false hc
    refine CG.exit ?_
    refine QG.pass_exit ?_
    refine QG.pass_exit ?_
    refine QG.block_exit ?_
    refine QG.then ?_
    refine CG.seq ?_
    refine CG.region ?_
    refine OG.yield (Yield.move rfl) rfl ?_
    refine OG.yield (Yield.assign rfl) rfl ?_
    refine OG.nil ?_
    refine QG.then ?_
    refine CG.ret ?_
    have hie : i = s.asks.length := by omega
    subst hie
    rw [List.take_length, List.drop_length, List.append_nil] at habs
    rw [List.take_length] at hout
    have hcl2 := d_close (d := d) (G := Fr) (s := issS s) ⟨cas, x.pl, x.a, x.c, x.ta, x.tc⟩ ⟨habs, hmem, ⟨hok.part, hok.first, hok.count, hok.lat, by simp only [issS, List.length_map]; exact hok.asks, hok.told, fun a ha => by simp only [issS, List.mem_map] at ha; obtain ⟨q, hq, rfl⟩ := ha; exact hok.data q hq, fun a ha => by simp only [issS, List.mem_map] at ha; obtain ⟨q, hq, rfl⟩ := ha; exact hok.sec q hq⟩⟩
    dsimp only [DO, issS, List.cons_append, List.nil_append] at hcl2
    rw [hcl] at hcl2
    exact QG.ret1 rfl rfl ⟨l, la, lc⟩ hout rfl (Imp.pull (by repeat (first | exact Ext.here | apply Ext.there)) (Imp.pull (by repeat (first | exact Ext.here | apply Ext.there)) (Imp.trans (by repeat (first | exact Imp.refl _ | exact Imp.none _ | apply Imp.pull (by repeat (first | exact Ext.here | apply Ext.there)) | apply Imp.trans Imp.drop)) hcl2)))
def oi : Option Nat → Int
  | some i => i
  | none => -1
/-- Is it the ask that is looked for? -/
def isB (tag : Int) (a : Ak) : Bool := decide (a.tag = tag) && decide (a.st = 1)
theorem pred_spec {b : Nat} {ca : CA} {tag : Int} (h : Cel W0 Fr ⟨b, 1, none⟩ (.int .u32 tag)) : Ctr Try.prog W0 40 [.agg ca.cells.toArray, .pointer (some ⟨b, 0, none⟩)] Fr (fun _ : Unit => True) (fun _ => .bool (isB tag ca.abs)) (fun _ => Fr) := by
  refine Ctr.of_body Try.func40 rfl Try.ntmps40 rfl ?_
  refine CG.seq ?_
  refine CG.region ?_
  refine OG.effd (Eff.box rfl) rfl ?_
  rintro b2 -
  refine OG.yield (Yield.assign rfl) rfl ?_
  refine OG.nil ?_
  refine QG.then ?_
  refine CG.seq ?_
  rcases (show ca.tag = tag ∨ ca.tag ≠ tag by omega) with hh | hh
  · skip
    refine CG.region ?_
    refine OG.yield (Yield.fieldAddr fa86_0 rfl) rfl ?_
    refine OG.yield (Yield.load (v := .int .u32 ca.tag) ti35 rfl (Cel.of_blk (b := b2) (by repeat (first | exact Ext.here | apply Ext.there)) rfl)) rfl ?_
    refine OG.yield (Yield.fieldAddr fa40_1 rfl) rfl ?_
    refine OG.yield (Yield.load (v := .int .u32 tag) ti35 rfl (fun w hw => h w (hw.imp (by repeat (first | exact Imp.refl _ | exact Imp.none _ | apply Imp.pull (by repeat (first | exact Ext.here | apply Ext.there)) | apply Imp.trans Imp.drop))))) rfl ?_
    refine OG.yield (Yield.as (Yield.eql rfl rfl) (bT hh)) rfl ?_
    refine OG.yield (Yield.move rfl) rfl ?_
    refine OG.guard_yes rfl rfl rfl (by decide) ?_
    refine OG.yield (Yield.fieldAddr fa86_6 rfl) rfl ?_
    refine OG.guard_yes rfl rfl rfl (by decide) ?_
    refine OG.yield (Yield.load (v := .int .i64 ca.st) ti3 rfl (Cel.of_blk (b := b2) (by repeat (first | exact Ext.here | apply Ext.there)) rfl)) rfl ?_
    refine OG.guard_yes rfl rfl rfl (by decide) ?_
    refine OG.yield (Yield.eql rfl rfl) rfl ?_
    refine OG.yield (by first | exact Yield.pick_t rfl rfl | exact Yield.pick_f rfl rfl | exact Yield.pick rfl (fun _ => rfl) (fun _ => rfl)) rfl ?_
    refine OG.yield (Yield.assign rfl) rfl ?_
    refine OG.nil ?_
    refine QG.then ?_
    refine CG.ret ?_
    exact QG.ret1 rfl rfl () trivial (by simp [isB, CA.abs, hh]) (by repeat (first | exact Imp.refl _ | exact Imp.none _ | apply Imp.pull (by repeat (first | exact Ext.here | apply Ext.there)) | apply Imp.trans Imp.drop))
  · skip
    refine CG.region ?_
    refine OG.yield (Yield.fieldAddr fa86_0 rfl) rfl ?_
    refine OG.yield (Yield.load (v := .int .u32 ca.tag) ti35 rfl (Cel.of_blk (b := b2) (by repeat (first | exact Ext.here | apply Ext.there)) rfl)) rfl ?_
    refine OG.yield (Yield.fieldAddr fa40_1 rfl) rfl ?_
    refine OG.yield (Yield.load (v := .int .u32 tag) ti35 rfl (fun w hw => h w (hw.imp (by repeat (first | exact Imp.refl _ | exact Imp.none _ | apply Imp.pull (by repeat (first | exact Ext.here | apply Ext.there)) | apply Imp.trans Imp.drop))))) rfl ?_
    refine OG.yield (Yield.as (Yield.eql rfl rfl) (bF hh)) rfl ?_
    refine OG.yield (Yield.move rfl) rfl ?_
    refine OG.guard_no rfl rfl rfl rfl rfl (by decide) (by decide) ?_
    refine OG.guard_no rfl rfl rfl rfl rfl (by decide) (by decide) ?_
    refine OG.guard_no rfl rfl rfl rfl rfl (by decide) (by decide) ?_
    refine OG.yield (by first | exact Yield.pick_t rfl rfl | exact Yield.pick_f rfl rfl | exact Yield.pick rfl (fun _ => rfl) (fun _ => rfl)) rfl ?_
    refine OG.yield (Yield.assign rfl) rfl ?_
    refine OG.nil ?_
    refine QG.then ?_
    refine CG.ret ?_
    exact QG.ret1 rfl rfl () trivial (by simp [isB, CA.abs, hh]) (by repeat (first | exact Imp.refl _ | exact Imp.none _ | apply Imp.pull (by repeat (first | exact Ext.here | apply Ext.there)) | apply Imp.trans Imp.drop))
theorem find_take {α : Type} {p : α → Bool} {l : List α} {i : Nat} (h : ∀ x ∈ l.take i, p x = false) : ∀ {x : α}, l[i]? = some x → p x = true → l.findIdx? p = some i := by
  intro x hx hp
  rw [List.findIdx?_eq_some_iff_getElem]
  obtain ⟨hi, rfl⟩ := List.getElem?_eq_some_iff.1 hx
  exact ⟨hi, hp, fun j hj => by rw [h _ (List.mem_take_iff_getElem.2 ⟨j, by omega, rfl⟩)]; decide⟩
theorem index_spec {b c : Nat} {a : Option Addr} {cas : List CA} {tag : Int} (hs : SlR W0 Fr 7 a cas.length ((cas.map CA.cells).flatten)) (h : Cel W0 Fr ⟨b, 1, none⟩ (.int .u32 tag)) (hl : cas.length ≤ 2 ^ 20) :
    Ctr Try.prog W0 39 [.slice a cas.length c, .func (.func 40) [].toArray [.pointer (some ⟨b, 0, none⟩)].toArray] Fr (fun _ : Unit => True) (fun _ => .int .i64 (oi ((cas.map CA.abs).findIdx? (isB tag)))) (fun _ => Fr) := by
  refine Ctr.of_body Try.func39 rfl Try.ntmps39 rfl ?_
  refine CG.seq ?_
  refine CG.region ?_
  refine OG.yield (Yield.assign rfl) rfl ?_
  refine OG.nil ?_
  refine QG.then ?_
  refine CG.seq ?_
  refine CG.seq ?_
  refine CG.region ?_
  refine OG.yield (Yield.move rfl) rfl ?_
  refine OG.yield (Yield.len_slice Try.underlying82 rfl rfl) rfl ?_
  refine OG.yield (Yield.move rfl) rfl ?_
  refine OG.nil ?_
  refine QG.then ?_
  refine CG.block ?_
  refine CG.loop (fun i : Nat => i ≤ cas.length ∧ ∀ y ∈ (cas.map CA.abs).take i, isB tag y = false) (fun i => [(0, .slice a cas.length c), (1, .func (.func 40) [].toArray [.pointer (some ⟨b, 0, none⟩)].toArray), (7, .int .i64 cas.length), (8, .int .i64 i)]) (fun _ => Fr) (fun i => cas.length - i) 0 ⟨Nat.zero_le _, fun y h => absurd h (by simp)⟩ (by repeat (first | exact Env.sub_nil _ | refine Env.sub_cons rfl ?_)) (Imp.refl _) ?_
  rintro i ⟨hi, hno⟩
  refine CG.seq ?_
  refine CG.region ?_
  refine OG.yield (by first | exact Yield.as (Yield.lss rfl rfl) (bT (by omega)) | exact Yield.as (Yield.lss rfl rfl) (bF (by omega)) | exact Yield.lss rfl rfl) rfl ?_
  refine OG.nil ?_
  refine QG.then ?_
  refine CG.seq ?_
  refine CG.cond rfl (fun hc => ?_) (fun hc => ?_)
  · try replace hc := of_decide_eq_true hc
    have hi' : i < cas.length := by omega
    have hget : cas[i]? = some cas[i] := by simp [hi']
    generalize cas[i] = ca at hget
    have hga : (cas.map CA.abs)[i]? = some ca.abs := by rw [List.getElem?_map, hget]; rfl
    refine CG.pure (fun w hw => hs.elem_shape (i := i) CA.len (by decide) hi' w hw) ?_
    rintro ⟨ba, oa, rfl⟩
    refine CG.skip ?_
    refine QG.then ?_
    refine CG.seq ?_
    refine CG.block ?_
    refine CG.seq ?_
    refine CG.region ?_
    refine OG.yield (Yield.move rfl) rfl ?_
    refine OG.yield (Yield.assign rfl) rfl ?_
    refine OG.nil ?_
    refine QG.then ?_
    refine CG.seq ?_
    refine CG.region ?_
    refine OG.yield (Yield.move rfl) rfl ?_
    refine OG.yield (Yield.move rfl) rfl ?_
    refine OG.yield (Yield.move rfl) rfl ?_
    refine OG.yield (Yield.index_slice Try.underlying82 ti86 rfl rfl (by omega) (by omega)) rfl ?_
    refine OG.yield (Yield.load_agg (vs := ca.cells) ti86 rfl (CA.len ca) (by rw [show oa + (i : Int).toNat * 7 = oa + i * 7 by omega]; exact hs.elem CA.len hget)) rfl ?_
    refine OG.callv call40 rfl rfl (Imp.refl _) (pred_spec W0 _ (b := b) (ca := ca) (tag := tag) h) rfl ?_
    rintro ⟨⟩ -
    refine OG.nil ?_
    refine QG.then ?_
    refine CG.cond rfl (fun hc => ?_) (fun hc => ?_)
    · try replace hc := of_decide_eq_true hc
      refine CG.seq ?_
      refine CG.region ?_
      refine OG.yield (Yield.move rfl) rfl ?_
      refine OG.yield (Yield.assign rfl) rfl ?_
      refine OG.nil ?_
      refine QG.then ?_
      refine CG.ret ?_
      refine QG.block_ret ?_
      refine QG.pass_ret ?_
      refine QG.pass_ret ?_
      refine QG.block_ret ?_
      refine QG.pass_ret ?_
      exact QG.ret1 rfl rfl () trivial (by rw [find_take hno hga hc]; rfl) (by repeat (first | exact Imp.refl _ | exact Imp.none _ | apply Imp.pull (by repeat (first | exact Ext.here | apply Ext.there)) | apply Imp.trans Imp.drop))
    · try replace hc := of_decide_eq_false hc
      refine CG.skip ?_
      refine QG.block_normal ?_
      refine QG.then ?_
      refine CG.region ?_
      refine OG.yield (Yield.add rfl rfl (w64 (by omega) (by omega))) rfl ?_
      refine OG.yield (Yield.move rfl) rfl ?_
      refine OG.nil ?_
      refine QG.next (i + 1) ⟨by omega, ?_⟩ (by omega) (by repeat (first | exact Env.sub_nil _ | refine Env.sub_cons rfl ?_)) (by repeat (first | exact Imp.refl _ | exact Imp.none _ | apply Imp.pull (by repeat (first | exact Ext.here | apply Ext.there)) | apply Imp.trans Imp.drop))
      intro y hy
      obtain ⟨hlt, hq⟩ := List.getElem?_eq_some_iff.1 hga
      rw [List.take_succ_eq_append_getElem hlt, hq] at hy
      rcases List.mem_append.1 hy with hy | hy
      · exact hno y hy
      · simp only [List.mem_cons, List.not_mem_nil, or_false] at hy; subst hy; exact hc
  · try replace hc := of_decide_eq_false hc
    refine CG.exit ?_
    refine QG.pass_exit ?_
    refine QG.pass_exit ?_
    refine QG.block_exit ?_
    refine QG.then ?_
    refine CG.seq ?_
    refine CG.region ?_
    refine OG.yield (Yield.assign rfl) rfl ?_
    refine OG.nil ?_
    refine QG.then ?_
    refine CG.ret ?_
    have hie : i = cas.length := by omega
    subst hie
    refine QG.ret1 rfl rfl () trivial ?_ (by repeat (first | exact Imp.refl _ | exact Imp.none _ | apply Imp.pull (by repeat (first | exact Ext.here | apply Ext.there)) | apply Imp.trans Imp.drop))
    rw [show (cas.map CA.abs).findIdx? (isB tag) = none by rw [List.findIdx?_eq_none_iff]; intro y hy; exact hno y (by rw [List.take_of_length_le (by simp)]; exact hy)]
    rfl
/-- What Complete answers, and the asks behind it. -/
def comR (s : Ds) (tag : Int) (data : B) : Int × Ds :=
  match s.asks.findIdx? (isB tag) with
  | none => (302, s)
  | some i => match s.asks[i]? with
    | none => (302, s)
    | some a => if a.write = false ∧ data.length ≠ 64 then (6, s) else (0, { s with asks := s.asks.set i { a with st := 2, data := if a.write then a.data else data } })
set_option maxHeartbeats 1000000 in
theorem complete_spec {d : Nat} {s : Ds} {r : CR} (hr : RdB W0 Fr r.m.a r.m.c r.m.b) (hrl : r.m.b.length ≤ 2 ^ 47) : Ctr Try.prog W0 16 [.pointer (some ⟨d, 0, none⟩), .agg r.cells.toArray] (D d s :: Fr) (fun _ : Unit => True) (fun _ => .int .i64 (comR s r.tag r.m.b).1) (fun _ => D d (comR s r.tag r.m.b).2 :: Fr) := by
  refine Ctr.ex Ext.here d_open ?_
  intro x hx
  refine Ctr.imp star_open ?_
  have hln := hx.len
  have hok := hx.ok
  have hal := hx.ok.asks
  have hcl := d_close (d := d) (G := Fr) x hx
  dsimp only [DO, List.cons_append, List.nil_append] at hcl ⊢
  have hab := hx.abs
  refine Ctr.of_body Try.func16 rfl Try.ntmps16 rfl ?_
  refine CG.seq ?_
  refine CG.region ?_
  refine OG.effd (Eff.box rfl) rfl ?_
  rintro b3 -
  refine OG.yield (Yield.assign rfl) rfl ?_
  refine OG.nil ?_
  refine QG.then ?_
  refine CG.seq ?_
  refine CG.region ?_
  refine OG.yield (Yield.move rfl) rfl ?_
  refine OG.yield (Yield.nilCheck rfl) rfl ?_
  refine OG.yield (Yield.fieldAddr fa84_5 rfl) rfl ?_
  refine OG.yield (Yield.load ti82 rfl (by first | exact Cel.of_blk (by repeat (first | exact Ext.here | apply Ext.there)) rfl | exact (hrow (by repeat (first | exact Ext.here | apply Ext.there))) _ _ rfl)) rfl ?_
  refine OG.yield (Yield.makeFunc (first := []) (cap := [.tmp 3]) rfl rfl) rfl ?_
  refine OG.callo call39 rfl (Imp.refl _) (index_spec W0 _ (b := b3) (a := x.a) (c := x.c) (cas := x.cas) (tag := r.tag) (by exact SlR.of_osl (E := 86) (by repeat (first | exact Ext.here | apply Ext.there))) (by exact Cel.of_blk (b := b3) (by repeat (first | exact Ext.here | apply Ext.there)) rfl) (by omega)) rfl ?_
  rintro ⟨⟩ -
  rw [hab]
  refine OG.yield (Yield.assign rfl) rfl ?_
  refine OG.nil ?_
  refine QG.then ?_
  refine CG.seq ?_
  refine CG.seq ?_
  rcases hf : s.asks.findIdx? (isB r.tag) with _ | i
  · skip
    refine CG.region ?_
    refine OG.yield (Yield.move rfl) rfl ?_
    refine OG.yield (by first | exact Yield.as (Yield.lss rfl rfl) (bT (by omega)) | exact Yield.as (Yield.lss rfl rfl) (bF (by omega)) | exact Yield.lss rfl rfl) rfl ?_
    refine OG.nil ?_
    refine QG.then ?_
    refine CG.cond_t rfl ?_
    refine CG.seq ?_
    refine CG.region ?_
    refine OG.yield (Yield.assign rfl) rfl ?_
    refine OG.nil ?_
    refine QG.then ?_
    refine CG.ret ?_
    refine QG.pass_ret ?_
    have hcr : comR s r.tag r.m.b = (302, s) := by unfold comR; rw [hf]
    rw [hcr]
    exact QG.ret1 rfl rfl () trivial rfl (Imp.trans (by repeat (first | exact Imp.refl _ | exact Imp.none _ | apply Imp.pull (by repeat (first | exact Ext.here | apply Ext.there)) | apply Imp.trans Imp.drop)) hcl)
  · skip
    obtain ⟨hi, hp, -⟩ := List.findIdx?_eq_some_iff_getElem.1 hf
    have hget : s.asks[i]? = some s.asks[i] := by simp [hi]
    generalize s.asks[i] = ak at hget hp
    obtain ⟨ca, hgc, hca⟩ := hx.get hget
    subst hca
    have hcm := hx.mem ca (List.mem_of_getElem? hgc)
    have hcr : comR s r.tag r.m.b = if ca.write = false ∧ r.m.b.length ≠ 64 then (6, s) else (0, { s with asks := s.asks.set i { ca.abs with st := 2, data := if ca.write then ca.m.b else r.m.b } }) := by unfold comR; rw [hf]; dsimp only; rw [hget]; rfl
    refine CG.region ?_
    refine OG.yield (Yield.move rfl) rfl ?_
    refine OG.yield (by first | exact Yield.as (Yield.lss rfl rfl) (bT (by omega)) | exact Yield.as (Yield.lss rfl rfl) (bF (by omega)) | exact Yield.lss rfl rfl) rfl ?_
    refine OG.nil ?_
    refine QG.then ?_
    refine CG.cond_f rfl ?_
    refine CG.skip ?_
    refine QG.then ?_
    refine CG.seq ?_
    refine CG.pure (fun w hw => shape_as (n := i) (l := x.cas) (by omega) (by repeat (first | exact Ext.here | apply Ext.there)) w hw) ?_
    rintro ⟨b, o, hxa⟩
    rw [hxa] at hcl ⊢
    refine CG.region ?_
    refine OG.yield (Yield.move rfl) rfl ?_
    refine OG.yield (Yield.nilCheck rfl) rfl ?_
    refine OG.yield (Yield.fieldAddr fa84_5 rfl) rfl ?_
    refine OG.yield (Yield.load (v := .slice (some ⟨b, o, none⟩) x.cas.length x.c) ti82 rfl (Cel.of_blk (b := d) (by repeat (first | exact Ext.here | apply Ext.there)) rfl)) rfl ?_
    refine OG.yield (Yield.move rfl) rfl ?_
    refine OG.yield (Yield.index_slice (b := b) (o := o) (m := x.cas.length) (c := x.c) (j := (i : Int)) Try.underlying82 ti86 rfl rfl (by omega) (by omega)) rfl ?_
    refine OG.yield (Yield.assign rfl) rfl ?_
    refine OG.nil ?_
    refine QG.then ?_
    refine CG.seq ?_
    refine CG.seq ?_
    rcases (show (ca.write = false ∧ r.m.b.length ≠ 64) ∨ (ca.write = false ∧ r.m.b.length = 64) ∨ ca.write = true by cases ca.write <;> simp <;> omega) with hh | hh | hh
    · skip
      refine CG.region ?_
      refine OG.yield (Yield.move rfl) rfl ?_
      refine OG.yield (Yield.nilCheck rfl) rfl ?_
      refine OG.yield (Yield.fieldAddr fa86_1 rfl) rfl ?_
      refine OG.yield (Yield.load (v := .bool ca.write) ti4 rfl (((SlR.of_osl (E := 86) (a := some ⟨b, o, none⟩) (by repeat (first | exact Ext.here | apply Ext.there))).elem CA.len hgc) 1 _ rfl)) rfl ?_
      refine OG.yield (Yield.as (Yield.not rfl) (v' := .bool true) (by rw [hh.1]; rfl)) rfl ?_
      refine OG.nil ?_
      refine QG.then ?_
      refine CG.cond_t rfl ?_
      refine CG.seq ?_
      refine CG.seq ?_
      refine CG.region ?_
      refine OG.yield (Yield.fieldAddr fa40_4 rfl) rfl ?_
      refine OG.yield (Yield.load (v := r.m.cell) ti36 rfl (Cel.of_blk (b := b3) (by repeat (first | exact Ext.here | apply Ext.there)) rfl)) rfl ?_
      refine OG.yield (Yield.len_slice (a := r.m.a) (m := r.m.b.length) (c := r.m.c) Try.underlying36 rfl rfl) rfl ?_
      refine OG.yield (by first | exact Yield.as (Yield.neq rfl rfl) (bT (by omega)) | exact Yield.as (Yield.neq rfl rfl) (bF (by omega)) | exact Yield.neq rfl rfl) rfl ?_
      refine OG.nil ?_
      refine QG.then ?_
      refine CG.cond_t rfl ?_
      refine CG.seq ?_
      refine CG.region ?_
      refine OG.yield (Yield.assign rfl) rfl ?_
      refine OG.nil ?_
      refine QG.then ?_
      refine CG.ret ?_
      refine QG.pass_ret ?_
      refine QG.pass_ret ?_
      rw [hcr, if_pos hh]
      exact QG.ret1 rfl rfl () trivial rfl (Imp.trans (by repeat (first | exact Imp.refl _ | exact Imp.none _ | apply Imp.pull (by repeat (first | exact Ext.here | apply Ext.there)) | apply Imp.trans Imp.drop)) hcl)
    · skip
      refine CG.region ?_
      refine OG.yield (Yield.move rfl) rfl ?_
      refine OG.yield (Yield.nilCheck rfl) rfl ?_
      refine OG.yield (Yield.fieldAddr fa86_1 rfl) rfl ?_
      refine OG.yield (Yield.load (v := .bool ca.write) ti4 rfl (((SlR.of_osl (E := 86) (a := some ⟨b, o, none⟩) (by repeat (first | exact Ext.here | apply Ext.there))).elem CA.len hgc) 1 _ rfl)) rfl ?_
      refine OG.yield (Yield.as (Yield.not rfl) (v' := .bool true) (by rw [hh.1]; rfl)) rfl ?_
      refine OG.nil ?_
      refine QG.then ?_
      refine CG.cond_t rfl ?_
      refine CG.seq ?_
      refine CG.seq ?_
      refine CG.region ?_
      refine OG.yield (Yield.fieldAddr fa40_4 rfl) rfl ?_
      refine OG.yield (Yield.load (v := r.m.cell) ti36 rfl (Cel.of_blk (b := b3) (by repeat (first | exact Ext.here | apply Ext.there)) rfl)) rfl ?_
      refine OG.yield (Yield.len_slice (a := r.m.a) (m := r.m.b.length) (c := r.m.c) Try.underlying36 rfl rfl) rfl ?_
      refine OG.yield (by first | exact Yield.as (Yield.neq rfl rfl) (bT (by omega)) | exact Yield.as (Yield.neq rfl rfl) (bF (by omega)) | exact Yield.neq rfl rfl) rfl ?_
      refine OG.nil ?_
      refine QG.then ?_
      refine CG.cond_f rfl ?_
      refine CG.skip ?_
      refine QG.then ?_
      refine CG.region ?_
      refine OG.yield (Yield.move rfl) rfl ?_
      refine OG.yield (Yield.fieldAddr fa40_4 rfl) rfl ?_
      refine OG.yield (Yield.load (v := r.m.cell) ti36 rfl (Cel.of_blk (b := b3) (by repeat (first | exact Ext.here | apply Ext.there)) rfl)) rfl ?_
      refine OG.callo call38 rfl (Imp.refl _) (cloneB_spec W0 _ (a := r.m.a) (c := r.m.c) (bs := r.m.b) (by exact hr.imp (by repeat (first | exact Imp.refl _ | exact Imp.none _ | apply Imp.pull (by repeat (first | exact Ext.here | apply Ext.there)) | apply Imp.trans Imp.drop))) (by omega)) rfl ?_
      rintro m hm
      refine OG.yield (Yield.nilCheck rfl) rfl ?_
      refine OG.yield (Yield.fieldAddr fa86_4 rfl) rfl ?_
      refine OG.eff (Eff.storeFld (i := i) 4 (r := ca) (r' := { ca with m := m }) (rs := x.cas) CA.len hgc rfl (by decide) ti36 rfl rfl (by repeat (first | exact Foc.here | apply Foc.there)) rfl rfl) rfl ?_
      rintro ⟨⟩ -
      refine OG.nil ?_
      refine QG.then ?_
      refine CG.seq ?_
      refine CG.region ?_
      refine OG.yield (Yield.move rfl) rfl ?_
      refine OG.yield (Yield.nilCheck rfl) rfl ?_
      refine OG.yield (Yield.fieldAddr fa86_6 rfl) rfl ?_
      refine OG.eff (Eff.storeFld (i := i) 6 (r := { ca with m := m }) (r' := { ca with m := m, st := 2 }) (rs := x.cas.set i { ca with m := m }) CA.len (by rw [List.getElem?_set_self (by omega)]) rfl (by decide) ti3 rfl rfl (by repeat (first | exact Foc.here | apply Foc.there)) rfl (by rw [List.length_set])) rfl ?_
      rintro ⟨⟩ -
      refine OG.nil ?_
      refine QG.then ?_
      refine CG.seq ?_
      refine CG.region ?_
      refine OG.yield (Yield.assign rfl) rfl ?_
      refine OG.nil ?_
      refine QG.then ?_
      refine CG.ret ?_
      rw [hcr, if_neg (by rw [hh.2]; simp), if_neg (by rw [hh.1]; decide)]
      have hcl2 := d_close (d := d) (G := Fr) (s := { s with asks := s.asks.set i { ca.abs with st := 2, data := r.m.b } }) ⟨x.cas.set i { ca with m := m, st := 2 }, x.pl ++ [m], some ⟨b, o, none⟩, x.c, x.ta, x.tc⟩ ⟨by dsimp only; rw [List.map_set, hab]; simp [CA.abs, hm], fun a ha => by rcases List.mem_or_eq_of_mem_set ha with ha | rfl; exact List.mem_append.2 (.inl (hx.mem a ha)); simp, ⟨hok.part, hok.first, hok.count, hok.lat, by dsimp only; rw [List.length_set]; exact hok.asks, hok.told, fun a ha => by rcases List.mem_or_eq_of_mem_set ha with ha | rfl; exact hok.data a ha; dsimp only; omega, fun a ha => by rcases List.mem_or_eq_of_mem_set ha with ha | rfl; exact hok.sec a ha; exact hok.sec ca.abs (List.mem_of_getElem? hget)⟩⟩
      dsimp only [DO, oasks, List.cons_append, List.nil_append] at hcl2
      rw [List.length_set] at hcl2
      refine QG.ret1 rfl rfl () trivial rfl (Imp.trans ?_ hcl2)
      rw [List.set_set]
      exact Imp.trans (Imp.trans (Imp.pull (A := m.own) (by repeat (first | exact Ext.here | apply Ext.there)) (Imp.pull (A := pool x.pl) (by repeat (first | exact Ext.here | apply Ext.there)) (Imp.refl _))) pool_add) (by repeat (first | exact Imp.refl _ | exact Imp.none _ | apply Imp.pull (by repeat (first | exact Ext.here | apply Ext.there)) | apply Imp.trans Imp.drop))
    · skip
      refine CG.region ?_
      refine OG.yield (Yield.move rfl) rfl ?_
      refine OG.yield (Yield.nilCheck rfl) rfl ?_
      refine OG.yield (Yield.fieldAddr fa86_1 rfl) rfl ?_
      refine OG.yield (Yield.load (v := .bool ca.write) ti4 rfl (((SlR.of_osl (E := 86) (a := some ⟨b, o, none⟩) (by repeat (first | exact Ext.here | apply Ext.there))).elem CA.len hgc) 1 _ rfl)) rfl ?_
      refine OG.yield (Yield.as (Yield.not rfl) (v' := .bool false) (by rw [hh]; rfl)) rfl ?_
      refine OG.nil ?_
      refine QG.then ?_
      refine CG.cond_f rfl ?_
      refine CG.skip ?_
      refine QG.then ?_
      refine CG.seq ?_
      refine CG.region ?_
      refine OG.yield (Yield.move rfl) rfl ?_
      refine OG.yield (Yield.nilCheck rfl) rfl ?_
      refine OG.yield (Yield.fieldAddr fa86_6 rfl) rfl ?_
      refine OG.eff (Eff.storeFld (i := i) 6 (r := ca) (r' := { ca with st := 2 }) (rs := x.cas) CA.len hgc rfl (by decide) ti3 rfl rfl (by repeat (first | exact Foc.here | apply Foc.there)) rfl rfl) rfl ?_
      rintro ⟨⟩ -
      refine OG.nil ?_
      refine QG.then ?_
      refine CG.seq ?_
      refine CG.region ?_
      refine OG.yield (Yield.assign rfl) rfl ?_
      refine OG.nil ?_
      refine QG.then ?_
      refine CG.ret ?_
      rw [hcr, if_neg (by rw [hh]; simp), if_pos hh]
      have hcl2 := d_close (d := d) (G := Fr) (s := { s with asks := s.asks.set i { ca.abs with st := 2, data := ca.m.b } }) ⟨x.cas.set i { ca with st := 2 }, x.pl, some ⟨b, o, none⟩, x.c, x.ta, x.tc⟩ ⟨by dsimp only; rw [List.map_set, hab]; simp [CA.abs], fun a ha => by rcases List.mem_or_eq_of_mem_set ha with ha | rfl; exact hx.mem a ha; exact hcm, ⟨hok.part, hok.first, hok.count, hok.lat, by dsimp only; rw [List.length_set]; exact hok.asks, hok.told, fun a ha => by rcases List.mem_or_eq_of_mem_set ha with ha | rfl; exact hok.data a ha; exact hok.data ca.abs (List.mem_of_getElem? hget), fun a ha => by rcases List.mem_or_eq_of_mem_set ha with ha | rfl; exact hok.sec a ha; exact hok.sec ca.abs (List.mem_of_getElem? hget)⟩⟩
      dsimp only [DO, oasks, List.cons_append, List.nil_append] at hcl2
      rw [List.length_set] at hcl2
      exact QG.ret1 rfl rfl () trivial rfl (Imp.trans (by repeat (first | exact Imp.refl _ | exact Imp.none _ | apply Imp.pull (by repeat (first | exact Ext.here | apply Ext.there)) | apply Imp.trans Imp.drop)) hcl2)
end
end Go.Proofs.Ytoejnhfcegchhaa.Vd
