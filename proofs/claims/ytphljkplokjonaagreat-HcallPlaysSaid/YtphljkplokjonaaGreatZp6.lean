/- Rules for steps of the model, and what functions of the program do. -/
import Derived.Test.YtphljkplokjonaaGreatZp5
import Derived.Test.YtphljkplokjonaaGreatRows
set_option linter.unusedVariables false
set_option linter.unusedSimpArgs false
set_option linter.unusedSectionVars false
set_option maxRecDepth 100000
namespace Go.Proofs.YtphljkplokjonaaGreat.Vd
open Go Go.Sl Go.RowKit Go.Proofs Go.Proofs.YtphljkplokjonaaGreat.T Go.Proofs.YtphljkplokjonaaGreat.Ms Tryz
structure Rq where
 part : Int
 tag : Int
 write : Bool
 sector : Int
 data : B
structure CR where
 part : Int
 tag : Int
 write : Bool
 sector : Int
 m : Msg
def CR.cells (r : CR) : List Value := [.int .i64 r.part, .int .u32 r.tag, .bool r.write, .int .i64 r.sector, r.m.cell]
def CR.abs (r : CR) : Rq := ⟨r.part, r.tag, r.write, r.sector, r.m.b⟩
theorem CR.len (r : CR) : r.cells.length = 5 := rfl
theorem CR.ones (r : CR) : ∀ v ∈ r.cells, one v = true := by simp [CR.cells, one, Msg.cell]
abbrev oreqs (a : Option Addr) (c : Nat) (l : List CR) : HProp := osl 101 5 a c l.length ((l.map CR.cells).flatten)
structure Rqs where
 l : List CR
 a : Option Addr
 c : Nat
def Rqs.ms (r : Rqs) : List Msg := r.l.map CR.m
abbrev Rqs.G (r : Rqs) : List HProp := [oreqs r.a r.c r.l, pool r.ms]
def Rqs.cell (r : Rqs) : Value := .slice r.a r.l.length r.c
def iss (a : Ak) : Ak := { a with st := if a.st = 0 then 1 else a.st }
theorem iss_one {a : Ak} (h : a.st = 0) : iss a = { a with st := 1 } := by unfold iss; rw [if_pos h]
theorem iss_no {a : Ak} (h : a.st ≠ 0) : iss a = a := by unfold iss; rw [if_neg h]
def req (s : Ds) (a : Ak) : Rq := ⟨s.part, a.tag, a.write, s.first + a.sector, a.data⟩
def issR (s : Ds) : List Rq := (s.asks.filter fun a => a.st == 0).map (req s)
def issS (s : Ds) : Ds := { s with asks := s.asks.map iss }
theorem mapto_step {α : Type} {f : α → α} {l : List α} {i : Nat} {x : α} (h : l[i]? = some x) : (l.take (i + 1)).map f ++ l.drop (i + 1) = ((l.take i).map f ++ l.drop i).set i (f x) := by
 obtain ⟨hi, rfl⟩ := List.getElem?_eq_some_iff.1 h
 have hl : ((l.take i).map f).length = i := by simp; omega
 rw [List.set_append_right _ _ (by omega), hl, Nat.sub_self, List.drop_eq_getElem_cons hi, List.set_cons_zero, List.take_succ_eq_append_getElem hi, List.map_append, List.append_assoc]; rfl
theorem mapto_get {α : Type} {f : α → α} {l : List α} {i : Nat} {x : α} (h : l[i]? = some x) : ((l.take i).map f ++ l.drop i)[i]? = some x := by
 obtain ⟨hi, rfl⟩ := List.getElem?_eq_some_iff.1 h
 have hl : ((l.take i).map f).length = i := by simp; omega
 rw [List.getElem?_append_right (by omega), hl, Nat.sub_self]; simp [hi]
theorem mapto_len {α : Type} {f : α → α} {l : List α} {i : Nat} (h : i ≤ l.length) : ((l.take i).map f ++ l.drop i).length = l.length := by simp; omega
structure It where
 i : Nat
 cas : List CA
 out : Rqs
structure It.OK (s : Ds) (pl : List Msg) (t : It) : Prop where
 le : t.i ≤ s.asks.length
 abs : t.cas.map CA.abs = (s.asks.take t.i).map iss ++ s.asks.drop t.i
 mem : ∀ a ∈ t.cas, a.m ∈ pl
 out : t.out.l.map CR.abs = ((s.asks.take t.i).filter fun a => a.st == 0).map (req s)
 outl : t.out.l.length ≤ t.i
section
variable (W0 : World) (Fr : List HProp)
set_option maxHeartbeats 2000000 in
theorem issue_spec {d : Nat} {s : Ds} : Ctr prog W0 42 [.pointer (some ⟨d, 0, none⟩)] (D d s :: Fr) (fun r : Rqs => r.l.map CR.abs = issR s) (fun r => r.cell) (fun r => r.G ++ (D d (issS s) :: Fr)) := by
 refine Ctr.ex Ext.here d_open ?_
 intro x hx
 refine Ctr.imp star_open ?_
 have hln := hx.len
 have hok := hx.ok
 have hal := hx.ok.asks
 have hfst := hx.ok.first
 have hcnt := hx.ok.count
 dsimp only [DO, List.cons_append, List.nil_append]
 refine Ctr.of_body func42 J ntmps42 J (cZ (aZ (gZ J (fZ (bZ (cZ (aZ (gZ J (fZ (bZ (cZ (cZ (aZ (eZ J (zZ J (pZ fa175_5 J (dZ (iZ ti173 J) ?_)))))))))))))))))
 refine dZ (sZ underlying173 J J) (eZ J (fZ (bZ (mQ (mX (fun t : It => t.OK s x.pl) (fun t => [(0, .pointer (some ⟨d, 0, none⟩)), (3, t.out.cell), (10, .int .i64 s.asks.length), (11, .int .i64 t.i)]) (fun t => DH d s s.last x.a s.asks.length x.c x.ta s.told.length x.tc :: oasks x.a x.c t.cas :: oreqs t.out.a t.out.c t.out.l :: pool t.out.ms :: onum 27 .u32 x.ta x.tc s.told :: pool x.pl :: Fr) (fun t => s.asks.length - t.i) ⟨0, x.cas, ⟨[], none, 0⟩⟩ ⟨Nat.zero_le _, by rw [List.take_zero, List.drop_zero, hx.abs]; rfl, hx.mem, rfl, Nat.le_refl _⟩ (by rw [← hln]; exact eS) (by rw [← hln]; exact Imp.trans pool_nil (Imp.trans (osl_nil (E := 101) (sz := 5)) iM)) ?_)))))
 rintro ⟨i, cas, ⟨l, la, lc⟩⟩ ⟨hi, habs, hmem, hout, hol⟩
 dsimp only at hi habs hmem hout hol ⊢
 have hcl : cas.length = s.asks.length := by have := congrArg List.length habs; rw [mapto_len hi, List.length_map] at this; exact this
 refine cZ (aZ (dZ eQ ?_))
 refine fZ (bZ (cZ (lQ J (fun hc => ?_) (fun hc => ?_))))
 ·try replace hc := odT hc
  have hi' : i < s.asks.length := by omega
  have hget : s.asks[i]? = some s.asks[i] := by simp [hi']
  generalize s.asks[i] = ak at hget
  have hgm := mapto_get (f := iss) hget
  have hst := mapto_step (f := iss) hget
  have hsec := hok.sec ak (List.mem_of_getElem? hget)
  have hdat := hok.data ak (List.mem_of_getElem? hget)
  obtain ⟨ca, hgc, hca⟩ : ∃ ca, cas[i]? = some ca ∧ ca.abs = ak := by
   rw [← habs, List.getElem?_map] at hgm
   cases hc : cas[i]? with
   | none => rw [hc] at hgm; cases hgm
   | some c => rw [hc] at hgm; exact ⟨c, rfl, by simpa using hgm⟩
  have hcm := hmem ca (List.mem_of_getElem? hgc)
  have htk : s.asks.take (i + 1) = s.asks.take i ++ [ak] := by obtain ⟨hlt, rfl⟩ := List.getElem?_eq_some_iff.1 hget; exact List.take_succ_eq_append_getElem hlt
  subst hca
  refine lX (fun w hw => shape_as (n := i) (l := cas) (by omega) eX w hw) ?_
  rintro ⟨b, o, hxa⟩
  rw [hxa]
  rw [hxa] at *
  refine uZ (bZ (cZ (mQ (cZ (aZ (eZ J (gZ J (fZ (bZ (cZ (aZ (eZ J (zZ J (pZ fa175_5 J (dZ (jZ (v := .slice (some ⟨b, o, none⟩) s.asks.length x.c) ti173 J (Cel.of_blk (b := d) eX J)) ?_)))))))))))))))
  refine eZ J (dZ (lZ underlying173 ti177 J J (by omega) (by omega)) ?_)
  refine gZ J (fZ (bZ (cZ (cZ ?_))))
  rcases (show ca.st ≠ 0 ∨ ca.st = 0 by omega) with hs | hs
  ·refine aZ (eZ J (zZ J (pZ fa177_6 J (dZ (jZ (v := .int .i64 ca.st) ti3 J (((SlR.of_osl (E := 177) (a := some ⟨b, o, none⟩) eX).elem CA.len hgc) 6 _ J)) ?_))))
   refine dZ vQ ?_
   refine fZ (bZ (fQ J (iX (bQ (tQ (bZ (aZ (dZ (hQ J J wO) (eZ J (fZ (gX ⟨i + 1, cas, ⟨l, la, lc⟩⟩ ⟨by simp only; omega, ?_, hmem, ?_, by simp only; omega⟩ (by simp only; omega) eS (by dsimp only; rw [hxa]; exact iM))))))))))))
   ·dsimp only; rw [hst, habs]; symm; refine set_self ?_; rw [iss_no (a := ca.abs) hs]; exact hgm
   ·dsimp only; rw [htk, List.filter_append, hout]; simp [hs, CA.abs]
  ·refine aZ (eZ J (zZ J (pZ fa177_6 J (dZ (jZ (v := .int .i64 ca.st) ti3 J (((SlR.of_osl (E := 177) (a := some ⟨b, o, none⟩) eX).elem CA.len hgc) 6 _ J)) ?_))))
   refine dZ vQ ?_
   refine fZ (bZ (vZ J (uZ (bZ (cZ (aZ (eZ J (zZ J (pZ fa177_6 J (sQ (fV (i := i) 6 (r := ca) (r' := { ca with st := 1 }) (rs := cas) CA.len hgc J (by decide) ti3 J J fC J (by omega)) J ?_))))))))))
   rintro ⟨⟩ -
   have hgc2 : (cas.set i { ca with st := 1 })[i]? = some { ca with st := 1 } := by rw [List.getElem?_set_self (by omega)]
   refine fZ (bZ (qQ (.lo 0 0 (.lo 1 0 (.lo 2 0 (.lo 3 0 (.lo 4 0 (.lo 5 0 (.lo 6 0 (.lo 7 0 (.lo 8 0 (.lo 9 0 (.lo 10 0 (.lo 11 0 (.lo 12 0 (.lo 13 0 (.lo 14 0 (.lo 15 0 (.lo 16 0 (.lo 17 0 (.lo 18 0 (.lo 19 0 (.lo 20 0 (.lo 21 0 (.lo 22 1 (.lo 23 1 (.lo 24 1 (.lo 25 1 (.eff1 26 false (.lo 27 1 (.eff1 28 false (.eff1 29 false (.lo 30 1 (.done)))))))))))))))))))))))))))))))) [26, 28, 29] [] ([DH d s s.last (some ⟨b, o, none⟩) s.asks.length x.c x.ta s.told.length x.tc, osl 177 7 (some ⟨b, o, none⟩) x.c cas.length (((cas.set i { ca with st := 1 }).map CA.cells).flatten)]) ([]) mixed (by kernel_rfl) (iM) (Imp.none _) ?_))
   refine nZ J J (nZ J J (dQ J J (wZ J fa175_0 J (hZ J (jZ (v := .int .i64 s.part) ti3 J (Cel.of_blk (b := d) eX J)) ?_))))
   refine nZ J J (dQ J J (wZ J fa177_0 J (hZ J (jZ (v := .int .u32 ca.tag) ti27 J (((SlR.of_osl (E := 177) (a := some ⟨b, o, none⟩) eX).elem CA.len hgc2) 0 _ J)) ?_)))
   refine nZ J J (dQ J J (wZ J fa177_1 J (hZ J (jZ (v := .bool ca.write) ti4 J (((SlR.of_osl (E := 177) (a := some ⟨b, o, none⟩) eX).elem CA.len hgc2) 1 _ J)) ?_)))
   refine nZ J J (dQ J J (wZ J fa175_1 J (hZ J (jZ (v := .int .i64 s.first) ti3 J (Cel.of_blk (b := d) eX J)) ?_)))
   refine nZ J J (dQ J J (wZ J fa177_2 J (hZ J (jZ (v := .int .i64 ca.sector) ti3 J (((SlR.of_osl (E := 177) (a := some ⟨b, o, none⟩) eX).elem CA.len hgc2) 2 _ J)) ?_)))
   refine hZ J (hQ J J (w64 (by have := hsec.1; have h9 : (CA.abs ca).sector = ca.sector := rfl; omega) (by have := hsec.2; have h9 : (CA.abs ca).sector = ca.sector := rfl; omega))) ?_
   refine nZ J J (dQ J J (wZ J fa177_4 J (hZ J (jZ (v := ca.m.cell) ti32 J (((SlR.of_osl (E := 177) (a := some ⟨b, o, none⟩) eX).elem CA.len hgc2) 4 _ J)) ?_)))
   refine aQ (rQ J J call94 J (Imp.refl _) (cloneB_spec W0 _ (a := ca.m.a) (c := ca.m.c) (bs := ca.m.b) (by exact pool_rd (ms := x.pl) eX hcm) (by have h9 : (CA.abs ca).data = ca.m.b := rfl; rw [h9] at hdat; omega)) J (fun _ => iM) (fun _ => Imp.refl _) (fun _ => iM) ?_)
   rintro m hm
   refine hZ J (aX (pvs := [(0, .int .i64 s.part), (1, .int .u32 ca.tag), (2, .bool ca.write), (3, .int .i64 (s.first + ca.sector)), (4, m.cell)]) bu101 ti101 J (cells := CR.cells ⟨s.part, ca.tag, ca.write, s.first + ca.sector, m⟩) J) (aQ (wQ J J (aV [.tmp 55] (vs := [.agg (CR.cells ⟨s.part, ca.tag, ca.write, s.first + ca.sector, m⟩).toArray]) (cells := CR.cells ⟨s.part, ca.tag, ca.write, s.first + ca.sector, m⟩) underlying98 ti101 J J J J (by decide) (by simp [Value.cells, CR.cells]) (by simp [Value.cells])) J (fun _ => iM) (fun _ => Imp.refl _) (fun _ => iM) ?_))
   rintro b56 -
   refine aQ (wQ J J (fX (a := la) (c := lc) (k := 1) (ys := CR.cells ⟨s.part, ca.tag, ca.write, s.first + ca.sector, m⟩) J J J underlying98 underlying98 ti101 J (by decide) fC (SlR.of_osl (a := some ⟨b56, 0, none⟩) eX) (CR.ones _) (by dsimp only; omega)) J (fun _ => iM) (fun _ => Imp.refl _) (fun _ => iM) ?_)
   rintro ⟨a57, c57⟩ -
   refine hZ J (jQ J) (pQ (tZ (bZ (aZ (dZ (hQ J J wO) (eZ J (fZ (gX ⟨i + 1, cas.set i { ca with st := 1 }, ⟨l ++ [⟨s.part, ca.tag, ca.write, s.first + ca.sector, m⟩], a57, c57⟩⟩ ⟨by simp only; omega, ?_, ?_, ?_, ?_⟩ (by simp only; omega) ?_ ?_))))))))
   ·dsimp only; rw [hst, List.map_set, habs]; rw [iss_one (a := ca.abs) hs]; rfl
   ·dsimp only; intro a ha; rcases List.mem_or_eq_of_mem_set ha with ha | rfl; exact hmem a ha; exact hcm
   ·dsimp only; rw [htk, List.filter_append, List.map_append, List.map_append, hout]; simp [hs, CA.abs, CR.abs, req, hm]
   ·simp only [List.length_append, List.length_cons, List.length_nil]; omega
   ·dsimp only [Rqs.cell]; rw [List.length_append]; exact eS
   ·dsimp only [Rqs.ms, oasks, oreqs]
    try rw [hxa]
    rw [List.length_append, flat_app, List.length_set, List.map_append]
    exact Imp.trans (Imp.trans (Imp.pull (A := m.own) eX (Imp.pull (A := pool (l.map CR.m)) eX (Imp.refl _))) pool_add) iM
 ·try replace hc := odF hc
  refine iX (bQ (bQ (tQ (bZ (cZ (aZ (eZ J (gZ J (fZ (bZ (rZ ?_)))))))))))
  have hie : i = s.asks.length := by omega
  subst hie
  rw [List.take_length, List.drop_length, List.append_nil] at habs
  rw [List.take_length] at hout
  have hcl2 := d_close (d := d) (G := Fr) (s := issS s) ⟨cas, x.pl, x.a, x.c, x.ta, x.tc⟩ ⟨habs, hmem, ⟨hok.part, hok.first, hok.count, hok.lat, by simp only [issS, List.length_map]; exact hok.asks, hok.told, fun a ha => by simp only [issS, List.mem_map] at ha; obtain ⟨q, hq, rfl⟩ := ha; exact hok.data q hq, fun a ha => by simp only [issS, List.mem_map] at ha; obtain ⟨q, hq, rfl⟩ := ha; exact hok.sec q hq⟩⟩
  dsimp only [DO, issS, List.cons_append, List.nil_append] at hcl2
  rw [hcl] at hcl2
  exact yZ J J ⟨l, la, lc⟩ hout J (Imp.pull eX (Imp.pull eX (Imp.trans iM hcl2)))
def oi : Option Nat → Int
 | some i => i
 | none => -1
def isB (tag : Int) (a : Ak) : Bool := decide (a.tag = tag) && decide (a.st = 1)
theorem pred_spec {b : Nat} {ca : CA} {tag : Int} (h : Cel W0 Fr ⟨b, 1, none⟩ (.int .u32 tag)) : Ctr prog W0 125 [.agg ca.cells.toArray, .pointer (some ⟨b, 0, none⟩)] Fr (fun _ : Unit => True) (fun _ => .bool (isB tag ca.abs)) (fun _ => Fr) := by
 refine Ctr.of_body func125 J ntmps125 J (cZ (aZ (kQ (uX J) J ?_)))
 rintro b2 -
 refine gZ J (fZ (bZ (cZ ?_)))
 rcases (show ca.tag = tag ∨ ca.tag ≠ tag by omega) with hh | hh
 ·refine aZ (pZ fa177_0 J (dZ (jZ (v := .int .u32 ca.tag) ti27 J (Cel.of_blk (b := b2) eX J)) ?_))
  refine pZ fa101_1 J (dZ (jZ (v := .int .u32 tag) ti27 J (fun w hw => h w (hw.imp iM))) ?_)
  refine dZ (oQ (yQ J J) (bT hh)) (eZ J (kZ J J (pZ fa177_6 J (kZ J J (dZ (jZ (v := .int .i64 ca.st) ti3 J (Cel.of_blk (b := b2) eX J)) ?_)))))
  refine kZ J J (dZ (yQ J J) (dZ mZ ?_))
  exact gZ J (fZ (bZ (rZ (yZ J J () trivial (by simp [isB, CA.abs, hh]) iM))))
 ·refine aZ (pZ fa177_0 J (dZ (jZ (v := .int .u32 ca.tag) ti27 J (Cel.of_blk (b := b2) eX J)) ?_))
  refine pZ fa101_1 J (dZ (jZ (v := .int .u32 tag) ti27 J (fun w hw => h w (hw.imp iM))) ?_)
  refine dZ (oQ (yQ J J) (bF hh)) (eZ J (gQ J J J J J (gQ J J J J J (gQ J J J J J (dZ mZ ?_)))))
  exact gZ J (fZ (bZ (rZ (yZ J J () trivial (by simp [isB, CA.abs, hh]) iM))))
theorem find_take {α : Type} {p : α → Bool} {l : List α} {i : Nat} (h : ∀ x ∈ l.take i, p x = false) : ∀ {x : α}, l[i]? = some x → p x = true → l.findIdx? p = some i := by
 intro x hx hp
 rw [List.findIdx?_eq_some_iff_getElem]
 obtain ⟨hi, rfl⟩ := List.getElem?_eq_some_iff.1 hx
 exact ⟨hi, hp, fun j hj => by rw [h _ (List.mem_take_iff_getElem.2 ⟨j, by omega, rfl⟩)]; decide⟩
theorem index_spec {b c : Nat} {a : Option Addr} {cas : List CA} {tag : Int} (hs : SlR W0 Fr 7 a cas.length ((cas.map CA.cells).flatten)) (h : Cel W0 Fr ⟨b, 1, none⟩ (.int .u32 tag)) (hl : cas.length ≤ 2 ^ 20) :
 Ctr prog W0 124 [.slice a cas.length c, .func (.func 125) [].toArray [.pointer (some ⟨b, 0, none⟩)].toArray] Fr (fun _ : Unit => True) (fun _ => .int .i64 (oi ((cas.map CA.abs).findIdx? (isB tag)))) (fun _ => Fr) := by
 refine Ctr.of_body func124 J ntmps124 J (cZ (aZ (gZ J (fZ (bZ (cZ (cZ (aZ (eZ J (dZ (sZ underlying173 J J) (eZ J (fZ (bZ (mQ (mX (fun i : Nat => i ≤ cas.length ∧ ∀ y ∈ (cas.map CA.abs).take i, isB tag y = false) (fun i => [(0, .slice a cas.length c), (1, .func (.func 125) [].toArray [.pointer (some ⟨b, 0, none⟩)].toArray), (7, .int .i64 cas.length), (8, .int .i64 i)]) (fun _ => Fr) (fun i => cas.length - i) 0 ⟨Nat.zero_le _, fun y h => absurd h (by simp)⟩ eS (Imp.refl _) ?_)))))))))))))))
 rintro i ⟨hi, hno⟩
 refine cZ (aZ (dZ eQ ?_))
 refine fZ (bZ (cZ (lQ J (fun hc => ?_) (fun hc => ?_))))
 ·try replace hc := odT hc
  have hi' : i < cas.length := by omega
  have hget : cas[i]? = some cas[i] := by simp [hi']
  generalize cas[i] = ca at hget
  have hga : (cas.map CA.abs)[i]? = some ca.abs := by rw [List.getElem?_map, hget]; rfl
  refine lX (fun w hw => hs.elem_shape (i := i) CA.len (by decide) hi' w hw) ?_
  rintro ⟨ba, oa, rfl⟩
  refine uZ (bZ (cZ (mQ (cZ (aZ (eZ J (gZ J (fZ (bZ (cZ (aZ (eZ J (eZ J (eZ J (dZ (lZ underlying173 ti177 J J (by omega) (by omega)) ?_)))))))))))))))
  refine dZ (zQ (vs := ca.cells) ti177 J (CA.len ca) (by rw [show oa + (i : Int).toNat * 7 = oa + i * 7 by omega]; exact hs.elem CA.len hget)) ?_
  refine OG.callv call125 J J (Imp.refl _) (pred_spec W0 _ (b := b) (ca := ca) (tag := tag) h) J ?_
  rintro ⟨⟩ -
  refine fZ (bZ (lQ J (fun hc => ?_) (fun hc => ?_)))
  ·try replace hc := odT hc
   exact cZ (aZ (eZ J (gZ J (fZ (bZ (rZ (nQ (qZ (qZ (nQ (qZ (yZ J J () trivial (by rw [find_take hno hga hc]; rfl) iM))))))))))))
  ·try replace hc := odF hc
   refine uZ (tZ (bZ (aZ (dZ (hQ J J wO) (eZ J (fZ (gX (i + 1) ⟨by omega, ?_⟩ (by omega) eS iM)))))))
   intro y hy
   obtain ⟨hlt, hq⟩ := List.getElem?_eq_some_iff.1 hga
   rw [List.take_succ_eq_append_getElem hlt, hq] at hy
   rcases List.mem_append.1 hy with hy | hy
   ·exact hno y hy
   ·simp only [List.mem_cons, List.not_mem_nil, or_false] at hy; subst hy; exact hc
 ·try replace hc := odF hc
  refine iX (bQ (bQ (tQ (bZ (cZ (aZ (gZ J (fZ (bZ (rZ ?_))))))))))
  have hie : i = cas.length := by omega
  subst hie
  refine yZ J J () trivial ?_ iM
  rw [show (cas.map CA.abs).findIdx? (isB tag) = none by rw [List.findIdx?_eq_none_iff]; intro y hy; exact hno y (by rw [List.take_of_length_le (by simp)]; exact hy)]
  rfl
def comR (s : Ds) (tag : Int) (data : B) : Int × Ds :=
 match s.asks.findIdx? (isB tag) with
 | none => (302, s)
 | some i => match s.asks[i]? with
  | none => (302, s)
  | some a => if a.write = false ∧ data.length ≠ 64 then (6, s) else (0, { s with asks := s.asks.set i { a with st := 2, data := if a.write then a.data else data } })
set_option maxHeartbeats 1000000 in
theorem complete_spec {d : Nat} {s : Ds} {r : CR} (hr : RdB W0 Fr r.m.a r.m.c r.m.b) (hrl : r.m.b.length ≤ 2 ^ 47) : Ctr prog W0 63 [.pointer (some ⟨d, 0, none⟩), .agg r.cells.toArray] (D d s :: Fr) (fun _ : Unit => True) (fun _ => .int .i64 (comR s r.tag r.m.b).1) (fun _ => D d (comR s r.tag r.m.b).2 :: Fr) := by
 refine Ctr.ex Ext.here d_open ?_
 intro x hx
 refine Ctr.imp star_open ?_
 have hln := hx.len
 have hok := hx.ok
 have hal := hx.ok.asks
 have hcl := d_close (d := d) (G := Fr) x hx
 dsimp only [DO, List.cons_append, List.nil_append] at hcl ⊢
 have hab := hx.abs
 refine Ctr.of_body func63 J ntmps63 J (cZ (aZ (kQ (uX J) J ?_)))
 rintro b3 -
 refine gZ J (fZ (bZ (cZ (aZ (eZ J (zZ J (pZ fa175_5 J (dZ (iZ ti173 J) ?_))))))))
 refine dZ (tX (first := []) (cap := [.tmp 3]) J J) (oZ call124 J (Imp.refl _) (index_spec W0 _ (b := b3) (a := x.a) (c := x.c) (cas := x.cas) (tag := r.tag) (by exact SlR.of_osl (E := 177) eX) (by exact Cel.of_blk (b := b3) eX J) (by omega)) J ?_)
 rintro ⟨⟩ -
 rw [hab]
 refine gZ J (fZ (bZ (cZ (cZ ?_))))
 rcases hf : s.asks.findIdx? (isB r.tag) with _ | i
 ·refine aZ (eZ J (dZ eQ ?_))
  refine fZ (bZ (fQ J (cZ (aZ (gZ J (fZ (bZ (rZ (qZ ?_)))))))))
  have hcr : comR s r.tag r.m.b = (302, s) := by unfold comR; rw [hf]
  rw [hcr]
  exact yZ J J () trivial J (Imp.trans iM hcl)
 ·obtain ⟨hi, hp, -⟩ := List.findIdx?_eq_some_iff_getElem.1 hf
  have hget : s.asks[i]? = some s.asks[i] := by simp [hi]
  generalize s.asks[i] = ak at hget hp
  obtain ⟨ca, hgc, hca⟩ := hx.get hget
  subst hca
  have hcm := hx.mem ca (List.mem_of_getElem? hgc)
  have hcr : comR s r.tag r.m.b = if ca.write = false ∧ r.m.b.length ≠ 64 then (6, s) else (0, { s with asks := s.asks.set i { ca.abs with st := 2, data := if ca.write then ca.m.b else r.m.b } }) := by unfold comR; rw [hf]; dsimp only; rw [hget]; rfl
  refine aZ (eZ J (dZ eQ ?_))
  refine fZ (bZ (vZ J (uZ (bZ (cZ (lX (fun w hw => shape_as (n := i) (l := x.cas) (by omega) eX w hw) ?_))))))
  rintro ⟨b, o, hxa⟩
  rw [hxa] at hcl ⊢
  refine aZ (eZ J (zZ J (pZ fa175_5 J (dZ (jZ (v := .slice (some ⟨b, o, none⟩) x.cas.length x.c) ti173 J (Cel.of_blk (b := d) eX J)) ?_))))
  refine eZ J (dZ (lZ (b := b) (o := o) (m := x.cas.length) (c := x.c) (j := (i : Int)) underlying173 ti177 J J (by omega) (by omega)) ?_)
  refine gZ J (fZ (bZ (cZ (cZ ?_))))
  rcases (show (ca.write = false ∧ r.m.b.length ≠ 64) ∨ (ca.write = false ∧ r.m.b.length = 64) ∨ ca.write = true by cases ca.write <;> simp <;> omega) with hh | hh | hh
  ·refine aZ (eZ J (zZ J (pZ fa177_1 J (dZ (jZ (v := .bool ca.write) ti4 J (((SlR.of_osl (E := 177) (a := some ⟨b, o, none⟩) eX).elem CA.len hgc) 1 _ J)) ?_))))
   refine dZ (oQ (iQ J) (v' := .bool true) (by rw [hh.1]; rfl)) ?_
   refine fZ (bZ (fQ J (cZ (cZ (aZ (pZ fa101_4 J (dZ (jZ (v := r.m.cell) ti32 J (Cel.of_blk (b := b3) eX J)) ?_)))))))
   refine dZ (sZ (a := r.m.a) (m := r.m.b.length) (c := r.m.c) underlying32 J J) (dZ vQ ?_)
   refine fZ (bZ (fQ J (cZ (aZ (gZ J (fZ (bZ (rZ (qZ (qZ ?_))))))))))
   rw [hcr, if_pos hh]
   exact yZ J J () trivial J (Imp.trans iM hcl)
  ·refine aZ (eZ J (zZ J (pZ fa177_1 J (dZ (jZ (v := .bool ca.write) ti4 J (((SlR.of_osl (E := 177) (a := some ⟨b, o, none⟩) eX).elem CA.len hgc) 1 _ J)) ?_))))
   refine dZ (oQ (iQ J) (v' := .bool true) (by rw [hh.1]; rfl)) ?_
   refine fZ (bZ (fQ J (cZ (cZ (aZ (pZ fa101_4 J (dZ (jZ (v := r.m.cell) ti32 J (Cel.of_blk (b := b3) eX J)) ?_)))))))
   refine dZ (sZ (a := r.m.a) (m := r.m.b.length) (c := r.m.c) underlying32 J J) (dZ vQ ?_)
   refine fZ (bZ (vZ J (uZ (bZ (aZ (eZ J (pZ fa101_4 J (dZ (jZ (v := r.m.cell) ti32 J (Cel.of_blk (b := b3) eX J)) ?_))))))))
   refine oZ call94 J (Imp.refl _) (cloneB_spec W0 _ (a := r.m.a) (c := r.m.c) (bs := r.m.b) (by exact hr.imp iM) (by omega)) J ?_
   rintro m hm
   refine zZ J (pZ fa177_4 J (sQ (fV (i := i) 4 (r := ca) (r' := { ca with m := m }) (rs := x.cas) CA.len hgc J (by decide) ti32 J J fC J J) J ?_))
   rintro ⟨⟩ -
   refine fZ (bZ (cZ (aZ (eZ J (zZ J (pZ fa177_6 J (sQ (fV (i := i) 6 (r := { ca with m := m }) (r' := { ca with m := m, st := 2 }) (rs := x.cas.set i { ca with m := m }) CA.len (by rw [List.getElem?_set_self (by omega)]) J (by decide) ti3 J J fC J (by rw [List.length_set])) J ?_)))))))
   rintro ⟨⟩ -
   refine fZ (bZ (cZ (aZ (gZ J (fZ (bZ (rZ ?_)))))))
   rw [hcr, if_neg (by rw [hh.2]; simp), if_neg (by rw [hh.1]; decide)]
   have hcl2 := d_close (d := d) (G := Fr) (s := { s with asks := s.asks.set i { ca.abs with st := 2, data := r.m.b } }) ⟨x.cas.set i { ca with m := m, st := 2 }, x.pl ++ [m], some ⟨b, o, none⟩, x.c, x.ta, x.tc⟩ ⟨by dsimp only; rw [List.map_set, hab]; simp [CA.abs, hm], fun a ha => by rcases List.mem_or_eq_of_mem_set ha with ha | rfl; exact List.mem_append.2 (.inl (hx.mem a ha)); simp, ⟨hok.part, hok.first, hok.count, hok.lat, by dsimp only; rw [List.length_set]; exact hok.asks, hok.told, fun a ha => by rcases List.mem_or_eq_of_mem_set ha with ha | rfl; exact hok.data a ha; dsimp only; omega, fun a ha => by rcases List.mem_or_eq_of_mem_set ha with ha | rfl; exact hok.sec a ha; exact hok.sec ca.abs (List.mem_of_getElem? hget)⟩⟩
   dsimp only [DO, oasks, List.cons_append, List.nil_append] at hcl2
   rw [List.length_set] at hcl2
   refine yZ J J () trivial J (Imp.trans ?_ hcl2)
   rw [List.set_set]
   exact Imp.trans (Imp.trans (Imp.pull (A := m.own) eX (Imp.pull (A := pool x.pl) eX (Imp.refl _))) pool_add) iM
  ·refine aZ (eZ J (zZ J (pZ fa177_1 J (dZ (jZ (v := .bool ca.write) ti4 J (((SlR.of_osl (E := 177) (a := some ⟨b, o, none⟩) eX).elem CA.len hgc) 1 _ J)) ?_))))
   refine dZ (oQ (iQ J) (v' := .bool false) (by rw [hh]; rfl)) ?_
   refine fZ (bZ (vZ J (uZ (bZ (cZ (aZ (eZ J (zZ J (pZ fa177_6 J (sQ (fV (i := i) 6 (r := ca) (r' := { ca with st := 2 }) (rs := x.cas) CA.len hgc J (by decide) ti3 J J fC J J) J ?_))))))))))
   rintro ⟨⟩ -
   refine fZ (bZ (cZ (aZ (gZ J (fZ (bZ (rZ ?_)))))))
   rw [hcr, if_neg (by rw [hh]; simp), if_pos hh]
   have hcl2 := d_close (d := d) (G := Fr) (s := { s with asks := s.asks.set i { ca.abs with st := 2, data := ca.m.b } }) ⟨x.cas.set i { ca with st := 2 }, x.pl, some ⟨b, o, none⟩, x.c, x.ta, x.tc⟩ ⟨by dsimp only; rw [List.map_set, hab]; simp [CA.abs], fun a ha => by rcases List.mem_or_eq_of_mem_set ha with ha | rfl; exact hx.mem a ha; exact hcm, ⟨hok.part, hok.first, hok.count, hok.lat, by dsimp only; rw [List.length_set]; exact hok.asks, hok.told, fun a ha => by rcases List.mem_or_eq_of_mem_set ha with ha | rfl; exact hok.data a ha; exact hok.data ca.abs (List.mem_of_getElem? hget), fun a ha => by rcases List.mem_or_eq_of_mem_set ha with ha | rfl; exact hok.sec a ha; exact hok.sec ca.abs (List.mem_of_getElem? hget)⟩⟩
   dsimp only [DO, oasks, List.cons_append, List.nil_append] at hcl2
   rw [List.length_set] at hcl2
   exact yZ J J () trivial J (Imp.trans iM hcl2)
end
structure Dn where
 tag : Int
 write : Bool
 addr : Int
 data : B
structure CD where
 tag : Int
 write : Bool
 addr : Int
 m : Msg
def CD.cells (r : CD) : List Value := [.int .u32 r.tag, .bool r.write, .int .u32 r.addr, r.m.cell]
def CD.abs (r : CD) : Dn := ⟨r.tag, r.write, r.addr, r.m.b⟩
theorem CD.len (r : CD) : r.cells.length = 4 := rfl
theorem CD.ones (r : CD) : ∀ v ∈ r.cells, one v = true := by simp [CD.cells, one, Msg.cell]
abbrev odone (a : Option Addr) (c : Nat) (l : List CD) : HProp := osl 158 4 a c l.length ((l.map CD.cells).flatten)
structure Dns where
 l : List CD
 a : Option Addr
 c : Nat
def Dns.ms (r : Dns) : List Msg := r.l.map CD.m
abbrev Dns.G (r : Dns) : List HProp := [odone r.a r.c r.l, pool r.ms]
def Dns.cell (r : Dns) : Value := .slice r.a r.l.length r.c
def over (major : Int) (a : Ak) : Bool := decide (a.st = 2) && decide (a.due ≤ major)
theorem over_no1 {major : Int} {a : Ak} (h : a.st ≠ 2) : over major a = false := by unfold over; rw [decide_eq_false h, Bool.false_and]
theorem over_no2 {major : Int} {a : Ak} (h : major < a.due) : over major a = false := by unfold over; rw [decide_eq_false (p := a.due ≤ major) (by omega), Bool.and_false]
theorem over_yes {major : Int} {a : Ak} (h : a.st = 2) (h2 : a.due ≤ major) : over major a = true := by unfold over; rw [decide_eq_true h, decide_eq_true h2]; rfl
def done (a : Ak) : Dn := ⟨a.tag, a.write, a.addr, if a.write then [] else a.data⟩
def rdyL (s : Ds) (major : Int) : List Dn := (s.asks.filter (over major)).map done
def rdyS (s : Ds) (major : Int) : Ds := { s with asks := s.asks.filter (fun a => !over major a), told := (s.asks.filter (over major)).map Ak.tag }
structure Rt where
 i : Nat
 out : Dns
 rest : List CA
 ra : Option Addr
 rc : Nat
 told : List Int
 ta : Option Addr
 tc : Nat
structure Rt.OK (s : Ds) (major : Int) (pl : List Msg) (t : Rt) : Prop where
 le : t.i ≤ s.asks.length
 out : t.out.l.map CD.abs = ((s.asks.take t.i).filter (over major)).map done
 outl : t.out.l.length ≤ t.i
 rest : t.rest.map CA.abs = (s.asks.take t.i).filter (fun a => !over major a)
 restl : t.rest.length ≤ t.i
 mem : ∀ a ∈ t.rest, a.m ∈ pl
 told : t.told = ((s.asks.take t.i).filter (over major)).map Ak.tag
 toldl : t.told.length ≤ t.i
theorem DC.OK.mems {x : DC} {s : Ds} (h : x.OK s) {n : Nat} {c : CA} (hc : x.cas[n]? = some c) : c.m ∈ x.pl := h.mem c (List.mem_of_getElem? hc)
section
variable (W0 : World) (Fr : List HProp)
set_option maxHeartbeats 2000000 in
theorem ready_spec {d : Nat} {s : Ds} (major : Int) : Ctr prog W0 64 [.pointer (some ⟨d, 0, none⟩), .int .i64 major] (D d s :: Fr) (fun r : Dns => r.l.map CD.abs = rdyL s major) (fun r => r.cell) (fun r => r.G ++ (D d (rdyS s major) :: Fr)) := by
 refine Ctr.ex Ext.here d_open ?_
 intro x hx
 refine Ctr.imp star_open ?_
 have hln := hx.len
 have hok := hx.ok
 have hal := hx.ok.asks
 have hab := hx.abs
 dsimp only [DO, List.cons_append, List.nil_append]
 refine Ctr.of_body func64 J ntmps64 J (cZ (aZ (gZ J (fZ (bZ (cZ (aZ (gZ J (fZ (bZ (cZ (aZ (gZ J (fZ (bZ (cZ (aZ (eZ J (zZ J (pZ fa175_6 J (sQ (uQ ti37 J J fC J (by first | (simp; done) | decide)) J ?_)))))))))))))))))))))
 rintro ⟨⟩ -
 refine fZ (bZ (cZ (cZ (aZ (eZ J (zZ J (pZ fa175_5 J (dZ (iZ ti173 J) ?_))))))))
 refine dZ (sZ underlying173 J J) (eZ J (fZ (bZ (mQ (mX (fun t : Rt => t.OK s major x.pl) (fun t => [(0, .pointer (some ⟨d, 0, none⟩)), (1, .int .i64 major), (5, t.out.cell), (6, .slice t.ra t.rest.length t.rc), (16, .slice x.a x.cas.length x.c), (17, .int .i64 x.cas.length), (18, .int .i64 t.i)]) (fun t => DH d s s.last x.a x.cas.length x.c t.ta t.told.length t.tc :: oasks x.a x.c x.cas :: odone t.out.a t.out.c t.out.l :: pool t.out.ms :: oasks t.ra t.rc t.rest :: onum 27 .u32 t.ta t.tc t.told :: pool x.pl :: Fr) (fun t => x.cas.length - t.i) ⟨0, ⟨[], none, 0⟩, [], none, 0, [], none, 0⟩ ⟨Nat.zero_le _, rfl, Nat.le_refl _, rfl, Nat.le_refl _, fun a h => absurd h List.not_mem_nil, rfl, Nat.le_refl _⟩ eS (Imp.trans pool_nil (Imp.trans (osl_nil (E := 27) (sz := 1)) (Imp.trans (osl_nil (E := 177) (sz := 7)) (Imp.trans (osl_nil (E := 158) (sz := 4)) (Imp.pull eX (Imp.pull (A := oasks x.a x.c x.cas) eX (Imp.pull (A := odone none 0 []) eX (Imp.pull (A := pool []) eX (Imp.pull (A := oasks none 0 []) eX (Imp.pull (A := onum 27 .u32 none 0 []) eX (Imp.pull (A := pool x.pl) eX iM))))))))))) ?_)))))
 rintro ⟨i, ⟨l, la, lc⟩, rest, ra, rc, told, ta, tc⟩ ⟨hi, hout, hol, hrest, hrl, hmem, htold, htl⟩
 dsimp only at hi hout hol hrest hrl hmem htold htl ⊢
 refine cZ (aZ (dZ eQ ?_))
 refine fZ (bZ (cZ (lQ J (fun hc => ?_) (fun hc => ?_))))
 ·try replace hc := odT hc
  have hi' : i < x.cas.length := by omega
  have hgc : x.cas[i]? = some x.cas[i] := by simp [hi']
  generalize x.cas[i] = ca at hgc
  have hget : s.asks[i]? = some ca.abs := by rw [← hab, List.getElem?_map, hgc]; rfl
  have hdat := hok.data _ (List.mem_of_getElem? hget)
  have hcm := hx.mems hgc
  have htk : s.asks.take (i + 1) = s.asks.take i ++ [ca.abs] := by obtain ⟨hlt, hq⟩ := List.getElem?_eq_some_iff.1 hget; rw [List.take_succ_eq_append_getElem hlt, hq]
  refine lX (fun w hw => shape_as (n := i) (l := x.cas) (by omega) (Ext.there Ext.here) w hw) ?_
  rintro ⟨b, o, hxa⟩
  rw [hxa]
  refine uZ (bZ (cZ (mQ (cZ (aZ (dZ (lZ underlying173 ti177 J J (by omega) (by omega)) ?_))))))
  refine dZ (zQ (vs := ca.cells) ti177 J (CA.len ca) (by rw [show o + (i : Int).toNat * 7 = o + i * 7 by omega]; exact (SlR.of_osl (E := 177) (a := some ⟨b, o, none⟩) eX).elem CA.len hgc)) ?_
  refine kQ (pX ti177) J ?_
  rintro b8 -
  refine sQ (xQ ti177 J J fC (CA.len ca) (CA.ones ca) J) J ?_
  rintro ⟨⟩ -
  refine fZ (bZ (cZ (cZ ?_)))
  rcases (show ca.st ≠ 2 ∨ (ca.st = 2 ∧ major < ca.due) ∨ (ca.st = 2 ∧ ca.due ≤ major) by omega) with hh | hh | hh
  ·have hov : over major ca.abs = false := over_no1 (a := ca.abs) hh
   refine aZ (pZ fa177_6 J (dZ (jZ (v := .int .i64 ca.st) ti3 J (Cel.of_blk (b := b8) eX J)) ?_))
   refine dZ (oQ (nX J J) (bT hh)) (eZ J (gQ J J J J J (gQ J J J J J (gQ J J J J J (gQ J J J J J (dZ mZ ?_))))))
   refine fZ (bZ (fQ J (cZ (aZ (eZ J (dZ (zQ (vs := ca.cells) ti177 J (CA.len ca) (Row.of_blk (b := b8) eX J)) ?_))))))
   refine kQ (aV [.tmp 32] (vs := [.agg ca.cells.toArray]) (cells := ca.cells) underlying173 ti177 J J J J (by decide) (by simp [Value.cells, CA.cells]) (by simp [Value.cells])) J ?_
   rintro b33 -
   refine kQ (fX (a := ra) (c := rc) (m := rest.length) (xs := (rest.map CA.cells).flatten) (k := 1) (ys := ca.cells) J J J underlying173 underlying173 ti177 J (by decide) fC (SlR.of_osl (a := some ⟨b33, 0, none⟩) eX) (CA.ones _) (by omega)) J ?_
   rintro ⟨a34, c34⟩ -
   refine gZ J (fZ (bZ (iX (bQ (tQ (bZ (aZ (dZ (hQ J J wO) (eZ J (fZ (gX ⟨i + 1, ⟨l, la, lc⟩, rest ++ [ca], a34, c34, told, ta, tc⟩ ⟨by simp only; omega, by dsimp only; rw [htk, List.filter_append, List.map_append, hout]; simp [hov], by simp only; omega, by dsimp only; rw [htk, List.filter_append, List.map_append, hrest]; simp [hov], by simp only [List.length_append, List.length_cons, List.length_nil]; omega, fun a ha => by rcases List.mem_append.1 ha with ha | ha; exact hmem a ha; (simp only [List.mem_cons, List.not_mem_nil, or_false] at ha; subst ha; exact hcm), by dsimp only; rw [htk, List.filter_append, List.map_append, htold]; simp [hov], by simp only; omega⟩ (show x.cas.length - (i + 1) < x.cas.length - i by omega) (by dsimp only; rw [List.length_append]; exact eS) (by dsimp only [oasks]; rw [List.length_append, flat_app]; exact iM))))))))))))
  ·have hov : over major ca.abs = false := over_no2 (a := ca.abs) hh.2
   refine aZ (pZ fa177_6 J (dZ (jZ (v := .int .i64 ca.st) ti3 J (Cel.of_blk (b := b8) eX J)) ?_))
   refine dZ (oQ (nX J J) (bF (not_not_intro hh.1))) (eZ J (kZ J J (eZ J (kZ J J (pZ fa177_5 J (kZ J J (dZ (jZ (v := .int .i64 ca.due) ti3 J (Cel.of_blk (b := b8) eX J)) ?_)))))))
   refine kZ J J (dZ eQ ?_)
   refine dZ mZ ?_
   refine fZ (bZ (fQ J (cZ (aZ (eZ J (dZ (zQ (vs := ca.cells) ti177 J (CA.len ca) (Row.of_blk (b := b8) eX J)) ?_))))))
   refine kQ (aV [.tmp 32] (vs := [.agg ca.cells.toArray]) (cells := ca.cells) underlying173 ti177 J J J J (by decide) (by simp [Value.cells, CA.cells]) (by simp [Value.cells])) J ?_
   rintro b33 -
   refine kQ (fX (a := ra) (c := rc) (m := rest.length) (xs := (rest.map CA.cells).flatten) (k := 1) (ys := ca.cells) J J J underlying173 underlying173 ti177 J (by decide) fC (SlR.of_osl (a := some ⟨b33, 0, none⟩) eX) (CA.ones _) (by omega)) J ?_
   rintro ⟨a34, c34⟩ -
   refine gZ J (fZ (bZ (iX (bQ (tQ (bZ (aZ (dZ (hQ J J wO) (eZ J (fZ (gX ⟨i + 1, ⟨l, la, lc⟩, rest ++ [ca], a34, c34, told, ta, tc⟩ ⟨by simp only; omega, by dsimp only; rw [htk, List.filter_append, List.map_append, hout]; simp [hov], by simp only; omega, by dsimp only; rw [htk, List.filter_append, List.map_append, hrest]; simp [hov], by simp only [List.length_append, List.length_cons, List.length_nil]; omega, fun a ha => by rcases List.mem_append.1 ha with ha | ha; exact hmem a ha; (simp only [List.mem_cons, List.not_mem_nil, or_false] at ha; subst ha; exact hcm), by dsimp only; rw [htk, List.filter_append, List.map_append, htold]; simp [hov], by simp only; omega⟩ (show x.cas.length - (i + 1) < x.cas.length - i by omega) (by dsimp only; rw [List.length_append]; exact eS) (by dsimp only [oasks]; rw [List.length_append, flat_app]; exact iM))))))))))))
  ·have hov : over major ca.abs = true := over_yes (a := ca.abs) hh.1 hh.2
   refine aZ (pZ fa177_6 J (dZ (jZ (v := .int .i64 ca.st) ti3 J (Cel.of_blk (b := b8) eX J)) ?_))
   refine dZ (oQ (nX J J) (bF (not_not_intro hh.1))) (eZ J (kZ J J (eZ J (kZ J J (pZ fa177_5 J (kZ J J (dZ (jZ (v := .int .i64 ca.due) ti3 J (Cel.of_blk (b := b8) eX J)) ?_)))))))
   refine kZ J J (dZ eQ ?_)
   refine dZ mZ ?_
   refine fZ (bZ (vZ J (uZ (bZ (cZ (aZ (pZ fa177_0 J (dZ (jZ (v := .int .u32 ca.tag) ti27 J (Cel.of_blk (b := b8) eX J)) ?_))))))))
   refine pZ fa177_1 J (dZ (jZ (v := .bool ca.write) ti4 J (Cel.of_blk (b := b8) eX J)) ?_)
   refine pZ fa177_3 J (dZ (jZ (v := .int .u32 ca.addr) ti27 J (Cel.of_blk (b := b8) eX J)) ?_)
   refine dZ (aX (pvs := [(0, .int .u32 ca.tag), (1, .bool ca.write), (2, .int .u32 ca.addr)]) bu158 ti158 J (cells := CD.cells ⟨ca.tag, ca.write, ca.addr, Msg.nil⟩) J) (kQ (pX ti158) J ?_)
   rintro b9 -
   refine sQ (xQ ti158 J J fC (CD.len ⟨ca.tag, ca.write, ca.addr, Msg.nil⟩) (CD.ones ⟨ca.tag, ca.write, ca.addr, Msg.nil⟩) J) J ?_
   rintro ⟨⟩ -
   refine fZ (bZ (CG.cut (fun m : Msg => m.b = if ca.write then [] else ca.m.b) (fun _ => [(0, .pointer (some ⟨d, 0, none⟩)), (1, .int .i64 major), (5, .slice la l.length lc), (6, .slice ra rest.length rc), (8, .pointer (some ⟨b8, 0, none⟩)), (9, .pointer (some ⟨b9, 0, none⟩)), (16, .slice (some ⟨b, o, none⟩) x.cas.length x.c), (17, .int .i64 x.cas.length), (18, .int .i64 i)]) (fun m => blk b9 (CD.cells ⟨ca.tag, ca.write, ca.addr, m⟩) 158 :: m.own :: blk b8 ca.cells 177 :: DH d s s.last (some ⟨b, o, none⟩) x.cas.length x.c ta told.length tc :: oasks (some ⟨b, o, none⟩) x.c x.cas :: odone la lc l :: pool (l.map CD.m) :: oasks ra rc rest :: onum 27 .u32 ta tc told :: pool x.pl :: Fr) ?_ ?_))
   ·refine cZ (aZ (pZ fa177_1 J (dZ (jZ (v := .bool ca.write) ti4 J (Cel.of_blk (b := b8) eX J)) ?_)))
    refine dZ (iQ J) (fZ (bZ (lQ J (fun hc => ?_) (fun hc => ?_))))
    ·try replace hc := odT hc
     have hwf : ca.write = false := by simpa using hc
     refine aZ (pZ fa177_4 J (dZ (jZ (v := ca.m.cell) ti32 J (Cel.of_blk (b := b8) eX J)) ?_))
     refine oZ call94 J (Imp.refl _) (cloneB_spec W0 _ (a := ca.m.a) (c := ca.m.c) (bs := ca.m.b) (by exact pool_rd (ms := x.pl) eX hcm) (by have h9 : (CA.abs ca).data = ca.m.b := rfl; rw [h9] at hdat; omega)) J ?_
     rintro m hm
     refine pZ fa158_3 J (sQ (uQ ti32 J J fC J (by rw [CD.len]; decide)) J ?_)
     rintro ⟨⟩ -
     exact fZ (pV m (by rw [hwf]; exact hm) eS iM)
    ·try replace hc := odF hc
     have hwt : ca.write = true := by simpa using hc
     exact uZ (pV Msg.nil (by rw [hwt]; rfl) eS (Imp.trans own_nil iM))
   rintro m hm
   refine cZ (aZ (eZ J (dZ (zQ (vs := CD.cells ⟨ca.tag, ca.write, ca.addr, m⟩) ti158 J (CD.len _) (Row.of_blk (b := b9) eX J)) ?_)))
   refine kQ (aV [.tmp 50] (vs := [.agg (CD.cells ⟨ca.tag, ca.write, ca.addr, m⟩).toArray]) (cells := CD.cells ⟨ca.tag, ca.write, ca.addr, m⟩) underlying130 ti158 J J J J (by decide) (by simp [Value.cells, CD.cells]) (by simp [Value.cells])) J ?_
   rintro b51 -
   refine kQ (fX (a := la) (c := lc) (m := l.length) (xs := (l.map CD.cells).flatten) (k := 1) (ys := CD.cells ⟨ca.tag, ca.write, ca.addr, m⟩) J J J underlying130 underlying130 ti158 J (by decide) fC (SlR.of_osl (a := some ⟨b51, 0, none⟩) eX) (CD.ones _) (by omega)) J ?_
   rintro ⟨a52, c52⟩ -
   refine gZ J (fZ (bZ (qQ (.lo 0 0 (.lo 1 0 (.lo 2 0 (.lo 3 0 (.lo 4 2 (.lo 5 1 (.lo 6 1 (.eff1 7 false (.eff1 8 false (.lo 9 1 (.lo 10 1 (.eff1 11 true (.done))))))))))))) [7, 8, 11] [4] ([]) ([DH d s s.last (some ⟨b, o, none⟩) x.cas.length x.c ta told.length tc]) mixed (by kernel_rfl) (Imp.none _) (iM) ?_)))
   refine nZ J J (nZ J J (dQ J J (wZ J fa175_6 J (hZ J (jZ (v := .slice ta told.length tc) ti37 J (Cel.of_blk (b := d) eX J)) ?_))))
   refine wZ J fa177_0 J (hZ J (jZ (v := .int .u32 ca.tag) ti27 J (Cel.of_blk (b := b8) eX J)) ?_)
   refine aQ (wQ J J (gV underlying37 ti27 J J J) J (fun _ => iM) (fun _ => Imp.refl _) (fun _ => iM) ?_)
   rintro b60 -
   refine aQ (wQ J J (fX (a := ta) (c := tc) (m := told.length) (xs := intsV .u32 told) (k := 1) (ys := [.int .u32 ca.tag]) J J J underlying37 underlying37 ti27 J (by decide) fC (SlR.of_osl (a := some ⟨b60, 0, none⟩) eX) (by simp [one]) (by omega)) J (fun _ => iM) (fun _ => Imp.refl _) (fun _ => iM) ?_)
   rintro ⟨a61, c61⟩ -
   refine dQ J J (wZ J fa175_6 J (aQ (wQ J J (uQ ti37 J J fC J (by first | (simp; done) | decide)) J (fun _ => iM) (fun _ => Imp.refl _) (fun _ => iM) ?_)))
   rintro ⟨⟩ -
   refine pQ (tZ (bZ (aZ (dZ (hQ J J wO) (eZ J (fZ (gX ⟨i + 1, ⟨l ++ [⟨ca.tag, ca.write, ca.addr, m⟩], a52, c52⟩, rest, ra, rc, told ++ [ca.tag], a61, c61⟩ ⟨?_, ?_, ?_, ?_, ?_, hmem, ?_, ?_⟩ (show x.cas.length - (i + 1) < x.cas.length - i by omega) (by dsimp only [Dns.cell]; rw [List.length_append]; exact eS) ?_)))))))
   ·simp only; omega
   ·dsimp only; rw [htk, List.filter_append, List.map_append, List.map_append, hout, show [ca.abs].filter (over major) = [ca.abs] by simp [hov]]; simp [CD.abs, done, CA.abs, hm]
   ·simp only [List.length_append, List.length_cons, List.length_nil]; omega
   ·dsimp only; rw [htk, List.filter_append, hrest]; simp [hov]
   ·simp only; omega
   ·dsimp only; rw [htk, List.filter_append, List.map_append, htold, show [ca.abs].filter (over major) = [ca.abs] by simp [hov]]; rfl
   ·simp only [List.length_append, List.length_cons, List.length_nil]; omega
   ·dsimp only [Dns.ms, odone]
    rw [show (l ++ [(⟨ca.tag, ca.write, ca.addr, m⟩ : CD)]).length = l.length + 1 by simp, flat_app, List.map_append, onum_app, show (told ++ [ca.tag]).length = told.length + 1 by simp]
    exact Imp.trans (Imp.trans (Imp.pull (A := m.own) eX (Imp.pull (A := pool (l.map CD.m)) eX (Imp.refl _))) pool_add) iM
 ·try replace hc := odF hc
  refine iX (bQ (bQ (tQ (bZ (cZ (aZ (eZ J (eZ J (zZ J (pZ fa175_5 J (sQ (uQ ti173 J J fC J (by first | (simp; done) | decide)) J ?_)))))))))))
  rintro ⟨⟩ -
  refine fZ (bZ (cZ (aZ (eZ J (gZ J (fZ (bZ (rZ ?_))))))))
  have hie : i = s.asks.length := by omega
  subst hie
  rw [List.take_length] at hout hrest htold
  subst htold
  have hcl2 := d_close (d := d) (G := Fr) (s := rdyS s major) ⟨rest, x.pl, ra, rc, ta, tc⟩ ⟨hrest, hmem, ⟨hok.part, hok.first, hok.count, hok.lat, Nat.le_trans (List.length_filter_le _ _) hok.asks, by dsimp only [rdyS]; omega, fun a ha => hok.data a (List.mem_filter.1 ha).1, fun a ha => hok.sec a (List.mem_filter.1 ha).1⟩⟩
  dsimp only [DO, List.cons_append, List.nil_append] at hcl2
  exact yZ J J ⟨l, la, lc⟩ hout J (Imp.pull eX (Imp.pull eX (Imp.trans iM hcl2)))
theorem waiting_spec {d : Nat} {s : Ds} : Ctr prog W0 38 [.pointer (some ⟨d, 0, none⟩)] (D d s :: Fr) (fun _ : Option Addr × Nat => True) (fun q => .slice q.1 (s.asks.map Ak.tag).length q.2) (fun q => onum 27 .u32 q.1 q.2 (s.asks.map Ak.tag) :: D d s :: Fr) := by
 refine Ctr.ex Ext.here d_open ?_
 intro x hx
 refine Ctr.imp star_open ?_
 have hln := hx.len
 have hok := hx.ok
 have hal := hx.ok.asks
 have hab := hx.abs
 have hcl := d_close (d := d) (G := Fr) x hx
 dsimp only [DO, List.cons_append, List.nil_append] at hcl ⊢
 refine Ctr.of_body func38 J ntmps38 J (cZ (aZ (gZ J (fZ (bZ (cZ (aZ (gZ J (fZ (bZ (cZ (cZ (aZ (eZ J (zZ J (pZ fa175_5 J (dZ (iZ ti173 J) ?_)))))))))))))))))
 refine dZ (sZ underlying173 J J) (eZ J (fZ (bZ (mQ (mX (fun t : Nat × List Int × Option Addr × Nat => t.1 ≤ s.asks.length ∧ t.2.1 = (s.asks.take t.1).map Ak.tag) (fun t => [(0, .pointer (some ⟨d, 0, none⟩)), (3, .slice t.2.2.1 t.2.1.length t.2.2.2), (9, .slice x.a x.cas.length x.c), (10, .int .i64 x.cas.length), (11, .int .i64 t.1)]) (fun t => onum 27 .u32 t.2.2.1 t.2.2.2 t.2.1 :: DH d s s.last x.a x.cas.length x.c x.ta s.told.length x.tc :: oasks x.a x.c x.cas :: onum 27 .u32 x.ta x.tc s.told :: pool x.pl :: Fr) (fun t => x.cas.length - t.1) (0, [], none, 0) ⟨Nat.zero_le _, rfl⟩ eS (osl_nil (E := 27) (sz := 1)) ?_)))))
 rintro ⟨i, l, la, lc⟩ ⟨hi, hl⟩
 dsimp only at hi hl ⊢
 have hll : l.length = i := by rw [hl, List.length_map, List.length_take]; omega
 refine cZ (aZ (dZ eQ ?_))
 refine fZ (bZ (cZ (lQ J (fun hc => ?_) (fun hc => ?_))))
 ·try replace hc := odT hc
  have hi' : i < x.cas.length := by omega
  have hgc : x.cas[i]? = some x.cas[i] := by simp [hi']
  generalize x.cas[i] = ca at hgc
  have hget : s.asks[i]? = some ca.abs := by rw [← hab, List.getElem?_map, hgc]; rfl
  have htk : s.asks.take (i + 1) = s.asks.take i ++ [ca.abs] := by obtain ⟨hlt, hq⟩ := List.getElem?_eq_some_iff.1 hget; rw [List.take_succ_eq_append_getElem hlt, hq]
  refine lX (fun w hw => shape_as (n := i) (l := x.cas) (by omega) eX w hw) ?_
  rintro ⟨b, o, hxa⟩
  rw [hxa]
  refine uZ (bZ (cZ (mQ (cZ (aZ (dZ (lZ underlying173 ti177 J J (by omega) (by omega)) ?_))))))
  refine dZ (zQ (vs := ca.cells) ti177 J (CA.len ca) (by rw [show o + (i : Int).toNat * 7 = o + i * 7 by omega]; exact (SlR.of_osl (E := 177) (a := some ⟨b, o, none⟩) eX).elem CA.len hgc)) ?_
  refine kQ (pX ti177) J ?_
  rintro b5 -
  refine sQ (xQ ti177 J J fC (CA.len ca) (CA.ones ca) J) J ?_
  rintro ⟨⟩ -
  refine fZ (bZ (aZ (eZ J (pZ fa177_0 J (dZ (jZ (v := .int .u32 ca.tag) ti27 J (Cel.of_blk (b := b5) eX J)) ?_)))))
  refine kQ (gV underlying37 ti27 J J J) J ?_
  rintro b18 -
  refine kQ (fX (a := la) (c := lc) (m := l.length) (xs := intsV .u32 l) (k := 1) (ys := [.int .u32 ca.tag]) J J J underlying37 underlying37 ti27 J (by decide) fC (SlR.of_osl (a := some ⟨b18, 0, none⟩) eX) (by simp [one]) (by omega)) J ?_
  rintro ⟨a19, c19⟩ -
  refine gZ J (fZ (tZ (bZ (aZ (dZ (hQ J J wO) (eZ J (fZ (gX (i + 1, l ++ [ca.tag], a19, c19) ⟨by simp only; omega, ?_⟩ (show x.cas.length - (i + 1) < x.cas.length - i by omega) (by dsimp only; rw [List.length_append]; exact eS) (by dsimp only; rw [onum_app]; exact iM)))))))))
  dsimp only; rw [htk, List.map_append, hl]; rfl
 ·try replace hc := odF hc
  refine iX (bQ (bQ (tQ (bZ (cZ (aZ (eZ J (gZ J (fZ (bZ (rZ ?_)))))))))))
  have hie : i = s.asks.length := by omega
  subst hie
  rw [List.take_length] at hl
  subst hl
  exact yZ J J (la, lc) trivial J (Imp.pull eX (Imp.trans iM hcl))
theorem told_spec {d : Nat} {s : Ds} : Ctr prog W0 39 [.pointer (some ⟨d, 0, none⟩)] (D d s :: Fr) (fun _ : Option Addr × Nat => True) (fun q => .slice q.1 s.told.length q.2) (fun q => onum 27 .u32 q.1 q.2 s.told :: D d s :: Fr) := by
 refine Ctr.ex Ext.here d_open ?_
 intro x hx
 refine Ctr.imp star_open ?_
 have htl := hx.ok.told
 have hcl := d_close (d := d) (G := Fr) x hx
 dsimp only [DO, List.cons_append, List.nil_append] at hcl ⊢
 refine Ctr.of_body func39 J ntmps39 J (cZ (aZ (gZ J (fZ (bZ (cZ (aZ (eZ J (zZ J (pZ fa175_6 J (dZ (iZ ti37 J) ?_)))))))))))
 refine oZ call92 J (Imp.refl _) (cloneU_spec W0 _ (a := x.ta) (c := x.tc) (l := s.told) (by exact SlR.of_osl (E := 27) eX) (by omega)) J ?_
 rintro ⟨a7, c7⟩ -
 exact gZ J (fZ (bZ (rZ (yZ J J (a7, c7) trivial J (Imp.cons hcl)))))
end
end Go.Proofs.YtphljkplokjonaaGreat.Vd
namespace Go.Proofs.YtphljkplokjonaaGreat.Po
open Go Go.Sl Go.RowKit Go.Proofs Go.Proofs.YtphljkplokjonaaGreat.T Tryz
abbrev B := List UInt8
structure Msg where
 a : Option Addr
 c : Nat
 b : B
def Msg.cell (m : Msg) : Value := .slice m.a m.b.length m.c
abbrev Msg.own (m : Msg) : HProp := oby 5 m.a m.c m.b
abbrev pool (ms : List Msg) : HProp := Star (ms.map Msg.own)
structure End where
 a : Option Addr
 c : Nat
 ms : List Msg
def End.bs (x : End) : List B := x.ms.map Msg.b
def End.cell (x : End) : Value := .slice x.a x.ms.length x.c
abbrev oend (x : End) : HProp := osl 32 1 x.a x.c x.ms.length (x.ms.map Msg.cell)
theorem cells_ones (ms : List Msg) : ∀ v ∈ ms.map Msg.cell, one v = true := by intro v hv; rw [List.mem_map] at hv; obtain ⟨m, _, rfl⟩ := hv; rfl
theorem pool_nil {G : List HProp} : Imp G (pool [] :: G) := star_nil
theorem pool_add {G : List HProp} {m : Msg} {ms : List Msg} : Imp (m.own :: pool ms :: G) (pool (ms ++ [m]) :: G) := by
 have h := star_add (L := ms.map Msg.own) (A := m.own) (G := G)
 unfold pool; rw [List.map_append]; exact h
theorem pool_one {G : List HProp} {m : Msg} : Imp (m.own :: G) (pool [m] :: G) := Imp.trans (Imp.cons star_nil) (pool_add (ms := []))
theorem pool_join {G : List HProp} {ms ns : List Msg} : Imp (pool ms :: pool ns :: G) (pool (ms ++ ns) :: G) := by
 have h := star_join (L := ms.map Msg.own) (M := ns.map Msg.own) (G := G)
 unfold pool; rw [List.map_append]; exact h
theorem pool_rd {W0 : World} {G R : List HProp} {ms : List Msg} (x : Ext G (pool ms) R) {m : Msg} (h : m ∈ ms) : RdB W0 G m.a m.c m.b :=
 RdB.of_star (E := 5) x (List.mem_map_of_mem h)
section
variable (W0 : World) (Fr : List HProp)
theorem own_spec {a : Option Addr} {c : Nat} {bs : B} (hr : SlR W0 Fr 1 a bs.length (bytesV bs)) (hb : bs.length ≤ 2 ^ 47) : Ctr prog W0 98 [.slice a bs.length c] Fr (fun _ : Nat => True) (fun x => .slice (some ⟨x, 0, none⟩) bs.length bs.length) (fun x => oby 5 (some ⟨x, 0, none⟩) bs.length bs :: Fr) := by
 refine Ctr.of_body func98 J ntmps98 J (cZ (aZ (gZ J (fZ (bZ (cZ (aZ (eZ J (dZ (sZ underlying32 J J) (kQ (Eff.makeB bs.length underlying32 ti5 J J (by omega)) J ?_))))))))))
 rintro b6 -
 refine gZ J (fZ (bZ (cZ (aZ (eZ J (eZ J (kQ (Eff.copyB (bs := List.replicate bs.length 0) (ys := bs) J J J underlying32 ti5 fC (hr.imp iM) (by rw [List.length_replicate]) J) J ?_)))))))
 rintro ⟨⟩ -
 exact fZ (bZ (cZ (aZ (eZ J (gZ J (fZ (bZ (rZ (yZ J J b6 trivial (by rw [List.length_replicate]) iM)))))))))
theorem all_spec {b o : Nat} {x : End} (hc : Cel W0 Fr ⟨b, o, none⟩ x.cell) (hs : SlR W0 Fr 1 x.a x.ms.length (x.ms.map Msg.cell)) (hm : ∀ m ∈ x.ms, RdB W0 Fr m.a m.c m.b) (hl : x.ms.length ≤ 1000) (hbl : ∀ m ∈ x.ms, m.b.length ≤ 2 ^ 40) :
 Ctr prog W0 96 [.pointer (some ⟨b, o, none⟩)] Fr (fun y : End => y.bs = x.bs) (fun y => y.cell) (fun y => oend y :: pool y.ms :: Fr) := by
 refine Ctr.of_body func96 J ntmps96 J (cZ (aZ (gZ J (fZ (bZ (cZ (aZ (gZ J (fZ (bZ (cZ (cZ (aZ (eZ J (zZ J (pZ fa189_0 J (dZ (jZ (v := x.cell) ti67 J hc) (dZ (sZ (a := x.a) (m := x.ms.length) (c := x.c) underlying67 J J) (eZ J (fZ (bZ (mQ (mX (fun s : Nat × End => s.1 ≤ x.ms.length ∧ s.2.bs = (x.ms.take s.1).map Msg.b) (fun s => [(3, s.2.cell), (9, x.cell), (10, .int .i64 x.ms.length), (11, .int .i64 s.1)]) (fun s => oend s.2 :: pool s.2.ms :: Fr) (fun s => x.ms.length - s.1) (0, ⟨none, 0, []⟩) ⟨Nat.zero_le _, rfl⟩ eS (Imp.trans pool_nil (osl_nil (E := 32) (sz := 1))) ?_)))))))))))))))))))))))
 rintro ⟨i, y⟩ ⟨hi, hy⟩
 dsimp only at hi hy ⊢
 have hyl : y.ms.length = i := by have := congrArg List.length hy; unfold End.bs at this; simp only [List.length_map, List.length_take] at this; omega
 refine cZ (aZ (dZ eQ ?_))
 refine fZ (bZ (cZ (lQ J (fun hc => ?_) (fun hc => ?_))))
 ·try replace hc := odT hc
  have hi' : i < x.ms.length := by omega
  have hget : x.ms[i]? = some x.ms[i] := by simp [hi']
  have hmm := hm x.ms[i] (List.getElem_mem hi')
  have hml := hbl x.ms[i] (List.getElem_mem hi')
  generalize x.ms[i] = m at hget hmm hml
  refine lX (fun w hw => SlR.shape (hs.imp iM) (by intro h; have := congrArg List.length h; simp only [List.length_map, List.length_nil] at this; omega) w hw) ?_
  rintro ⟨bx, ox, hxa⟩
  refine uZ (bZ (cZ (mQ (cZ (aZ (dZ (lZ (b := bx) (o := ox) (m := x.ms.length) (c := x.c) underlying67 ti32 (by unfold End.cell; rw [hxa]; rfl) J (by omega) (by omega)) ?_))))))
  refine dZ (jZ (v := m.cell) ti32 J (by rw [show ox + (i : Int).toNat * 1 = ox + i by omega]; exact SlR.cel (by rw [← hxa]; exact hs.imp iM) (by rw [List.getElem?_map, hget]; rfl))) ?_
  refine gZ J (fZ (bZ (aZ (eZ J (eZ J (oZ call98 J (Imp.refl _) (own_spec W0 _ (a := m.a) (c := m.c) (bs := m.b) (by exact (hmm.imp iM).slR) (by omega)) J ?_))))))
  rintro bm -
  refine kQ (gV underlying67 ti32 J J J) J ?_
  rintro b18 -
  refine kQ (fX (a := y.a) (c := y.c) (k := 1) (ys := [Msg.cell ⟨some ⟨bm, 0, none⟩, m.b.length, m.b⟩]) J J J underlying67 underlying67 ti32 J (by decide) fC (SlR.of_osl (a := some ⟨b18, 0, none⟩) eX) (by simp [one, Msg.cell]) (by omega)) J ?_
  rintro ⟨a19, c19⟩ -
  refine gZ J (fZ (tZ (bZ (aZ (dZ (hQ J J wO) (eZ J (fZ (gX (i + 1, ⟨a19, c19, y.ms ++ [⟨some ⟨bm, 0, none⟩, m.b.length, m.b⟩]⟩) ⟨by simp only; omega, ?_⟩ (by simp only; omega) ?_ ?_))))))))
  ·obtain ⟨hlt, rfl⟩ := List.getElem?_eq_some_iff.1 hget
   unfold End.bs at hy ⊢
   rw [List.map_append, hy, List.take_succ_eq_append_getElem hlt, List.map_append]; rfl
  ·unfold End.cell; dsimp only; rw [List.length_append]; exact eS
  ·dsimp only; rw [show oend ⟨a19, c19, y.ms ++ [⟨some ⟨bm, 0, none⟩, m.b.length, m.b⟩]⟩ = osl 32 1 a19 c19 (y.ms.length + 1) (y.ms.map Msg.cell ++ [Msg.cell ⟨some ⟨bm, 0, none⟩, m.b.length, m.b⟩]) by unfold oend; rw [List.length_append, List.map_append]; rfl]
   exact Imp.trans (Imp.pull eX (Imp.pull (A := Msg.own ⟨some ⟨bm, 0, none⟩, m.b.length, m.b⟩) eX iM)) (Imp.cons pool_add)
 ·try replace hc := odF hc
  refine iX (bQ (bQ (tQ (bZ (cZ (aZ (eZ J (gZ J (fZ (bZ (rZ ?_)))))))))))
  have : i = x.ms.length := by omega
  subst this
  rw [List.take_length] at hy
  exact yZ J J y hy J iM
theorem size_spec {b o : Nat} {sz : Int} (h : Cel W0 Fr ⟨b, o + 3, none⟩ (.int .i64 sz)) : Ctr prog W0 97 [.pointer (some ⟨b, o, none⟩)] Fr (fun _ : Unit => True) (fun _ => .int .i64 (max 0 (min sz 64))) (fun _ => Fr) := by
 exact Ctr.of_body func97 J ntmps97 J (cZ (aZ (gZ J (fZ (bZ (cZ (aZ (eZ J (zZ J (pZ fa191_0 J (pZ fa156_3 J (dZ (jZ (v := .int .i64 sz) ti3 J h) (dZ (mV J J) (dZ (Yield.max2 J J) (gZ J (fZ (bZ (rZ (yZ J J () trivial J (Imp.refl _))))))))))))))))))))
def dep (kind depth : Int) : Int := if kind = 2 then max 1 (min depth 8) else 1
theorem depth_spec {b o : Nat} {kd d : Int} (h0 : Cel W0 Fr ⟨b, o, none⟩ (.int .i64 kd)) (h4 : Cel W0 Fr ⟨b, o + 4, none⟩ (.int .i64 d)) : Ctr prog W0 99 [.pointer (some ⟨b, o, none⟩)] Fr (fun _ : Unit => True) (fun _ => .int .i64 (dep kd d)) (fun _ => Fr) := by
 refine Ctr.of_body func99 J ntmps99 J (cZ (aZ (gZ J (fZ (bZ (cZ (cZ ?_)))))))
 rcases (show kd = 2 ∨ kd ≠ 2 by omega) with hk | hk
 ·refine aZ (eZ J (zZ J (pZ fa191_0 J (pZ fa156_0 J (dZ (jZ (v := .int .i64 kd) ti3 J h0) (dZ vQ ?_))))))
  exact fZ (bZ (vZ J (uZ (bZ (cZ (aZ (eZ J (zZ J (pZ fa191_0 J (pZ fa156_4 J (dZ (jZ (v := .int .i64 d) ti3 J h4) (dZ (mV J J) (dZ (Yield.max2 J J) (gZ J (fZ (bZ (rZ (yZ J J () trivial (by unfold dep; rw [if_pos hk]) (Imp.refl _)))))))))))))))))))
 ·refine aZ (eZ J (zZ J (pZ fa191_0 J (pZ fa156_0 J (dZ (jZ (v := .int .i64 kd) ti3 J h0) (dZ vQ ?_))))))
  exact fZ (bZ (fQ J (cZ (aZ (gZ J (fZ (bZ (rZ (qZ (yZ J J () trivial (by unfold dep; rw [if_neg hk]) (Imp.refl _)))))))))))
end
structure Chan where
 kind : Int
 from_ : Int
 to : Int
 size : Int
 depth : Int
 s : End
 r : End
def Chan.cells (ch : Chan) : List Value := [.int .i64 ch.kind, .int .i64 ch.from_, .int .i64 ch.to, .int .i64 ch.size, .int .i64 ch.depth, ch.s.cell, ch.r.cell]
theorem Chan.len (ch : Chan) : ch.cells.length = 7 := rfl
theorem Chan.ones (ch : Chan) : ∀ v ∈ ch.cells, one v = true := by simp [Chan.cells, one, End.cell]
abbrev Chan.own (ch : Chan) : HProp := Star [oend ch.s, oend ch.r]
structure AC where
 kind : Int
 from_ : Int
 to : Int
 size : Int
 depth : Int
 s : List B
 r : List B
def Chan.abs (ch : Chan) : AC := ⟨ch.kind, ch.from_, ch.to, ch.size, ch.depth, ch.s.bs, ch.r.bs⟩
structure AC.OK (a : AC) : Prop where
 s : a.s.length ≤ 8
 r : a.r.length ≤ 8
 sl : ∀ m ∈ a.s, m.length ≤ 64
 rl : ∀ m ∈ a.r, m.length ≤ 64
structure PC where
 chs : List Chan
 pl : List Msg
 a : Option Addr
 c : Nat
abbrev CO (p : Nat) (x : PC) : List HProp :=
 [blk p [.slice x.a x.chs.length x.c] 196, osl 191 7 x.a x.c x.chs.length ((x.chs.map Chan.cells).flatten), Star (x.chs.map Chan.own), pool x.pl]
structure PC.OK (x : PC) (acs : List AC) : Prop where
 abs : x.chs.map Chan.abs = acs
 ok : ∀ a ∈ acs, a.OK
 mem : ∀ ch ∈ x.chs, ∀ m, m ∈ ch.s.ms ∨ m ∈ ch.r.ms → m ∈ x.pl
 len : acs.length ≤ 1000
def Po (p : Nat) (acs : List AC) : HProp := fun h => ∃ x : PC, x.OK acs ∧ Star (CO p x) h
theorem po_open {p : Nat} {acs : List AC} (y : Heaplet) (h : Po p acs y) : ∃ x : PC, x.OK acs ∧ Star (CO p x) y := h
theorem po_close {p : Nat} {acs : List AC} {G : List HProp} (x : PC) (hx : x.OK acs) : Imp (CO p x ++ G) (Po p acs :: G) :=
 Imp.trans star_close (Imp.head fun y hy => ⟨x, hx, hy⟩)
theorem PC.OK.get {x : PC} {acs : List AC} (h : x.OK acs) {n : Nat} {ac : AC} (ha : acs[n]? = some ac) : ∃ ch, x.chs[n]? = some ch ∧ ch.abs = ac := by
 rw [← h.abs, List.getElem?_map] at ha
 cases hc : x.chs[n]? with
 | none => rw [hc] at ha; cases ha
 | some ch => rw [hc] at ha; exact ⟨ch, rfl, by simpa using ha⟩
theorem PC.OK.lens {x : PC} {acs : List AC} (h : x.OK acs) : x.chs.length = acs.length := by rw [← h.abs]; simp
theorem PC.OK.set {x : PC} {acs : List AC} (h : x.OK acs) {n : Nat} {ch : Chan} {ms : List Msg} (hok : ch.abs.OK) (hm : ∀ m, m ∈ ch.s.ms ∨ m ∈ ch.r.ms → m ∈ ms ++ x.pl) : PC.OK ⟨x.chs.set n ch, ms ++ x.pl, x.a, x.c⟩ (acs.set n ch.abs) := by
 refine ⟨by dsimp only; rw [List.map_set, h.abs], fun a ha => ?_, fun c hc m hcm => ?_, by rw [List.length_set]; exact h.len⟩
 ·rcases List.mem_or_eq_of_mem_set ha with ha | rfl
  ·exact h.ok a ha
  ·exact hok
 ·rcases List.mem_or_eq_of_mem_set hc with hc | rfl
  ·exact List.mem_append.2 (.inr (h.mem c hc m hcm))
  ·exact hm m hcm
section
variable (W0 : World) (Fr : List HProp)
theorem at_in {p b o c n m : Nat} (hn : n < m) : Ctr prog W0 95 [.pointer (some ⟨p, 0, none⟩), .int .i64 n] (blk p [.slice (some ⟨b, o, none⟩) m c] 196 :: Fr) (fun _ : Unit => True) (fun _ => .pointer (some ⟨b, o + n * 7, none⟩)) (fun _ => blk p [.slice (some ⟨b, o, none⟩) m c] 196 :: Fr) := by
 refine Ctr.of_body func95 J ntmps95 J (cZ (aZ (gZ J (fZ (bZ (cZ (cZ (aZ (eZ J (dZ eQ ?_))))))))))
 refine eZ J (kZ J J (eZ J (kZ J J (eZ J (kZ J J (zZ J (kZ J J (pZ fa196_0 J (kZ J J (dZ (iZ ti194 J) ?_))))))))))
 refine kZ J J (dZ (sZ underlying194 J J) (kZ J J (dZ cX ?_)))
 refine dZ mZ ?_
 refine fZ (bZ (vZ J (uZ (bZ (cZ (aZ (eZ J (zZ J (pZ fa196_0 J (dZ (iZ ti194 J) ?_))))))))))
 refine eZ J (dZ (lZ underlying194 ti191 J J (by omega) (by omega)) ?_)
 exact gZ J (fZ (bZ (rZ (yZ J J () trivial J (Imp.refl _)))))
theorem at_out {p c m : Nat} {n : Int} {a : Option Addr} (hn : n < 0 ∨ (m : Int) ≤ n) : Ctr prog W0 95 [.pointer (some ⟨p, 0, none⟩), .int .i64 n] (blk p [.slice a m c] 196 :: Fr) (fun _ : Unit => True) (fun _ => .pointer none) (fun _ => blk p [.slice a m c] 196 :: Fr) := by
 refine Ctr.of_body func95 J ntmps95 J (cZ (aZ (gZ J (fZ (bZ (cZ (cZ ?_)))))))
 rcases (show n < 0 ∨ (¬ n < 0 ∧ (m : Int) ≤ n) by omega) with hh | hh
 ·refine aZ (eZ J (dZ eQ ?_))
  refine eZ J (gQ J J J J J (gQ J J J J J (gQ J J J J J (gQ J J J J J (gQ J J J J J (gQ J J J J J (gQ J J J J J (dZ mZ ?_))))))))
  exact fZ (bZ (fQ J (cZ (aZ (gZ J (fZ (bZ (rZ (qZ (yZ J J () trivial J (Imp.refl _)))))))))))
 ·refine aZ (eZ J (dZ eQ ?_))
  refine eZ J (kZ J J (eZ J (kZ J J (eZ J (kZ J J (zZ J (kZ J J (pZ fa196_0 J (kZ J J (dZ (iZ ti194 J) ?_))))))))))
  refine kZ J J (dZ (sZ underlying194 J J) (kZ J J (dZ cX ?_)))
  refine dZ mZ ?_
  exact fZ (bZ (fQ J (cZ (aZ (gZ J (fZ (bZ (rZ (qZ (yZ J J () trivial J (Imp.refl _)))))))))))
abbrev CP (p : Nat) (x : PC) (n : Nat) (ch : Chan) : List HProp :=
 [blk p [.slice x.a x.chs.length x.c] 196, osl 191 7 x.a x.c x.chs.length (((x.chs.set n ch).map Chan.cells).flatten), oend ch.s, oend ch.r, Star ((x.chs.map Chan.own).eraseIdx n)]
theorem cp_open {p n : Nat} {x : PC} {ch : Chan} {G : List HProp} (h : x.chs[n]? = some ch) : Imp (CO p x ++ G) (CP p x n ch ++ (pool x.pl :: G)) := by
 have e : x.chs.set n ch = x.chs := by
  obtain ⟨hi, rfl⟩ := List.getElem?_eq_some_iff.1 h
  exact List.set_getElem_self hi
 unfold CP; rw [e]
 exact Imp.cons (Imp.cons (Imp.trans (star_take (i := n) (A := ch.own) (by rw [List.getElem?_map, h]; rfl)) star_open))
theorem cp_close {p n : Nat} {x : PC} {acs : List AC} {ch ch0 : Chan} {ms : List Msg} {G : List HProp} (h : x.chs[n]? = some ch0) (hx : x.OK acs) (hok : ch.abs.OK) (hm : ∀ m, m ∈ ch.s.ms ∨ m ∈ ch.r.ms → m ∈ ms ++ x.pl) :
 Imp (CP p x n ch ++ (pool ms :: pool x.pl :: G)) (Po p (acs.set n ch.abs) :: G) := by
 refine Imp.trans ?_ (po_close ⟨x.chs.set n ch, ms ++ x.pl, x.a, x.c⟩ (hx.set hok hm))
 unfold CO CP
 dsimp only
 rw [List.length_set, List.map_set (f := Chan.own)]
 refine Imp.cons (Imp.cons ?_)
 refine Imp.trans (B := ch.own :: Star ((x.chs.map Chan.own).eraseIdx n) :: pool ms :: pool x.pl :: G) ?_ ?_
 ·exact star_close (D := [oend ch.s, oend ch.r])
 ·exact Imp.trans (star_put (A := ch0.own) (by rw [List.getElem?_map, h]; rfl)) (Imp.cons pool_join)
theorem cp_back {p n : Nat} {x : PC} {acs : List AC} {ch : Chan} {G : List HProp} (h : x.chs[n]? = some ch) (hx : x.OK acs) : Imp (CP p x n ch ++ (pool x.pl :: G)) (Po p acs :: G) := by
 have e : x.chs.set n ch = x.chs := by
  obtain ⟨hi, rfl⟩ := List.getElem?_eq_some_iff.1 h
  exact List.set_getElem_self hi
 refine Imp.trans ?_ (po_close x hx)
 unfold CO CP
 rw [e]
 refine Imp.cons (Imp.cons ?_)
 refine Imp.trans (B := ch.own :: Star ((x.chs.map Chan.own).eraseIdx n) :: pool x.pl :: G) ?_ ?_
 ·exact star_close (D := [oend ch.s, oend ch.r])
 ·have := star_put (L := x.chs.map Chan.own) (i := n) (A := ch.own) (B := ch.own) (G := pool x.pl :: G) (by rw [List.getElem?_map, h]; rfl)
  rw [← List.map_set, e] at this; exact this
def sendR (ac : AC) (part : Int) (bs : B) : Int × AC :=
 if ac.from_ ≠ part then (210, ac) else if max 0 (min ac.size 64) < (bs.length : Int) then (9, ac) else if ac.kind ≠ 2 then (0, { ac with s := [bs] })
 else if dep ac.kind ac.depth ≤ (ac.s.length : Int) then (4, ac) else (0, { ac with s := ac.s ++ [bs] })
theorem set_self {α : Type} {l : List α} {i : Nat} {x : α} (h : l[i]? = some x) : l.set i x = l := by
 obtain ⟨hi, rfl⟩ := List.getElem?_eq_some_iff.1 h
 exact List.set_getElem_self hi
theorem shape_chs {W0 : World} {G R : List HProp} {x : PC} {n : Nat} {ch : Chan} {cs : List Chan} (h : x.chs[n]? = some ch) (hc : cs.length = x.chs.length) (e : Ext G (osl 191 7 x.a x.c x.chs.length ((cs.map Chan.cells).flatten)) R) (w : World) (hw : Sat W0 G w) : ∃ b o, x.a = some ⟨b, o, none⟩ := by
 have hn := (List.getElem?_eq_some_iff.1 h).1
 exact (SlR.of_osl e).elem_shape (i := n) Chan.len (by decide) (by omega) w hw
theorem send_out {p c : Nat} {acs : List AC} (part n : Int) {a : Option Addr} {m : Nat} (hn : n < 0 ∨ (acs.length : Int) ≤ n) : Ctr prog W0 44 [.pointer (some ⟨p, 0, none⟩), .int .i64 part, .int .i64 n, .slice a m c] (Po p acs :: Fr) (fun _ : Unit => True) (fun _ => .int .i64 210) (fun _ => Po p acs :: Fr) := by
 refine Ctr.ex Ext.here po_open ?_
 intro x hx
 refine Ctr.imp star_open ?_
 have hln := hx.lens
 dsimp only [CO, List.cons_append, List.nil_append]
 refine Ctr.of_body func44 J ntmps44 J (cZ (aZ (gZ J (fZ (bZ (cZ (aZ (eZ J (eZ J (oZ call95 J (iM) (at_out W0 _ (p := p) (n := n) (by omega)) J ?_))))))))))
 rintro ⟨⟩ -
 refine gZ J (fZ (bZ (cZ (mQ (cZ (aZ (eZ J (dZ (by first | exact wX underlying186 J J | exact vX underlying186 J J) ?_))))))))
 refine eZ J (gQ J J J J J (gQ J J J J J (gQ J J J J J (gQ J J J J J (gQ J J J J J (gQ J J J J J (gQ J J J J J (dZ mZ ?_))))))))
 exact gZ J (fZ (bZ (fQ J (cZ (aZ (gZ J (fZ (bZ (rZ (nQ (qZ (yZ J J () trivial J (Imp.trans iM (po_close x hx))))))))))))))
set_option maxHeartbeats 1000000 in
theorem send_in {p c n : Nat} {acs : List AC} (part : Int) {a : Option Addr} {bs : B} {ac : AC} (hr : SlR W0 Fr 1 a bs.length (bytesV bs)) (hb : bs.length ≤ 2 ^ 47) (hac : acs[n]? = some ac) :
 Ctr prog W0 44 [.pointer (some ⟨p, 0, none⟩), .int .i64 part, .int .i64 n, .slice a bs.length c] (Po p acs :: Fr) (fun _ : Unit => True) (fun _ => .int .i64 (sendR ac part bs).1) (fun _ => Po p (acs.set n (sendR ac part bs).2) :: Fr) := by
 refine Ctr.ex Ext.here po_open ?_
 intro x hx
 refine Ctr.imp star_open ?_
 have hln := hx.lens
 obtain ⟨ch, hch, rfl⟩ := hx.get hac
 have hnl : n < x.chs.length := (List.getElem?_eq_some_iff.1 hch).1
 have hok := hx.ok _ (List.mem_of_getElem? hac)
 have hmem := hx.mem ch (List.mem_of_getElem? hch)
 have hsl : ch.s.ms.length ≤ 8 := by have := hok.s; simp only [Chan.abs, End.bs, List.length_map] at this; exact this
 refine Ctr.imp (cp_open hch) ?_
 have hcs : (x.chs.set n ch)[n]? = some ch := by rw [set_self hch]; exact hch
 refine Ctr.pure (fun w hw => shape_chs (cs := x.chs.set n ch) hch (by rw [List.length_set]) (Ext.there Ext.here) w hw) ?_
 rintro ⟨b, o, hxa⟩
 unfold CP
 rw [hxa]
 dsimp only [List.cons_append, List.nil_append]
 refine Ctr.of_body func44 J ntmps44 J (cZ (aZ (gZ J (fZ (bZ (cZ (aZ (eZ J (eZ J (oZ call95 J (iM) (at_in W0 _ (p := p) (b := b) (o := o) (c := x.c) (n := n) hnl) J ?_))))))))))
 rintro ⟨⟩ -
 refine gZ J (fZ (bZ (cZ (mQ (cZ ?_)))))
 rcases (show ch.from_ ≠ part ∨ (ch.from_ = part ∧ max 0 (min ch.size 64) < (bs.length : Int)) ∨ (ch.from_ = part ∧ (bs.length : Int) ≤ max 0 (min ch.size 64) ∧ ch.kind ≠ 2) ∨ (ch.from_ = part ∧ (bs.length : Int) ≤ max 0 (min ch.size 64) ∧ ch.kind = 2 ∧ dep ch.kind ch.depth ≤ (ch.s.ms.length : Int)) ∨ (ch.from_ = part ∧ (bs.length : Int) ≤ max 0 (min ch.size 64) ∧ ch.kind = 2 ∧ (ch.s.ms.length : Int) < dep ch.kind ch.depth) by omega) with hh | hh | hh | hh | hh
 ·refine aZ (eZ J (dZ (by first | exact wX underlying186 J J | exact vX underlying186 J J) ?_))
  refine eZ J (kZ J J (eZ J (kZ J J (zZ J (kZ J J (pZ fa191_0 J (kZ J J (pZ fa156_1 J (kZ J J (dZ (jZ (v := .int .i64 ch.from_) ti3 J (((SlR.of_osl eX).elem Chan.len hcs) 1 _ J)) ?_))))))))))
  refine kZ J J (eZ J (kZ J J (dZ vQ ?_)))
  refine dZ mZ ?_
  refine gZ J (fZ (bZ (fQ J (cZ (aZ (gZ J (fZ (bZ (rZ (nQ (qZ ?_)))))))))))
  rw [show sendR ch.abs part bs = (210, ch.abs) by unfold sendR; rw [if_pos (by exact hh)], set_self hac]
  exact yZ J J () trivial J (Imp.trans iM (Imp.trans (by unfold CP; rw [hxa]; exact Imp.refl _) (cp_back hch hx)))
 ·refine aZ (eZ J (dZ (by first | exact wX underlying186 J J | exact vX underlying186 J J) ?_))
  refine eZ J (kZ J J (eZ J (kZ J J (zZ J (kZ J J (pZ fa191_0 J (kZ J J (pZ fa156_1 J (kZ J J (dZ (jZ (v := .int .i64 ch.from_) ti3 J (((SlR.of_osl eX).elem Chan.len hcs) 1 _ J)) ?_))))))))))
  refine kZ J J (eZ J (kZ J J (dZ vQ ?_)))
  refine dZ mZ ?_
  refine gZ J (fZ (bZ (vZ J (cZ (aZ (eZ J (dZ (sZ underlying32 J J) (eZ J (oZ call97 J (Imp.refl _) (size_spec W0 _ (b := b) (o := o + n * 7) (sz := ch.size) (by exact ((SlR.of_osl eX).elem Chan.len hcs) 3 _ J)) J ?_)))))))))
  rintro ⟨⟩ -
  refine dZ kX ?_
  refine gZ J (fZ (bZ (fQ J (cZ (aZ (gZ J (fZ (bZ (rZ (nQ (qZ ?_)))))))))))
  rw [show sendR ch.abs part bs = (9, ch.abs) by unfold sendR; rw [if_neg (by exact not_not_intro hh.1), if_pos (by exact hh.2)], set_self hac]
  exact yZ J J () trivial J (Imp.trans iM (Imp.trans (by unfold CP; rw [hxa]; exact Imp.refl _) (cp_back hch hx)))
 ·refine aZ (eZ J (dZ (by first | exact wX underlying186 J J | exact vX underlying186 J J) ?_))
  refine eZ J (kZ J J (eZ J (kZ J J (zZ J (kZ J J (pZ fa191_0 J (kZ J J (pZ fa156_1 J (kZ J J (dZ (jZ (v := .int .i64 ch.from_) ti3 J (((SlR.of_osl eX).elem Chan.len hcs) 1 _ J)) ?_))))))))))
  refine kZ J J (eZ J (kZ J J (dZ vQ ?_)))
  refine dZ mZ ?_
  refine gZ J (fZ (bZ (vZ J (cZ (aZ (eZ J (dZ (sZ underlying32 J J) (eZ J (oZ call97 J (Imp.refl _) (size_spec W0 _ (b := b) (o := o + n * 7) (sz := ch.size) (by exact ((SlR.of_osl eX).elem Chan.len hcs) 3 _ J)) J ?_)))))))))
  rintro ⟨⟩ -
  refine dZ kX ?_
  refine gZ J (fZ (bZ (vZ J (cZ (aZ (eZ J (zZ J (pZ fa191_0 J (pZ fa156_0 J (dZ (jZ (v := .int .i64 ch.kind) ti3 J (((SlR.of_osl eX).elem Chan.len hcs) 0 _ J)) ?_))))))))))
  refine dZ vQ ?_
  refine gZ J (fZ (bZ (fQ J (cZ (aZ (eZ J (eZ J (oZ call98 J (Imp.refl _) (own_spec W0 _ (a := a) (c := c) (bs := bs) (by exact hr.imp iM) hb) J ?_))))))))
  rintro bm -
  refine kQ (gV underlying67 ti32 J J J) J ?_
  rintro b41 -
  refine zZ J (pZ fa191_1 J (pZ fa189_0 J (sQ (fV (i := n) 5 (r := ch) (r' := { ch with s := ⟨some ⟨b41, 0, none⟩, 1, [⟨some ⟨bm, 0, none⟩, bs.length, bs⟩]⟩ }) (rs := x.chs.set n ch) Chan.len hcs J (by decide) ti67 J J fC J (by rw [List.length_set])) J ?_)))
  rintro ⟨⟩ -
  refine fZ (bZ (cZ (aZ (gZ J (fZ (bZ (rZ (nQ (qZ ?_)))))))))
  rw [show sendR ch.abs part bs = (0, { ch.abs with s := [bs] }) by unfold sendR; rw [if_neg (by exact not_not_intro hh.1), if_neg (by have := hh.2.1; exact Int.not_lt.2 this), if_pos (by exact hh.2.2)]]
  have hc := cp_close (p := p) (ms := [⟨some ⟨bm, 0, none⟩, bs.length, bs⟩]) (ch := { ch with s := ⟨some ⟨b41, 0, none⟩, 1, [⟨some ⟨bm, 0, none⟩, bs.length, bs⟩]⟩ }) (G := Fr) hch hx ⟨by simp [Chan.abs, End.bs], hok.r, fun m hm => by simp only [Chan.abs, End.bs, List.map_cons, List.map_nil, List.mem_cons, List.not_mem_nil, or_false] at hm; subst hm; omega, hok.rl⟩ (fun m hm => by rcases hm with hm | hm; exact List.mem_append.2 (.inl hm); exact List.mem_append.2 (.inr (hmem m (.inr hm))))
  unfold CP at hc
  rw [hxa, List.set_set] at *
  refine yZ J J () trivial J (Imp.trans ?_ hc)
  refine Imp.trans ?_ (Imp.cons (Imp.cons (Imp.cons (Imp.cons (Imp.cons (pool_one (m := ⟨some ⟨bm, 0, none⟩, bs.length, bs⟩)))))))
  exact iM
 ·refine aZ (eZ J (dZ (by first | exact wX underlying186 J J | exact vX underlying186 J J) ?_))
  refine eZ J (kZ J J (eZ J (kZ J J (zZ J (kZ J J (pZ fa191_0 J (kZ J J (pZ fa156_1 J (kZ J J (dZ (jZ (v := .int .i64 ch.from_) ti3 J (((SlR.of_osl eX).elem Chan.len hcs) 1 _ J)) ?_))))))))))
  refine kZ J J (eZ J (kZ J J (dZ vQ ?_)))
  refine dZ mZ ?_
  refine gZ J (fZ (bZ (vZ J (cZ (aZ (eZ J (dZ (sZ underlying32 J J) (eZ J (oZ call97 J (Imp.refl _) (size_spec W0 _ (b := b) (o := o + n * 7) (sz := ch.size) (by exact ((SlR.of_osl eX).elem Chan.len hcs) 3 _ J)) J ?_)))))))))
  rintro ⟨⟩ -
  refine dZ kX ?_
  refine gZ J (fZ (bZ (vZ J (cZ (aZ (eZ J (zZ J (pZ fa191_0 J (pZ fa156_0 J (dZ (jZ (v := .int .i64 ch.kind) ti3 J (((SlR.of_osl eX).elem Chan.len hcs) 0 _ J)) ?_))))))))))
  refine dZ vQ ?_
  refine gZ J (fZ (bZ (vZ J (cZ (qQ (.lo 0 0 (.lo 1 0 (.lo 2 0 (.lo 3 0 (.lo 4 0 (.lo 5 0 (.lo 6 1 (.eff1 7 false (.lo 8 1 (.lo 9 1 (.done))))))))))) [7] [] ([osl 191 7 (some ⟨b, o, none⟩) x.c x.chs.length (((x.chs.set n ch).map Chan.cells).flatten)]) ([]) mixed (by kernel_rfl) (iM) (Imp.none _) ?_)))))
  refine nZ J J (dQ J J (wZ J fa191_1 J (wZ J fa189_0 J (hZ J (jZ (v := ch.s.cell) ti67 J (((SlR.of_osl Ext.here).elem Chan.len hcs) 5 _ J)) (hZ J (sZ (a := ch.s.a) (m := ch.s.ms.length) (c := ch.s.c) underlying67 J J) (nZ J J (aQ (rQ J J call99 J (Imp.refl _) (depth_spec W0 _ (b := b) (o := o + n * 7) (kd := ch.kind) (d := ch.depth) (by exact ((SlR.of_osl eX).elem Chan.len hcs) 0 _ J) (by exact ((SlR.of_osl eX).elem Chan.len hcs) 4 _ J)) J (fun _ => iM) (fun _ => Imp.refl _) (fun _ => iM) ?_))))))))
  rintro ⟨⟩ -
  refine hZ J cX ?_
  refine hZ J (jQ J) (pQ (bZ (fQ J (cZ (aZ (gZ J (fZ (bZ (rZ (nQ (qZ ?_)))))))))))
  rw [show sendR ch.abs part bs = (4, ch.abs) by unfold sendR; rw [if_neg (by exact not_not_intro hh.1), if_neg (by have := hh.2.1; exact Int.not_lt.2 this), if_neg (by exact not_not_intro hh.2.2.1), if_pos (by simp only [Chan.abs, End.bs, List.length_map]; exact hh.2.2.2)], set_self hac]
  exact yZ J J () trivial J (Imp.trans iM (Imp.trans (by unfold CP; rw [hxa]; exact Imp.refl _) (cp_back hch hx)))
 ·refine aZ (eZ J (dZ (by first | exact wX underlying186 J J | exact vX underlying186 J J) ?_))
  refine eZ J (kZ J J (eZ J (kZ J J (zZ J (kZ J J (pZ fa191_0 J (kZ J J (pZ fa156_1 J (kZ J J (dZ (jZ (v := .int .i64 ch.from_) ti3 J (((SlR.of_osl eX).elem Chan.len hcs) 1 _ J)) ?_))))))))))
  refine kZ J J (eZ J (kZ J J (dZ vQ ?_)))
  refine dZ mZ ?_
  refine gZ J (fZ (bZ (vZ J (cZ (aZ (eZ J (dZ (sZ underlying32 J J) (eZ J (oZ call97 J (Imp.refl _) (size_spec W0 _ (b := b) (o := o + n * 7) (sz := ch.size) (by exact ((SlR.of_osl eX).elem Chan.len hcs) 3 _ J)) J ?_)))))))))
  rintro ⟨⟩ -
  refine dZ kX ?_
  refine gZ J (fZ (bZ (vZ J (cZ (aZ (eZ J (zZ J (pZ fa191_0 J (pZ fa156_0 J (dZ (jZ (v := .int .i64 ch.kind) ti3 J (((SlR.of_osl eX).elem Chan.len hcs) 0 _ J)) ?_))))))))))
  refine dZ vQ ?_
  refine gZ J (fZ (bZ (vZ J (cZ (qQ (.lo 0 0 (.lo 1 0 (.lo 2 0 (.lo 3 0 (.lo 4 0 (.lo 5 0 (.lo 6 1 (.eff1 7 false (.lo 8 1 (.lo 9 1 (.done))))))))))) [7] [] ([osl 191 7 (some ⟨b, o, none⟩) x.c x.chs.length (((x.chs.set n ch).map Chan.cells).flatten)]) ([]) mixed (by kernel_rfl) (iM) (Imp.none _) ?_)))))
  refine nZ J J (dQ J J (wZ J fa191_1 J (wZ J fa189_0 J (hZ J (jZ (v := ch.s.cell) ti67 J (((SlR.of_osl Ext.here).elem Chan.len hcs) 5 _ J)) (hZ J (sZ (a := ch.s.a) (m := ch.s.ms.length) (c := ch.s.c) underlying67 J J) (nZ J J (aQ (rQ J J call99 J (Imp.refl _) (depth_spec W0 _ (b := b) (o := o + n * 7) (kd := ch.kind) (d := ch.depth) (by exact ((SlR.of_osl eX).elem Chan.len hcs) 0 _ J) (by exact ((SlR.of_osl eX).elem Chan.len hcs) 4 _ J)) J (fun _ => iM) (fun _ => Imp.refl _) (fun _ => iM) ?_))))))))
  rintro ⟨⟩ -
  refine hZ J cX ?_
  refine hZ J (jQ J) (pQ (bZ (vZ J (uZ (tZ (bZ (cZ (qQ (.lo 0 0 (.lo 1 0 (.lo 2 0 (.lo 3 0 (.lo 4 0 (.lo 5 2 (.lo 6 1 (.eff1 7 false (.eff1 8 false (.eff1 9 false (.lo 10 1 (.lo 11 1 (.lo 12 1 (.eff1 13 true (.done))))))))))))))) [7, 8, 9, 13] [5] ([]) ([osl 191 7 (some ⟨b, o, none⟩) x.c x.chs.length (((x.chs.set n ch).map Chan.cells).flatten)]) mixed (by kernel_rfl) (Imp.none _) (iM) ?_))))))))
  refine nZ J J (nZ J J (dQ J J (wZ J fa191_1 J (wZ J fa189_0 J (hZ J (jZ (v := ch.s.cell) ti67 J (((SlR.of_osl Ext.here).elem Chan.len hcs) 5 _ J)) (nZ J J (aQ (rQ J J call98 J (Imp.refl _) (own_spec W0 _ (a := a) (c := c) (bs := bs) (by exact hr.imp iM) hb) J (fun _ => iM) (fun _ => Imp.refl _) (fun _ => iM) ?_))))))))
  rintro bm -
  refine aQ (wQ J J (gV underlying67 ti32 J J J) J (fun _ => iM) (fun _ => Imp.refl _) (fun _ => iM) ?_)
  rintro b63 -
  refine aQ (wQ J J (fX (a := ch.s.a) (c := ch.s.c) (k := 1) (ys := [Msg.cell ⟨some ⟨bm, 0, none⟩, bs.length, bs⟩]) J J J underlying67 underlying67 ti32 J (by decide) fC (SlR.of_osl (a := some ⟨b63, 0, none⟩) eX) (by simp [one, Msg.cell]) (by omega)) J (fun _ => iM) (fun _ => Imp.refl _) (fun _ => iM) ?_)
  rintro ⟨a64, c64⟩ -
  refine dQ J J (wZ J fa191_1 J (wZ J fa189_0 J (aQ (wQ J J (fV (i := n) 5 (r := ch) (r' := { ch with s := ⟨a64, c64, ch.s.ms ++ [⟨some ⟨bm, 0, none⟩, bs.length, bs⟩]⟩ }) (rs := x.chs.set n ch) Chan.len hcs (by simp [Chan.cells, End.cell]) (by decide) ti67 J J fC J (by rw [List.length_set])) J (fun _ => iM) (fun _ => Imp.refl _) (fun _ => iM) ?_))))
  rintro ⟨⟩ -
  refine pQ (bZ (cZ (aZ (gZ J (fZ (bZ (rZ ?_)))))))
  rw [show sendR ch.abs part bs = (0, { ch.abs with s := ch.abs.s ++ [bs] }) by unfold sendR; rw [if_neg (by exact not_not_intro hh.1), if_neg (by have := hh.2.1; exact Int.not_lt.2 this), if_neg (by exact not_not_intro hh.2.2.1), if_neg (by simp only [Chan.abs, End.bs, List.length_map]; exact Int.not_le.2 hh.2.2.2)]]
  have hd8 : dep ch.kind ch.depth ≤ 8 := by unfold dep; split <;> omega
  have hc := cp_close (p := p) (ms := [⟨some ⟨bm, 0, none⟩, bs.length, bs⟩]) (ch := { ch with s := ⟨a64, c64, ch.s.ms ++ [⟨some ⟨bm, 0, none⟩, bs.length, bs⟩]⟩ }) (G := Fr) hch hx ⟨by simp only [Chan.abs, End.bs, List.length_map, List.length_append, List.length_cons, List.length_nil]; omega, hok.r, fun m hm => by simp only [Chan.abs, End.bs, List.map_append, List.map_cons, List.map_nil, List.mem_append, List.mem_cons, List.not_mem_nil, or_false] at hm; rcases hm with hm | rfl; exact hok.sl m hm; omega, hok.rl⟩ (fun m hm => by rcases hm with hm | hm; (rcases List.mem_append.1 hm with hm | hm; exact List.mem_append.2 (.inr (hmem m (.inl hm))); exact List.mem_append.2 (.inl hm)); exact List.mem_append.2 (.inr (hmem m (.inr hm))))
  rw [show Chan.abs { ch with s := ⟨a64, c64, ch.s.ms ++ [⟨some ⟨bm, 0, none⟩, bs.length, bs⟩]⟩ } = { ch.abs with s := ch.abs.s ++ [bs] } by simp [Chan.abs, End.bs]] at hc
  unfold CP at hc
  rw [hxa, List.set_set] at *
  refine yZ J J () trivial J (Imp.trans ?_ hc)
  refine Imp.trans ?_ (Imp.cons (Imp.cons (Imp.cons (Imp.cons (Imp.cons (pool_one (m := ⟨some ⟨bm, 0, none⟩, bs.length, bs⟩)))))))
  dsimp only
  rw [show oend ⟨a64, c64, ch.s.ms ++ [⟨some ⟨bm, 0, none⟩, bs.length, bs⟩]⟩ = osl 32 1 a64 c64 (ch.s.ms.length + 1) (ch.s.ms.map Msg.cell ++ [Msg.cell ⟨some ⟨bm, 0, none⟩, bs.length, bs⟩]) by unfold oend; rw [List.length_append, List.map_append]; rfl]
  exact iM
end
def End.tail (y : End) : End := ⟨y.a.map fun a => cutAt a 1 y.c 1, y.c - 1, y.ms.tail⟩
def nilE : End := ⟨none, 0, []⟩
theorem oend_nil {G : List HProp} : Imp G (oend nilE :: G) := osl_nil (E := 32) (sz := 1)
theorem oend_tail {y : End} (h : 1 ≤ y.ms.length) (x : Heaplet) (o : oend y x) : oend y.tail x := by
 have hc := o.2.1
 have := osl_cut (l := 1) (h := y.ms.length) (ys := y.ms.tail.map Msg.cell) h hc (Nat.le_refl _) (by rw [List.map_tail, ← List.drop_one, Nat.mul_one, List.take_of_length_le (by simp)]) x o
 unfold End.tail
 dsimp only [oend]
 rw [List.length_tail]; exact this
theorem End.tail_bs (y : End) : y.tail.bs = y.bs.tail := by unfold End.tail End.bs; rw [List.map_tail]
theorem Yield.tail {P : Program} {W0 : World} {e : Env} {G : List HProp} {ty t el : TypeId} {x : Operand} {y : End} {by' z ag} (hu : P.underlying t = some (.slice el)) (ht : TI P el 1 by' z ag) (hx : e.ev x = some y.cell) (h : 1 ≤ y.ms.length) (hc : y.ms.length ≤ y.c) : Yield P W0 (.slice t x (some (.const (.int .i64 1))) none none) ty e G y.tail.cell := by
 have := Yield.slice (W0 := W0) (G := G) (ty := ty) (lo := some (.const (.int .i64 1))) (hi := none) (l := 1) (h := (y.ms.length : Int)) hu ht hx (Bound.some J) Bound.none (by omega) (by omega) (by omega)
 refine oQ this ?_
 unfold End.cell End.tail
 dsimp only
 rw [List.length_tail]; rfl
section
variable (W0 : World) (Fr : List HProp)
def recvE (ac : AC) (part : Int) : Int := if ac.to ≠ part then 210 else if ac.r = [] then 110 else 0
theorem recv_out {p : Nat} {acs : List AC} (part n : Int) (hn : n < 0 ∨ (acs.length : Int) ≤ n) : Ctr prog W0 59 [.pointer (some ⟨p, 0, none⟩), .int .i64 part, .int .i64 n] (Po p acs :: Fr) (fun _ : Unit => True) (fun _ => .tuple #[.slice none 0 0, .int .i64 210]) (fun _ => Po p acs :: Fr) := by
 refine Ctr.ex Ext.here po_open ?_
 intro x hx
 refine Ctr.imp star_open ?_
 have hln := hx.lens
 dsimp only [CO, List.cons_append, List.nil_append]
 refine Ctr.of_body func59 J ntmps59 J (cZ (aZ (gZ J (gZ J (fZ (bZ (cZ (aZ (eZ J (eZ J (oZ call95 J (iM) (at_out W0 _ (p := p) (n := n) (by omega)) J ?_)))))))))))
 rintro ⟨⟩ -
 refine gZ J (fZ (bZ (cZ (mQ (cZ (aZ (eZ J (dZ (by first | exact wX underlying186 J J | exact vX underlying186 J J) ?_))))))))
 refine eZ J (gQ J J J J J (gQ J J J J J (gQ J J J J J (gQ J J J J J (gQ J J J J J (gQ J J J J J (gQ J J J J J (dZ mZ ?_))))))))
 exact gZ J (fZ (bZ (fQ J (cZ (aZ (gZ J (gZ J (fZ (bZ (rZ (nQ (qZ (oX J J J () trivial J (Imp.trans iM (po_close x hx)))))))))))))))
theorem recv_bad {p n : Nat} {acs : List AC} (part : Int) {ac : AC} (hac : acs[n]? = some ac) (he : recvE ac part ≠ 0) :
 Ctr prog W0 59 [.pointer (some ⟨p, 0, none⟩), .int .i64 part, .int .i64 n] (Po p acs :: Fr) (fun _ : Unit => True) (fun _ => .tuple #[.slice none 0 0, .int .i64 (recvE ac part)]) (fun _ => Po p acs :: Fr) := by
 refine Ctr.ex Ext.here po_open ?_
 intro x hx
 refine Ctr.imp star_open ?_
 have hln := hx.lens
 obtain ⟨ch, hch, rfl⟩ := hx.get hac
 have hnl : n < x.chs.length := (List.getElem?_eq_some_iff.1 hch).1
 refine Ctr.imp (cp_open hch) ?_
 have hcs : (x.chs.set n ch)[n]? = some ch := by rw [set_self hch]; exact hch
 refine Ctr.pure (fun w hw => shape_chs (cs := x.chs.set n ch) hch (by rw [List.length_set]) (Ext.there Ext.here) w hw) ?_
 rintro ⟨b, o, hxa⟩
 unfold CP
 rw [hxa]
 dsimp only [List.cons_append, List.nil_append]
 have hcase : ch.to ≠ part ∨ (ch.to = part ∧ ch.r.ms.length = 0) := by
  by_cases h : ch.to = part
  ·refine .inr ⟨h, ?_⟩
   unfold recvE at he
   rw [if_neg (by exact not_not_intro h)] at he
   split at he
   ·rename_i h2; simp only [Chan.abs, End.bs, List.map_eq_nil_iff] at h2; rw [h2]; rfl
   ·exact absurd J he
  ·exact .inl h
 refine Ctr.of_body func59 J ntmps59 J (cZ (aZ (gZ J (gZ J (fZ (bZ (cZ (aZ (eZ J (eZ J (oZ call95 J (iM) (at_in W0 _ (p := p) (b := b) (o := o) (c := x.c) (n := n) hnl) J ?_)))))))))))
 rintro ⟨⟩ -
 refine gZ J (fZ (bZ (cZ (mQ (cZ ?_)))))
 rcases hcase with hh | hh
 ·refine aZ (eZ J (dZ (by first | exact wX underlying186 J J | exact vX underlying186 J J) ?_))
  refine eZ J (kZ J J (eZ J (kZ J J (zZ J (kZ J J (pZ fa191_0 J (kZ J J (pZ fa156_2 J (kZ J J (dZ (jZ (v := .int .i64 ch.to) ti3 J (((SlR.of_osl eX).elem Chan.len hcs) 2 _ J)) ?_))))))))))
  refine kZ J J (eZ J (kZ J J (dZ vQ ?_)))
  refine dZ mZ ?_
  refine gZ J (fZ (bZ (fQ J (cZ (aZ (gZ J (gZ J (fZ (bZ (rZ (nQ (qZ ?_))))))))))))
  rw [show recvE ch.abs part = 210 by unfold recvE; rw [if_pos (by exact hh)]]
  exact oX J J J () trivial J (Imp.trans iM (Imp.trans (by unfold CP; rw [hxa]; exact Imp.refl _) (cp_back hch hx)))
 ·refine aZ (eZ J (dZ (by first | exact wX underlying186 J J | exact vX underlying186 J J) ?_))
  refine eZ J (kZ J J (eZ J (kZ J J (zZ J (kZ J J (pZ fa191_0 J (kZ J J (pZ fa156_2 J (kZ J J (dZ (jZ (v := .int .i64 ch.to) ti3 J (((SlR.of_osl eX).elem Chan.len hcs) 2 _ J)) ?_))))))))))
  refine kZ J J (eZ J (kZ J J (dZ vQ ?_)))
  refine dZ mZ ?_
  refine gZ J (fZ (bZ (vZ J (cZ (aZ (eZ J (zZ J (pZ fa191_2 J (pZ fa189_0 J (dZ (jZ (v := ch.r.cell) ti67 J (((SlR.of_osl eX).elem Chan.len hcs) 6 _ J)) ?_))))))))))
  refine dZ (sZ (a := ch.r.a) (m := ch.r.ms.length) (c := ch.r.c) underlying67 J J) (dZ zX ?_)
  refine gZ J (fZ (bZ (fQ J (cZ (aZ (gZ J (gZ J (fZ (bZ (rZ (nQ (qZ ?_))))))))))))
  rw [show recvE ch.abs part = 110 by unfold recvE; rw [if_neg (by exact not_not_intro hh.1), if_pos (by simp only [Chan.abs, End.bs, List.map_eq_nil_iff]; exact List.length_eq_zero_iff.1 hh.2)]]
  exact oX J J J () trivial J (Imp.trans iM (Imp.trans (by unfold CP; rw [hxa]; exact Imp.refl _) (cp_back hch hx)))
set_option maxHeartbeats 1000000 in
theorem recv_ok {p n : Nat} {acs : List AC} (part : Int) {ac : AC} {m : B} {rest : List B} (hac : acs[n]? = some ac) (hto : ac.to = part) (hr : ac.r = m :: rest) :
 Ctr prog W0 59 [.pointer (some ⟨p, 0, none⟩), .int .i64 part, .int .i64 n] (Po p acs :: Fr) (fun _ : Nat => True) (fun z => .tuple #[.slice (some ⟨z, 0, none⟩) m.length m.length, .int .i64 0]) (fun z => oby 5 (some ⟨z, 0, none⟩) m.length m :: Po p (acs.set n (if ac.kind = 2 then { ac with r := rest } else ac)) :: Fr) := by
 refine Ctr.ex Ext.here po_open ?_
 intro x hx
 refine Ctr.imp star_open ?_
 have hln := hx.lens
 obtain ⟨ch, hch, rfl⟩ := hx.get hac
 have hnl : n < x.chs.length := (List.getElem?_eq_some_iff.1 hch).1
 have hok := hx.ok _ (List.mem_of_getElem? hac)
 have hmem := hx.mem ch (List.mem_of_getElem? hch)
 obtain ⟨m0, ms', hrm, hm0, hms⟩ : ∃ m0 ms', ch.r.ms = m0 :: ms' ∧ m0.b = m ∧ ms'.map Msg.b = rest := by
  have hr2 : ch.r.ms.map Msg.b = m :: rest := hr
  cases hq : ch.r.ms with
  | nil => rw [hq] at hr2; cases hr2
  | cons m0 ms' => rw [hq] at hr2; simp only [List.map_cons, List.cons.injEq] at hr2; exact ⟨m0, ms', rfl, hr2.1, hr2.2⟩
 have hrl : ch.r.ms.length ≤ 8 := by have := hok.r; simp only [Chan.abs, End.bs, List.length_map] at this; exact this
 have hr1 : 1 ≤ ch.r.ms.length := by rw [hrm]; simp
 have hml : m.length ≤ 64 := hok.rl m (by rw [hr]; simp)
 have hto2 : ch.to = part := hto
 refine Ctr.imp (cp_open hch) ?_
 have hcs : (x.chs.set n ch)[n]? = some ch := by rw [set_self hch]; exact hch
 refine Ctr.pure (fun w hw => shape_chs (cs := x.chs.set n ch) hch (by rw [List.length_set]) (Ext.there Ext.here) w hw) ?_
 rintro ⟨b, o, hxa⟩
 unfold CP
 rw [hxa]
 dsimp only [List.cons_append, List.nil_append]
 refine Ctr.pure (fun w hw => SlR.shape (SlR.of_osl (W0 := W0) (E := 32) (sz := 1) (a := ch.r.a) (c := ch.r.c) (m := ch.r.ms.length) (xs := ch.r.ms.map Msg.cell) eX) (by rw [hrm]; simp) w hw) ?_
 rintro ⟨br, or', hra⟩
 subst hm0
 refine Ctr.of_body func59 J ntmps59 J (cZ (aZ (gZ J (gZ J (fZ (bZ (cZ (aZ (eZ J (eZ J (oZ call95 J (iM) (at_in W0 _ (p := p) (b := b) (o := o) (c := x.c) (n := n) hnl) J ?_)))))))))))
 rintro ⟨⟩ -
 refine gZ J (fZ (bZ (cZ (mQ (cZ (aZ (eZ J (dZ (by first | exact wX underlying186 J J | exact vX underlying186 J J) ?_))))))))
 refine eZ J (kZ J J (eZ J (kZ J J (zZ J (kZ J J (pZ fa191_0 J (kZ J J (pZ fa156_2 J (kZ J J (dZ (jZ (v := .int .i64 ch.to) ti3 J (((SlR.of_osl eX).elem Chan.len hcs) 2 _ J)) ?_))))))))))
 refine kZ J J (eZ J (kZ J J (dZ vQ ?_)))
 refine dZ mZ ?_
 refine gZ J (fZ (bZ (vZ J (cZ (aZ (eZ J (zZ J (pZ fa191_2 J (pZ fa189_0 J (dZ (jZ (v := ch.r.cell) ti67 J (((SlR.of_osl eX).elem Chan.len hcs) 6 _ J)) ?_))))))))))
 refine dZ (sZ (a := ch.r.a) (m := ch.r.ms.length) (c := ch.r.c) underlying67 J J) (dZ zX ?_)
 refine gZ J (fZ (bZ (vZ J (uZ (tZ (bZ (cZ (aZ (eZ J (zZ J (pZ fa191_2 J (pZ fa189_0 J (dZ (jZ (v := ch.r.cell) ti67 J (((SlR.of_osl eX).elem Chan.len hcs) 6 _ J)) ?_)))))))))))))
 refine dZ (lZ (b := br) (o := or') (m := ch.r.ms.length) (c := ch.r.c) underlying67 ti32 (by unfold End.cell; rw [← hra]; rfl) J (by omega) (by omega)) ?_
 refine dZ (jZ (v := m0.cell) ti32 J (by rw [show or' + (0 : Int).toNat * 1 = or' + 0 from J]; exact SlR.cel (by rw [← hra]; exact SlR.of_osl (E := 32) (a := ch.r.a) (c := ch.r.c) (m := ch.r.ms.length) (xs := ch.r.ms.map Msg.cell) eX) (by rw [hrm]; rfl))) ?_
 refine oZ call98 J (Imp.refl _) (own_spec W0 _ (a := m0.a) (c := m0.c) (bs := m0.b) (by exact (pool_rd eX (hmem m0 (.inr (by rw [hrm]; simp)))).slR) (by omega)) J ?_
 rintro bz -
 refine gZ J (fZ (bZ (cZ (cZ (aZ (eZ J (zZ J (pZ fa191_0 J (pZ fa156_0 J (dZ (jZ (v := .int .i64 ch.kind) ti3 J (((SlR.of_osl eX).elem Chan.len hcs) 0 _ J)) ?_))))))))))
 refine dZ (yQ J J) (fZ (bZ (lQ J (fun hc => ?_) (fun hc => ?_))))
 ·try replace hc := odT hc
  refine aZ (eZ J (eZ J (zZ J (pZ fa191_2 J (oZ call96 J (Imp.refl _) (all_spec W0 _ (b := b) (o := o + n * 7 + 6) (x := ch.r) (by exact ((SlR.of_osl eX).elem Chan.len hcs) 6 _ J) (by exact SlR.of_osl (E := 32) eX) (by intro m hm; exact pool_rd eX (hmem m (.inr hm))) (by omega) (by intro m hm; have := hok.rl m.b (List.mem_map_of_mem hm); omega)) J ?_)))))
  rintro y hy
  have hyl : y.ms.length = ch.r.ms.length := by have := congrArg List.length hy; unfold End.bs at this; simpa using this
  refine OG.pure (fun w hw => osl_facts (W0 := W0) (E := 32) (sz := 1) (a := y.a) (c := y.c) (m := y.ms.length) (xs := y.ms.map Msg.cell) eX w hw) ?_
  rintro ⟨-, hyc⟩
  refine dZ (Yield.tail (y := y) underlying67 ti32 J (by omega) hyc) ?_
  refine zZ J (pZ fa191_2 J (pZ fa189_0 J (sQ (fV (i := n) 6 (r := ch) (r' := { ch with r := y.tail }) (rs := x.chs.set n ch) Chan.len hcs J (by decide) ti67 J J fC J (by rw [List.length_set])) J ?_)))
  rintro ⟨⟩ -
  refine fZ (bZ (cZ (aZ (eZ J (gZ J (gZ J (fZ (bZ (rZ ?_)))))))))
  rw [if_pos (by exact hc)]
  have hyt : y.tail.bs = rest := by rw [End.tail_bs, hy]; show (ch.r.ms.map Msg.b).tail = rest; rw [hrm]; exact hms
  have hcl := cp_close (p := p) (ms := y.ms) (ch := { ch with r := y.tail }) (G := Fr) hch hx ⟨hok.s, by show y.tail.bs.length ≤ 8; rw [hyt, ← hms, List.length_map]; rw [hrm] at hrl; simp only [List.length_cons] at hrl; omega, hok.sl, fun m hm => hok.rl m (by rw [hr]; have hm2 : m ∈ y.tail.bs := hm; rw [hyt] at hm2; simp [hm2])⟩ (fun m hm => by rcases hm with hm | hm; exact List.mem_append.2 (.inr (hmem m (.inl hm))); exact List.mem_append.2 (.inl (List.mem_of_mem_tail hm)))
  rw [show Chan.abs { ch with r := y.tail } = { ch.abs with r := rest } by simp only [Chan.abs]; rw [hyt]] at hcl
  unfold CP at hcl
  rw [hxa, List.set_set] at *
  refine oX J J J bz trivial J (Imp.trans ?_ (Imp.cons hcl))
  refine Imp.trans ?_ (Imp.cons (Imp.cons (Imp.cons (Imp.cons (Imp.head (fun h hh => oend_tail (by omega) h hh))))))
  dsimp only
  exact iM
 ·try replace hc := odF hc
  refine uZ (bZ (cZ (aZ (eZ J (gZ J (gZ J (fZ (bZ (rZ ?_)))))))))
  rw [if_neg (by exact hc), set_self hac]
  exact oX J J J bz trivial J (Imp.trans (Imp.pull eX iM) (Imp.cons (Imp.trans (by unfold CP; rw [hxa]; exact Imp.refl _) (cp_back hch hx))))
theorem held_in {p n : Nat} {acs : List AC} (sd : Bool) {ac : AC} (hac : acs[n]? = some ac) :
 Ctr prog W0 43 [.pointer (some ⟨p, 0, none⟩), .int .i64 n, .bool sd] (Po p acs :: Fr) (fun y : End => y.bs = if sd then ac.s else ac.r) (fun y => y.cell) (fun y => oend y :: pool y.ms :: Po p acs :: Fr) := by
 refine Ctr.ex Ext.here po_open ?_
 intro x hx
 refine Ctr.imp star_open ?_
 have hln := hx.lens
 obtain ⟨ch, hch, rfl⟩ := hx.get hac
 have hnl : n < x.chs.length := (List.getElem?_eq_some_iff.1 hch).1
 have hok := hx.ok _ (List.mem_of_getElem? hac)
 have hmem := hx.mem ch (List.mem_of_getElem? hch)
 have hrl : ch.r.ms.length ≤ 8 := by have := hok.r; simp only [Chan.abs, End.bs, List.length_map] at this; exact this
 have hsl : ch.s.ms.length ≤ 8 := by have := hok.s; simp only [Chan.abs, End.bs, List.length_map] at this; exact this
 refine Ctr.imp (cp_open hch) ?_
 have hcs : (x.chs.set n ch)[n]? = some ch := by rw [set_self hch]; exact hch
 refine Ctr.pure (fun w hw => shape_chs (cs := x.chs.set n ch) hch (by rw [List.length_set]) (Ext.there Ext.here) w hw) ?_
 rintro ⟨b, o, hxa⟩
 unfold CP
 rw [hxa]
 dsimp only [List.cons_append, List.nil_append]
 refine Ctr.of_body func43 J ntmps43 J (cZ (aZ (gZ J (fZ (bZ (cZ (aZ (eZ J (eZ J (oZ call95 J (iM) (at_in W0 _ (p := p) (b := b) (o := o) (c := x.c) (n := n) hnl) J ?_))))))))))
 rintro ⟨⟩ -
 refine gZ J (fZ (bZ (cZ (mQ (cZ (aZ (eZ J (dZ (by first | exact wX underlying186 J J | exact vX underlying186 J J) ?_))))))))
 refine gZ J (fZ (bZ (vZ J (cZ (aZ (eZ J (gZ J (fZ (bZ (lQ J (fun hc => ?_) (fun hc => ?_)))))))))))
 ·try replace hc := odT hc
  refine cZ (aZ (eZ J (zZ J (pZ fa191_1 J (oZ call96 J (Imp.refl _) (all_spec W0 _ (b := b) (o := o + n * 7 + 5) (x := ch.s) (by exact ((SlR.of_osl eX).elem Chan.len hcs) 5 _ J) (by exact SlR.of_osl (E := 32) eX) (by intro m hm; exact pool_rd eX (hmem m (.inl hm))) (by omega) (by intro m hm; have := hok.sl m.b (List.mem_map_of_mem hm); omega)) J ?_)))))
  rintro y hy
  exact gZ J (fZ (bZ (rZ (nQ (qZ (yZ J J y (by rw [if_pos hc]; exact hy) J (Imp.cons (Imp.cons (Imp.trans (by unfold CP; rw [hxa]; exact Imp.refl _) (cp_back hch hx))))))))))
 ·try replace hc := odF hc
  refine uZ (tZ (bZ (cZ (aZ (eZ J (zZ J (pZ fa191_2 J (oZ call96 J (Imp.refl _) (all_spec W0 _ (b := b) (o := o + n * 7 + 6) (x := ch.r) (by exact ((SlR.of_osl eX).elem Chan.len hcs) 6 _ J) (by exact SlR.of_osl (E := 32) eX) (by intro m hm; exact pool_rd eX (hmem m (.inr hm))) (by omega) (by intro m hm; have := hok.rl m.b (List.mem_map_of_mem hm); omega)) J ?_))))))))
  rintro y hy
  exact gZ J (fZ (bZ (rZ (yZ J J y (by rw [if_neg (by rw [hc]; decide)]; exact hy) J (Imp.cons (Imp.cons (Imp.trans (by unfold CP; rw [hxa]; exact Imp.refl _) (cp_back hch hx))))))))
end
def carry (kd dp : Int) : List B → List B → List B × List B
 | [], r => ([], r)
 | m :: s, r => if kd ≠ 2 then carry kd dp s [m] else if dp ≤ (r.length : Int) then (m :: s, r) else carry kd dp s (r ++ [m])
def AC.q (ac : AC) : List B × List B := carry ac.kind (dep ac.kind ac.depth) ac.s ac.r
def AC.tr (ac : AC) : AC := { ac with s := ac.q.1, r := ac.q.2 }
def AC.went (ac : AC) : Bool := decide (ac.q.1.length < ac.s.length)
def wentI (acs : List AC) (i : Nat) : List Int := ((List.range i).filter fun n => ((acs[n]?).map AC.went).getD false).map Int.ofNat
theorem wentI_succ {acs : List AC} {i : Nat} {ac : AC} (h : acs[i]? = some ac) : wentI acs (i + 1) = if ac.went then wentI acs i ++ [(i : Int)] else wentI acs i := by
 unfold wentI
 rw [List.range_succ, List.filter_append, List.map_append]
 cases hw : ac.went <;> simp [h, hw]
theorem wentI_len (acs : List AC) (i : Nat) : (wentI acs i).length ≤ i := by
 unfold wentI; rw [List.length_map]; exact Nat.le_trans (List.length_filter_le _ _) (by simp)
def oint (l : List Int) : List Value := l.map (Value.int .i64)
abbrev oins (a : Option Addr) (c : Nat) (l : List Int) : HProp := osl 3 1 a c l.length (oint l)
theorem step_map {acs : List AC} {i : Nat} {ac : AC} (h : acs[i]? = some ac) : (acs.take (i + 1)).map AC.tr ++ acs.drop (i + 1) = ((acs.take i).map AC.tr ++ acs.drop i).set i ac.tr := by
 obtain ⟨hi, rfl⟩ := List.getElem?_eq_some_iff.1 h
 have hl : ((acs.take i).map AC.tr).length = i := by simp; omega
 rw [List.set_append_right _ _ (by omega), hl, Nat.sub_self, List.drop_eq_getElem_cons hi, List.set_cons_zero, List.take_succ_eq_append_getElem hi, List.map_append, List.append_assoc]; rfl
theorem step_get {acs : List AC} {i : Nat} {ac : AC} (h : acs[i]? = some ac) : ((acs.take i).map AC.tr ++ acs.drop i)[i]? = some ac := by
 obtain ⟨hi, rfl⟩ := List.getElem?_eq_some_iff.1 h
 have hl : ((acs.take i).map AC.tr).length = i := by simp; omega
 rw [List.getElem?_append_right (by omega), hl, Nat.sub_self]; simp [hi]
structure Way (ch0 ch : Chan) (ms pl : List Msg) : Prop where
 kind : ch.kind = ch0.kind
 from_ : ch.from_ = ch0.from_
 to : ch.to = ch0.to
 size : ch.size = ch0.size
 depth : ch.depth = ch0.depth
 sl : ch.s.ms.length ≤ 8
 rl : ch.r.ms.length ≤ 8
 sm : ∀ m ∈ ch.s.ms, m.b.length ≤ 64
 rm : ∀ m ∈ ch.r.ms, m.b.length ≤ 64
 mem : ∀ m, m ∈ ch.s.ms ∨ m ∈ ch.r.ms → m ∈ ms ++ pl
structure It where
 ch : Chan
 ms : List Msg
section
variable (W0 : World) (Fr : List HProp)
set_option maxHeartbeats 4000000 in
theorem transfer_spec {p : Nat} {acs : List AC} : Ctr prog W0 45 [.pointer (some ⟨p, 0, none⟩)] (Po p acs :: Fr) (fun _ : Option Addr × Nat => True) (fun q => .slice q.1 (wentI acs acs.length).length q.2) (fun q => oins q.1 q.2 (wentI acs acs.length) :: Po p (acs.map AC.tr) :: Fr) := by
 refine Ctr.pure (ψ := acs.length ≤ 1000) (fun w hw => by obtain ⟨_, _, x, hx, _⟩ := Sat.ext Ext.here hw; exact hx.len) fun hal => ?_
 refine Ctr.of_body func45 J ntmps45 J (cZ (aZ (gZ J (fZ (bZ (cZ (aZ (gZ J (fZ (bZ (kV (A := Po p acs) eX po_open ?_)))))))))))
 intro x0 hx0
 refine rX star_open ?_
 have hln0 := hx0.lens
 dsimp only [CO, List.cons_append, List.nil_append]
 refine cZ (cZ (aZ (eZ J (zZ J (pZ fa196_0 J (dZ (iZ ti194 J) ?_))))))
 refine dZ (sZ underlying194 J J) (eZ J (fZ (bZ (mQ (mX (fun s : Nat × Option Addr × Nat => s.1 ≤ acs.length) (fun s => [(0, .pointer (some ⟨p, 0, none⟩)), (3, .slice s.2.1 (wentI acs s.1).length s.2.2), (11, .int .i64 acs.length), (12, .int .i64 s.1)]) (fun s => oins s.2.1 s.2.2 (wentI acs s.1) :: Po p ((acs.take s.1).map AC.tr ++ acs.drop s.1) :: Fr) (fun s => acs.length - s.1) (0, none, 0) (Nat.zero_le _) (by rw [← hln0]; exact eS) (by simp only [List.take_zero, List.map_nil, List.nil_append, List.drop_zero]; exact Imp.trans (osl_nil (E := 3) (sz := 1)) (Imp.cons (Imp.trans iM (po_close x0 hx0)))) ?_)))))
 rintro ⟨i, a3, c3⟩ (hi : i ≤ acs.length)
 have hwl := wentI_len acs i
 dsimp only
 refine cZ (aZ (dZ eQ ?_))
 refine fZ (bZ (cZ (lQ J (fun hc => ?_) (fun hc => ?_))))
 ·try replace hc := odT hc
  have hi' : i < acs.length := by omega
  have hget : acs[i]? = some acs[i] := by simp [hi']
  generalize acs[i] = ac at hget
  have hg2 := step_get hget
  have hwi := wentI_succ hget
  have hst := step_map hget
  refine uZ (bZ (cZ (mQ (cZ (aZ (eZ J (gZ J (fZ (bZ (CG.scope ?_))))))))))
  generalize hA : (acs.take i).map AC.tr ++ acs.drop i = A at hg2 hst ⊢
  refine kV (A := Po p A) eX po_open ?_
  intro x hx
  refine rX star_open ?_
  have hln := hx.lens
  obtain ⟨ch, hch, hab⟩ := hx.get hg2
  have hnl : i < x.chs.length := (List.getElem?_eq_some_iff.1 hch).1
  have hok := hx.ok _ (List.mem_of_getElem? hg2)
  have hmem := hx.mem ch (List.mem_of_getElem? hch)
  subst hab
  refine rX (cp_open hch) (lX (fun w hw => shape_chs (cs := x.chs.set i ch) hch (by rw [List.length_set]) (Ext.there Ext.here) w hw) ?_)
  rintro ⟨b, o, hxa⟩
  have hway : Way ch ch [] x.pl := ⟨rfl, rfl, rfl, rfl, rfl, by have := hok.s; simp only [Chan.abs, End.bs, List.length_map] at this; exact this, by have := hok.r; simp only [Chan.abs, End.bs, List.length_map] at this; exact this, fun m hm => hok.sl m.b (List.mem_map_of_mem hm), fun m hm => hok.rl m.b (List.mem_map_of_mem hm), fun m hm => hmem m hm⟩
  refine rX (G' := CP p x i ch ++ (pool [] :: pool x.pl :: oins a3 c3 (wentI acs i) :: Fr)) (Imp.trans iM (Imp.trans pool_nil iM)) ?_
  unfold CP
  rw [hxa]
  dsimp only [List.cons_append, List.nil_append]
  refine cZ (aZ (eZ J (zZ J (pZ fa196_0 J (dZ (iZ ti194 J) ?_)))))
  refine eZ J (dZ (lZ underlying194 ti191 J J (by omega) (by omega)) ?_)
  refine gZ J (fZ (bZ (cZ (aZ (gZ J (fZ (bZ (cZ (CG.label (bZ (CG.cut (fun s : It => Way ch s.ch s.ms x.pl ∧ (s.ch.s.bs, s.ch.r.bs) = ch.abs.q) (fun s => [(0, .pointer (some ⟨p, 0, none⟩)), (3, .slice a3 (wentI acs i).length c3), (4, .int .i64 i), (6, .bool (decide (s.ch.s.bs.length < ch.s.bs.length))), (11, .int .i64 acs.length), (12, .int .i64 i)]) (fun s => CP p x i s.ch ++ (pool s.ms :: pool x.pl :: oins a3 c3 (wentI acs i) :: Fr)) ?_ ?_)))))))))))
  ·refine mQ (mX (fun s : It => Way ch s.ch s.ms x.pl ∧ carry ch.kind (dep ch.kind ch.depth) s.ch.s.bs s.ch.r.bs = ch.abs.q ∧ s.ch.s.bs.length ≤ ch.s.bs.length) (fun s => [(0, .pointer (some ⟨p, 0, none⟩)), (3, .slice a3 (wentI acs i).length c3), (4, .int .i64 i), (5, .pointer (some ⟨b, o + i * 7, none⟩)), (6, .bool (decide (s.ch.s.bs.length < ch.s.bs.length))), (11, .int .i64 acs.length), (12, .int .i64 i)]) (fun s => CP p x i s.ch ++ (pool s.ms :: pool x.pl :: oins a3 c3 (wentI acs i) :: Fr)) (fun s => s.ch.s.ms.length) ⟨ch, []⟩ ⟨hway, rfl, Nat.le_refl _⟩ (by rw [show decide (ch.s.bs.length < ch.s.bs.length) = false by simp]; exact eS) (by dsimp only; unfold CP; rw [hxa]; exact Imp.refl _) ?_)
   rintro ⟨ch2, ms2⟩ ⟨way, hq, hsl⟩
   dsimp only at way hq hsl ⊢
   have hcs : (x.chs.set i ch2)[i]? = some ch2 := by simp [hnl]
   have wl := way.sl
   have wr := way.rl
   unfold CP
   rw [hxa]
   dsimp only [List.cons_append, List.nil_append]
   refine cZ (cZ (aZ (eZ J (zZ J (pZ fa191_1 J (pZ fa189_0 J (dZ (jZ (v := ch2.s.cell) ti67 J (((SlR.of_osl eX).elem Chan.len hcs) 5 _ J)) ?_)))))))
   refine dZ (sZ (a := ch2.s.a) (m := ch2.s.ms.length) (c := ch2.s.c) underlying67 J J) (dZ (qV J J) (fZ (bZ (lQ J (fun hc => ?_) (fun hc => ?_)))))
   ·try replace hc := odT hc
    obtain ⟨m0, ms', hsm⟩ : ∃ m0 ms', ch2.s.ms = m0 :: ms' := by
     cases h : ch2.s.ms with
     | nil => rw [h] at hc; simp at hc
     | cons a l => exact ⟨a, l, rfl⟩
    have hsb : ch2.s.bs = m0.b :: ms'.map Msg.b := by unfold End.bs; rw [hsm]; rfl
    have hql := hq
    rw [hsb, carry] at hql
    refine uZ (bZ (mQ (CG.cut (fun ch1 : Chan => Way ch ch1 ms2 x.pl ∧ ch1.s = ch2.s ∧ ch1.r.ms.length ≤ 7 ∧ carry ch.kind (dep ch.kind ch.depth) (ms'.map Msg.b) (ch1.r.bs ++ [m0.b]) = ch.abs.q) (fun _ => [(0, .pointer (some ⟨p, 0, none⟩)), (3, .slice a3 (wentI acs i).length c3), (4, .int .i64 i), (5, .pointer (some ⟨b, o + i * 7, none⟩)), (11, .int .i64 acs.length), (12, .int .i64 i)]) (fun ch1 => CP p x i ch1 ++ (pool ms2 :: pool x.pl :: oins a3 c3 (wentI acs i) :: Fr)) ?_ ?_)))
    ·refine mQ (cZ ?_)
     rcases (show ch2.kind ≠ 2 ∨ (ch2.kind = 2 ∧ dep ch2.kind ch2.depth ≤ (ch2.r.ms.length : Int)) ∨ (ch2.kind = 2 ∧ (ch2.r.ms.length : Int) < dep ch2.kind ch2.depth) by omega) with hh | hh | hh
     ·rw [if_pos (by rw [← way.kind]; exact hh)] at hql
      refine aZ (eZ J (zZ J (pZ fa191_0 J (pZ fa156_0 J (dZ (jZ (v := .int .i64 ch2.kind) ti3 J (((SlR.of_osl eX).elem Chan.len hcs) 0 _ J)) ?_)))))
      refine dZ (oQ (nX J J) (bT hh)) (gZ J (fZ (bZ (fQ J (aZ (eZ J (zZ J (pZ fa191_2 J (pZ fa189_0 J (sQ (fV (i := i) 6 (r := ch2) (r' := { ch2 with r := nilE }) (rs := x.chs.set i ch2) Chan.len hcs J (by decide) ti67 J J fC J (by rw [List.length_set])) J ?_))))))))))
      rintro ⟨⟩ -
      refine fZ (tZ (pV { ch2 with r := nilE } ⟨⟨way.kind, way.from_, way.to, way.size, way.depth, way.sl, Nat.zero_le _, way.sm, fun m hm => absurd hm (by simp [nilE]), fun m hm => by rcases hm with hm | hm; exact way.mem m (.inl hm); exact absurd hm (by simp [nilE])⟩, rfl, Nat.zero_le _, hql⟩ eS ?_))
      try unfold CP
      try rw [hxa]
      rw [List.set_set] at *
      exact Imp.trans oend_nil iM
     ·rw [way.kind, way.depth] at hh
      refine aZ (eZ J (zZ J (pZ fa191_0 J (pZ fa156_0 J (dZ (jZ (v := .int .i64 ch2.kind) ti3 J (((SlR.of_osl eX).elem Chan.len hcs) 0 _ J)) ?_)))))
      refine dZ (oQ (nX J J) (bF (by rw [way.kind]; exact not_not_intro hh.1))) ?_
      refine gZ J (fZ (bZ (vZ J (cZ (qQ (.lo 0 0 (.lo 1 0 (.lo 2 0 (.lo 3 0 (.lo 4 0 (.lo 5 0 (.lo 6 1 (.eff1 7 false (.lo 8 1 (.lo 9 1 (.done))))))))))) [7] [] ([osl 191 7 (some ⟨b, o, none⟩) x.c x.chs.length (((x.chs.set i ch2).map Chan.cells).flatten)]) ([]) mixed (by kernel_rfl) (iM) (Imp.none _) ?_)))))
      refine nZ J J (dQ J J (wZ J fa191_2 J (wZ J fa189_0 J (hZ J (jZ (v := ch2.r.cell) ti67 J (((SlR.of_osl Ext.here).elem Chan.len hcs) 6 _ J)) (hZ J (sZ (a := ch2.r.a) (m := ch2.r.ms.length) (c := ch2.r.c) underlying67 J J) (nZ J J (aQ (rQ J J call99 J (Imp.refl _) (depth_spec W0 _ (b := b) (o := o + i * 7) (kd := ch2.kind) (d := ch2.depth) (by exact ((SlR.of_osl eX).elem Chan.len hcs) 0 _ J) (by exact ((SlR.of_osl eX).elem Chan.len hcs) 4 _ J)) J (fun _ => iM) (fun _ => Imp.refl _) (fun _ => iM) ?_))))))))
      rintro ⟨⟩ -
      refine hZ J (oQ (oV J J) (bT (by rw [way.kind, way.depth]; exact hh.2))) ?_
      exact hZ J (jQ J) (pQ (bZ (fQ J (iX (QG.block_out (by decide) (bQ (QG.block_out (by decide) (bQ (tQ (pV ⟨ch2, ms2⟩ ⟨way, by rw [← hql]; rw [if_neg (by exact not_not_intro hh.1), if_pos (by simp only [End.bs, List.length_map]; exact hh.2), hsb]⟩ eS (by (try unfold CP); (try rw [hxa]); exact iM)))))))))))
     ·have hd8 : dep ch2.kind ch2.depth ≤ 8 := by unfold dep; split <;> omega
      rw [if_neg (by rw [← way.kind]; exact not_not_intro hh.1), if_neg (by rw [← way.kind, ← way.depth]; simp only [End.bs, List.length_map]; exact Int.not_le.2 hh.2)] at hql
      refine aZ (eZ J (zZ J (pZ fa191_0 J (pZ fa156_0 J (dZ (jZ (v := .int .i64 ch2.kind) ti3 J (((SlR.of_osl eX).elem Chan.len hcs) 0 _ J)) ?_)))))
      refine dZ (oQ (nX J J) (bF (not_not_intro hh.1))) (gZ J (fZ (bZ (vZ J (cZ (qQ (.lo 0 0 (.lo 1 0 (.lo 2 0 (.lo 3 0 (.lo 4 0 (.lo 5 0 (.lo 6 1 (.eff1 7 false (.lo 8 1 (.lo 9 1 (.done))))))))))) [7] [] ([osl 191 7 (some ⟨b, o, none⟩) x.c x.chs.length (((x.chs.set i ch2).map Chan.cells).flatten)]) ([]) mixed (by kernel_rfl) (iM) (Imp.none _) ?_))))))
      refine nZ J J (dQ J J (wZ J fa191_2 J (wZ J fa189_0 J (hZ J (jZ (v := ch2.r.cell) ti67 J (((SlR.of_osl Ext.here).elem Chan.len hcs) 6 _ J)) (hZ J (sZ (a := ch2.r.a) (m := ch2.r.ms.length) (c := ch2.r.c) underlying67 J J) (nZ J J (aQ (rQ J J call99 J (Imp.refl _) (depth_spec W0 _ (b := b) (o := o + i * 7) (kd := ch2.kind) (d := ch2.depth) (by exact ((SlR.of_osl eX).elem Chan.len hcs) 0 _ J) (by exact ((SlR.of_osl eX).elem Chan.len hcs) 4 _ J)) J (fun _ => iM) (fun _ => Imp.refl _) (fun _ => iM) ?_))))))))
      rintro ⟨⟩ -
      refine hZ J (oQ (oV J J) (bF (by omega))) ?_
      exact hZ J (jQ J) (pQ (bZ (vZ J (uZ (tZ (pV ch2 ⟨way, rfl, by omega, hql⟩ eS (by (try unfold CP); (try rw [hxa]); exact iM)))))))
    rintro ch1 ⟨way1, hs1, hr7, hq1⟩
    have hcs1 : (x.chs.set i ch1)[i]? = some ch1 := by simp [hnl]
    have hsm1 : ch1.s.ms = m0 :: ms' := by rw [hs1]; exact hsm
    unfold CP
    rw [hxa]
    dsimp only [List.cons_append, List.nil_append]
    refine lX (fun w hw => SlR.shape (SlR.of_osl (W0 := W0) (E := 32) (sz := 1) (a := ch1.s.a) (c := ch1.s.c) (m := ch1.s.ms.length) (xs := ch1.s.ms.map Msg.cell) eX) (by rw [hsm1]; simp) w hw) ?_
    rintro ⟨bs1, os1, hsa⟩
    refine cZ (qQ (.lo 0 0 (.lo 1 0 (.lo 2 0 (.lo 3 0 (.lo 4 0 (.lo 5 2 (.lo 6 1 (.lo 7 1 (.lo 8 1 (.lo 9 1 (.lo 10 1 (.lo 11 1 (.lo 12 1 (.eff1 13 false (.eff1 14 false (.lo 15 1 (.lo 16 1 (.lo 17 1 (.eff1 18 true (.done)))))))))))))))))))) [13, 14, 18] [5] ([]) ([osl 191 7 (some ⟨b, o, none⟩) x.c x.chs.length (((x.chs.set i ch1).map Chan.cells).flatten)]) mixed (by kernel_rfl) (Imp.none _) (iM) ?_)
    refine nZ J J (nZ J J (dQ J J (wZ J fa191_2 J (wZ J fa189_0 J (hZ J (jZ (v := ch1.r.cell) ti67 J (((SlR.of_osl Ext.here).elem Chan.len hcs1) 6 _ J)) (nZ J J (dQ J J (wZ J fa191_1 J (wZ J fa189_0 J (hZ J (jZ (v := ch1.s.cell) ti67 J (((SlR.of_osl eX).elem Chan.len hcs1) 5 _ J)) ?_))))))))))
    refine hZ J (lZ (b := bs1) (o := os1) (m := ch1.s.ms.length) (c := ch1.s.c) underlying67 ti32 (by unfold End.cell; rw [← hsa]; rfl) J (by omega) (by rw [hsm1]; simp)) ?_
    refine hZ J (jZ (v := m0.cell) ti32 J (by rw [show os1 + (0 : Int).toNat * 1 = os1 + 0 from J]; exact SlR.cel (by rw [← hsa]; exact SlR.of_osl (E := 32) (a := ch1.s.a) (c := ch1.s.c) (m := ch1.s.ms.length) (xs := ch1.s.ms.map Msg.cell) eX) (by rw [hsm1]; rfl))) ?_
    refine aQ (wQ J J (gV underlying67 ti32 J J J) J (fun _ => iM) (fun _ => Imp.refl _) (fun _ => iM) ?_)
    rintro b62 -
    refine aQ (wQ J J (fX (a := ch1.r.a) (c := ch1.r.c) (m := ch1.r.ms.length) (xs := ch1.r.ms.map Msg.cell) (k := 1) (ys := [m0.cell]) J J J underlying67 underlying67 ti32 J (by decide) fC (SlR.of_osl (a := some ⟨b62, 0, none⟩) eX) (by simp [one, Msg.cell]) (by omega)) J (fun _ => iM) (fun _ => Imp.refl _) (fun _ => iM) ?_)
    rintro ⟨a63, c63⟩ -
    refine dQ J J (wZ J fa191_2 J (wZ J fa189_0 J (aQ (wQ J J (fV (i := i) 6 (r := ch1) (r' := { ch1 with r := ⟨a63, c63, ch1.r.ms ++ [m0]⟩ }) (rs := x.chs.set i ch1) Chan.len hcs1 (by simp [Chan.cells, End.cell]) (by decide) ti67 J J fC J (by rw [List.length_set])) J (fun _ => iM) (fun _ => Imp.refl _) (fun _ => iM) ?_))))
    rintro ⟨⟩ -
    refine pQ (bZ (cZ ?_))
    have hcs3 : ((x.chs.set i ch1).set i { ch1 with r := ⟨a63, c63, ch1.r.ms ++ [m0]⟩ })[i]? = some { ch1 with r := ⟨a63, c63, ch1.r.ms ++ [m0]⟩ } := by simp [hnl]
    refine aZ (eZ J (eZ J (zZ J (pZ fa191_1 J (oZ call96 J (Imp.refl _) (all_spec W0 _ (b := b) (o := o + i * 7 + 5) (x := ch1.s) (by exact ((SlR.of_osl eX).elem Chan.len hcs3) 5 _ J) (by exact SlR.of_osl (E := 32) eX) (by intro m hm; rcases List.mem_append.1 (way1.mem m (.inl hm)) with hp | hp; exact pool_rd (ms := ms2) eX hp; exact pool_rd (ms := x.pl) eX hp) (by have := way1.sl; omega) (by intro m hm; have := way1.sm m hm; omega)) J ?_)))))
    rintro y hy
    have hyl : y.ms.length = ch1.s.ms.length := by have := congrArg List.length hy; unfold End.bs at this; simpa using this
    have hy1 : 1 ≤ y.ms.length := by rw [hyl, hsm1]; simp
    have hyt : y.tail.bs = ms'.map Msg.b := by rw [End.tail_bs, hy]; unfold End.bs; rw [hsm1]; rfl
    refine OG.pure (fun w hw => osl_facts (W0 := W0) (E := 32) (sz := 1) (a := y.a) (c := y.c) (m := y.ms.length) (xs := y.ms.map Msg.cell) eX w hw) ?_
    rintro ⟨-, hyc⟩
    refine dZ (Yield.tail (y := y) underlying67 ti32 J (by omega) hyc) ?_
    refine zZ J (pZ fa191_1 J (pZ fa189_0 J (sQ (fV (i := i) 5 (r := { ch1 with r := ⟨a63, c63, ch1.r.ms ++ [m0]⟩ }) (r' := { ch1 with s := y.tail, r := ⟨a63, c63, ch1.r.ms ++ [m0]⟩ }) (rs := (x.chs.set i ch1).set i { ch1 with r := ⟨a63, c63, ch1.r.ms ++ [m0]⟩ }) Chan.len hcs3 J (by decide) ti67 J J fC J (by rw [List.length_set, List.length_set])) J ?_)))
    rintro ⟨⟩ -
    refine fZ (bZ (aZ (gZ J (fZ (tZ ?_)))))
    have hm64 : m0.b.length ≤ 64 := way1.sm m0 (by rw [hsm1]; simp)
    have hlen2 : y.tail.bs.length < ch.s.bs.length := by rw [hyt]; rw [hsb] at hsl; simp only [List.length_cons] at hsl; omega
    refine gX ⟨{ ch1 with s := y.tail, r := ⟨a63, c63, ch1.r.ms ++ [m0]⟩ }, y.ms ++ ms2⟩ ⟨⟨way1.kind, way1.from_, way1.to, way1.size, way1.depth, ?_, ?_, ?_, ?_, ?_⟩, ?_, Nat.le_of_lt hlen2⟩ ?_ ?_ ?_
    ·have := congrArg List.length hyt; simp only [End.bs, List.length_map] at this; have := way1.sl; rw [hsm1] at this; simp only [List.length_cons] at this; dsimp only; omega
    ·simp only [List.length_append, List.length_cons, List.length_nil]; omega
    ·intro m hm
     have h1 : m.b ∈ y.tail.bs := List.mem_map_of_mem hm
     rw [hyt, List.mem_map] at h1
     obtain ⟨m2, h2, h3⟩ := h1
     rw [← h3]; exact way1.sm m2 (by rw [hsm1]; simp [h2])
    ·intro m hm
     rcases List.mem_append.1 hm with hm | hm
     ·exact way1.rm m hm
     ·simp only [List.mem_cons, List.not_mem_nil, or_false] at hm; subst hm; exact hm64
    ·intro m hm
     rcases hm with hm | hm
     ·rw [List.append_assoc]; exact List.mem_append.2 (.inl (List.mem_of_mem_tail hm))
     ·rw [List.append_assoc]
      rcases List.mem_append.1 hm with hm | hm
      ·exact List.mem_append.2 (.inr (way1.mem m (.inr hm)))
      ·simp only [List.mem_cons, List.not_mem_nil, or_false] at hm; subst hm; exact List.mem_append.2 (.inr (way1.mem m (.inl (by rw [hsm1]; simp))))
    ·dsimp only; rw [hyt]; rw [← hq1]; unfold End.bs; rw [List.map_append]; rfl
    ·have := congrArg List.length hyt; simp only [End.bs, List.length_map] at this; dsimp only; rw [this, hsm]; simp
    ·dsimp only; rw [decide_eq_true hlen2]; exact eS
    ·dsimp only
     try unfold CP
     try rw [hxa]
     rw [List.set_set, List.set_set] at *
     refine Imp.trans ?_ (Imp.cons (Imp.cons (Imp.trans (Imp.head (fun h hh => oend_tail (by omega) h hh)) (Imp.cons (Imp.cons (Imp.cons pool_join))))))
     try dsimp only
     rw [show oend ⟨a63, c63, ch1.r.ms ++ [m0]⟩ = osl 32 1 a63 c63 (ch1.r.ms.length + 1) (ch1.r.ms.map Msg.cell ++ [m0.cell]) by unfold oend; rw [List.length_append, List.map_append]; rfl]
     exact iM
   ·try replace hc := odF hc
    have hs0 : ch2.s.bs = [] := by unfold End.bs; rw [List.map_eq_nil_iff]; exact List.length_eq_zero_iff.1 (by omega)
    exact iX (bQ (bQ (tQ (pV ⟨ch2, ms2⟩ ⟨way, by rw [← hq, hs0]; rfl⟩ eS (by (try unfold CP); (try rw [hxa]); exact iM)))))
  rintro ⟨ch2, ms2⟩ ⟨way, hq⟩
  dsimp only at way hq ⊢
  have htr : ch2.abs = ch.abs.tr := by
   unfold AC.tr
   rw [← hq]
   simp only [Chan.abs, way.kind, way.from_, way.to, way.size, way.depth]
  have hwent : ch.abs.went = decide (ch2.s.bs.length < ch.s.bs.length) := by unfold AC.went; rw [← hq]; rfl
  have hok2 : ch2.abs.OK := ⟨by simp only [Chan.abs, End.bs, List.length_map]; exact way.sl, by simp only [Chan.abs, End.bs, List.length_map]; exact way.rl, fun m hm => by simp only [Chan.abs, End.bs, List.mem_map] at hm; obtain ⟨y, hy, rfl⟩ := hm; exact way.sm y hy, fun m hm => by simp only [Chan.abs, End.bs, List.mem_map] at hm; obtain ⟨y, hy, rfl⟩ := hm; exact way.rm y hy⟩
  refine rX (cp_close (ms := ms2) hch hx hok2 way.mem) ?_
  rw [htr, ← hst, ← hwent]
  generalize ch.abs.went = wb at hwi ⊢
  refine cZ (aZ (eZ J (fZ (bZ (lQ J (fun hc => ?_) (fun hc => ?_))))))
  ·try replace hc := odT hc
   refine aZ (eZ J (eZ J (kQ (gV underlying80 ti3 J J J) J ?_)))
   rintro b79 -
   refine kQ (fX (k := 1) (ys := [.int .i64 i]) J J J underlying80 underlying80 ti3 J (by decide) fC (SlR.of_osl (a := some ⟨b79, 0, none⟩) eX) (by simp [one]) (by omega)) J ?_
   rintro ⟨a80, c80⟩ -
   refine gZ J (fZ (QG.scope_normal (tZ (bZ (aZ (dZ (hQ J J wO) (eZ J (fZ (gX (i + 1, a80, c80) (show i + 1 ≤ acs.length by omega) (show acs.length - (i + 1) < acs.length - i by omega) ?_ ?_)))))))))
   ·dsimp only; rw [hwi, if_pos hc, List.length_append]; exact eS
   ·dsimp only; rw [hwi, if_pos hc, show oins a80 c80 (wentI acs i ++ [(i : Int)]) = osl 3 1 a80 c80 ((wentI acs i).length + 1) (oint (wentI acs i) ++ [.int .i64 i]) by unfold oins oint; rw [List.length_append, List.map_append]; rfl]; exact iM
  ·try replace hc := odF hc
   refine uZ (QG.scope_normal (tZ (bZ (aZ (dZ (hQ J J wO) (eZ J (fZ (gX (i + 1, a3, c3) (show i + 1 ≤ acs.length by omega) (show acs.length - (i + 1) < acs.length - i by omega) ?_ ?_))))))))
   ·dsimp only; rw [hwi, if_neg (by rw [hc]; decide)]; exact eS
   ·dsimp only; rw [hwi, if_neg (by rw [hc]; decide)]; exact iM
 ·try replace hc := odF hc
  refine iX (bQ (bQ (tQ (bZ (cZ (aZ (eZ J (gZ J (fZ (bZ (rZ ?_)))))))))))
  have : i = acs.length := by omega
  subst this
  rw [List.take_length, List.drop_length, List.append_nil]
  exact yZ J J (a3, c3) trivial J iM
end
structure Cf where
 Kind : Int
 From : Int
 To : Int
 Size : Int
 Depth : Int
def Cf.cells (o : Cf) : List Value := [.int .i64 o.Kind, .int .i64 o.From, .int .i64 o.To, .int .i64 o.Size, .int .i64 o.Depth]
theorem Cf.len (o : Cf) : o.cells.length = 5 := rfl
theorem Cf.ones (o : Cf) : ∀ v ∈ o.cells, one v = true := by simp [Cf.cells, one]
def fresh (f : Cf) : Chan := ⟨f.Kind, f.From, f.To, f.Size, f.Depth, nilE, nilE⟩
def Cf.ac (f : Cf) : AC := ⟨f.Kind, f.From, f.To, f.Size, f.Depth, [], []⟩
theorem star_fresh : ∀ (l : List Cf) {G : List HProp}, Imp G (Star ((l.map fresh).map Chan.own) :: G)
 | [], G => star_nil
 | f :: l, G => by
  have h1 : Imp G ((fresh f).own :: G) := Imp.trans oend_nil (Imp.trans oend_nil (star_close (D := [oend nilE, oend nilE])))
  refine Imp.trans (star_fresh l) (Imp.trans (B := (fresh f).own :: Star ((l.map fresh).map Chan.own) :: G) ?_ ?_)
  ·exact Imp.trans oend_nil (Imp.trans oend_nil (star_close (D := [oend nilE, oend nilE])))
  ·exact Imp.trans (Imp.cons star_open) (star_close (D := (fresh f).own :: (l.map fresh).map Chan.own))
theorem fresh_ok (l : List Cf) (a : Option Addr) (c : Nat) (h : l.length ≤ 1000) : PC.OK ⟨l.map fresh, [], a, c⟩ (l.map Cf.ac) :=
 ⟨by dsimp only; rw [List.map_map]; rfl, fun x hx => by
  rw [List.mem_map] at hx; obtain ⟨f, _, rfl⟩ := hx
  exact ⟨Nat.zero_le _, Nat.zero_le _, fun m hm => absurd hm List.not_mem_nil, fun m hm => absurd hm List.not_mem_nil⟩,
  fun ch hch m hm => by
   rw [List.mem_map] at hch; obtain ⟨f, _, rfl⟩ := hch
   rcases hm with hm | hm <;> exact absurd hm List.not_mem_nil, by rw [List.length_map]; exact h⟩
section
variable (W0 : World) (Fr : List HProp)
theorem new_spec {a : Option Addr} {c : Nat} {l : List Cf} (hr : SlR W0 Fr 5 a l.length ((l.map Cf.cells).flatten)) (hl : l.length ≤ 1000) : Ctr prog W0 56 [.slice a l.length c] Fr (fun _ : Nat => True) (fun p => .pointer (some ⟨p, 0, none⟩)) (fun p => Po p (l.map Cf.ac) :: Fr) := by
 refine Ctr.of_body func56 J ntmps56 J (cZ (aZ (gZ J (fZ (bZ (cZ (aZ (dZ (Yield.build0 bu196 ti196) (kQ (uX J) J ?_)))))))))
 rintro b7 -
 refine gZ J (fZ (bZ (cZ (cZ (aZ (eZ J (dZ (sZ underlying72 J J) (eZ J (fZ (bZ (mQ (mX (fun s : Nat × Option Addr × Nat => s.1 ≤ l.length) (fun s => [(3, .pointer (some ⟨b7, 0, none⟩)), (8, .slice a l.length c), (9, .int .i64 l.length), (10, .int .i64 s.1)]) (fun s => blk b7 [.slice s.2.1 ((l.take s.1).map fresh).length s.2.2] 196 :: osl 191 7 s.2.1 s.2.2 ((l.take s.1).map fresh).length ((((l.take s.1).map fresh).map Chan.cells).flatten) :: Fr) (fun s => l.length - s.1) (0, none, 0) (Nat.zero_le _) eS (Imp.trans (osl_nil (E := 191) (sz := 7)) iM) ?_))))))))))))
 rintro ⟨i, a7, c7⟩ (hi : i ≤ l.length)
 dsimp only
 refine cZ (aZ (dZ eQ ?_))
 refine fZ (bZ (cZ (lQ J (fun hc => ?_) (fun hc => ?_))))
 ·try replace hc := odT hc
  have hi' : i < l.length := by omega
  have hget : l[i]? = some l[i] := by simp [hi']
  generalize l[i] = f at hget
  have hln : ((l.take i).map fresh).length = i := by rw [List.length_map, List.length_take]; omega
  have hts : (l.take (i + 1)).map fresh = (l.take i).map fresh ++ [fresh f] := by obtain ⟨hlt, rfl⟩ := List.getElem?_eq_some_iff.1 hget; rw [List.take_succ_eq_append_getElem hlt, List.map_append]; rfl
  refine lX (fun w hw => (hr.imp iM).elem_shape Cf.len (by decide) hi' w hw) ?_
  rintro ⟨b, o, rfl⟩
  refine uZ (bZ (cZ (mQ (cZ (aZ (dZ (lZ underlying72 ti156 J J (by omega) (by omega)) ?_))))))
  refine dZ (zQ (vs := f.cells) ti156 J (Cf.len f) ((hr.imp iM).elem Cf.len hget)) ?_
  refine kQ (pX ti156) J ?_
  rintro b5 -
  refine sQ (xQ ti156 J J fC (Cf.len f) (Cf.ones f) J) J ?_
  rintro ⟨⟩ -
  refine fZ (bZ (qQ (.lo 0 0 (.lo 1 0 (.lo 2 0 (.lo 3 0 (.lo 4 2 (.lo 5 1 (.lo 6 1 (.eff1 7 false (.eff1 8 false (.lo 9 1 (.lo 10 1 (.eff1 11 true (.done))))))))))))) [7, 8, 11] [4] ([]) ([blk b7 [.slice a7 ((l.take i).map fresh).length c7] 196]) mixed (by kernel_rfl) (Imp.none _) (iM) ?_))
  refine nZ J J (nZ J J (dQ J J (wZ J fa196_0 J (hZ J (iZ ti194 J) ?_))))
  refine hZ J (zQ (vs := f.cells) ti156 J (Cf.len f) (Row.of_blk (b := b5) eX J)) ?_
  refine hZ J (aX (pvs := [(0, .agg f.cells.toArray)]) bu191 ti191 J (cells := (fresh f).cells) J) (aQ (wQ J J (aV [.tmp 20] (vs := [.agg (fresh f).cells.toArray]) (cells := (fresh f).cells) underlying194 ti191 J J J J (by decide) (by simp [Value.cells, Chan.cells]) (by simp [Value.cells])) J (fun _ => iM) (fun _ => Imp.refl _) (fun _ => iM) ?_))
  rintro b21 -
  refine aQ (wQ J J (fX (a := a7) (c := c7) (k := 1) (ys := (fresh f).cells) J J J underlying194 underlying194 ti191 J (by decide) fC (SlR.of_osl (a := some ⟨b21, 0, none⟩) eX) (Chan.ones _) (by omega)) J (fun _ => iM) (fun _ => Imp.refl _) (fun _ => iM) ?_)
  rintro ⟨a22, c22⟩ -
  refine dQ J J (wZ J fa196_0 J (aQ (wQ J J (uQ ti194 J J fC J (by first | (simp; done) | decide)) J (fun _ => iM) (fun _ => Imp.refl _) (fun _ => iM) ?_)))
  rintro ⟨⟩ -
  refine pQ (tZ (bZ (aZ (dZ (hQ J J wO) (eZ J (fZ (gX (i + 1, a22, c22) (show i + 1 ≤ l.length by omega) (show l.length - (i + 1) < l.length - i by omega) eS ?_)))))))
  dsimp only
  rw [hts, List.length_append, List.map_append, List.flatten_append]
  rw [show ([fresh f].map Chan.cells).flatten = (fresh f).cells by simp]
  exact iM
 ·try replace hc := odF hc
  refine iX (bQ (bQ (tQ (bZ (cZ (aZ (eZ J (gZ J (fZ (bZ (rZ ?_)))))))))))
  have hil : i = l.length := by omega
  subst hil
  rw [List.take_length]
  exact yZ J J b7 trivial J (Imp.trans (Imp.pull eX (Imp.pull eX (Imp.trans (B := Star ((l.map fresh).map Chan.own) :: pool [] :: Fr) (Imp.trans iM (Imp.trans pool_nil (star_fresh l))) (Imp.refl _)))) (po_close ⟨l.map fresh, [], a7, c7⟩ (fresh_ok l a7 c7 hl)))
end
end Go.Proofs.YtphljkplokjonaaGreat.Po
namespace Go.Proofs.YtphljkplokjonaaGreat.portsFull
open Go Go.Sl Go.RowKit Go.Proofs Go.Proofs.YtphljkplokjonaaGreat.T Go.Proofs.YtphljkplokjonaaGreat.Po
end Go.Proofs.YtphljkplokjonaaGreat.portsFull
namespace Go.Proofs.YtphljkplokjonaaGreat.Po
open Go Go.Sl Go.RowKit Go.Proofs Go.Proofs.YtphljkplokjonaaGreat.T Tryz
theorem oend_snoc (a : Option Addr) (c : Nat) (ms : List Msg) (m : Msg) : oend ⟨a, c, ms ++ [m]⟩ = osl 32 1 a c (ms.length + 1) (ms.map Msg.cell ++ [m.cell]) := by unfold oend; rw [List.length_append, List.map_append]; rfl
section
variable (W0 : World) (Fr : List HProp)
theorem sameM_spec {x y : End} (h1 : SlR W0 Fr 1 x.a x.ms.length (x.ms.map Msg.cell)) (h2 : SlR W0 Fr 1 y.a y.ms.length (y.ms.map Msg.cell)) (hm1 : ∀ m ∈ x.ms, RdB W0 Fr m.a m.c m.b) (hm2 : ∀ m ∈ y.ms, RdB W0 Fr m.a m.c m.b) (he : x.bs = y.bs) (hb : x.ms.length < 2 ^ 60) :
 Ctr prog W0 67 [x.cell, y.cell] Fr (fun _ : Unit => True) (fun _ => .bool true) (fun _ => Fr) := by
 have hl : x.ms.length = y.ms.length := by have := congrArg List.length he; simpa [End.bs] using this
 obtain ⟨xa, xc, xs⟩ := x
 obtain ⟨ya, yc, ys⟩ := y
 unfold End.cell
 dsimp only at h1 h2 hm1 hm2 hb hl ⊢
 refine Ctr.of_body func67 J ntmps67 J (cZ (aZ (gZ J (fZ (bZ (cZ (cZ (aZ (eZ J (dZ (sZ underlying67 J J) (eZ J (dZ (sZ underlying67 J J) (dZ vQ ?_)))))))))))))
 refine fZ (bZ (vZ J (uZ (bZ (cZ (cZ (aZ (gZ J (fZ (bZ (mQ (mX (fun i : Nat => i ≤ xs.length) (fun i => [(0, .slice xa xs.length xc), (1, .slice ya ys.length yc), (5, .int .i64 i)]) (fun _ => Fr) (fun i => xs.length - i) 0 (Nat.zero_le _) eS (Imp.refl _) ?_))))))))))))
 intro i hi
 refine cZ (cZ (aZ (eZ J (eZ J (dZ (sZ underlying67 J J) (dZ eQ ?_))))))
 refine fZ (bZ (lQ J (fun hc => ?_) (fun hc => ?_)))
 ·try replace hc := odT hc
  have hi1 : i < xs.length := by omega
  have hi2 : i < ys.length := by omega
  have hg1 : xs[i]? = some xs[i] := by simp [hi1]
  have hg2 : ys[i]? = some ys[i] := by simp [hi2]
  have hr1 := hm1 xs[i] (List.getElem_mem hi1)
  have hr2 := hm2 ys[i] (List.getElem_mem hi2)
  have hbb : xs[i].b = ys[i].b := by
   have h := congrArg (fun l => l[i]?) he
   simp only [End.bs, List.getElem?_map, hg1, hg2, Option.map_some, Option.some.injEq] at h
   exact h
  generalize xs[i] = mx at hg1 hr1 hbb
  generalize ys[i] = my at hg2 hr2 hbb
  refine lX (fun w hw => SlR.shape h1 (by intro h; have := congrArg List.length h; simp only [List.length_map, List.length_nil] at this; omega) w hw) ?_
  rintro ⟨b, o, rfl⟩
  refine lX (fun w hw => SlR.shape h2 (by intro h; have := congrArg List.length h; simp only [List.length_map, List.length_nil] at this; omega) w hw) ?_
  rintro ⟨b2, o2, rfl⟩
  refine uZ (bZ (cZ (mQ (cZ (qQ (.lo 0 1 (.lo 1 1 (.lo 2 1 (.lo 3 1 (.lo 4 1 (.lo 5 1 (.lo 6 1 (.lo 7 1 (.lo 8 1 (.lo 9 1 (.lo 10 1 (.done)))))))))))) [] [] ([]) ([]) mixed (by kernel_rfl) (Imp.none _) (Imp.none _) (nZ J J (nZ J J (hZ J (lZ underlying67 ti32 J J (by omega) (by omega)) ?_))))))))
  refine hZ J (jZ (v := .slice mx.a mx.b.length mx.c) ti32 J (by rw [show o + (i : Int).toNat * 1 = o + i by omega]; exact h1.cel (by rw [List.getElem?_map, hg1]; rfl))) ?_
  refine hZ J (uV (bs := mx.b) underlying32 underlying9 underlying5 J hr1.slR) (nZ J J (nZ J J (hZ J (lZ underlying67 ti32 J J (by omega) (by omega)) ?_)))
  refine hZ J (jZ (v := .slice my.a my.b.length my.c) ti32 J (by rw [show o2 + (i : Int).toNat * 1 = o2 + i by omega]; exact h2.cel (by rw [List.getElem?_map, hg2]; rfl))) ?_
  refine hZ J (uV (bs := my.b) underlying32 underlying9 underlying5 J hr2.slR) (hZ J (oQ (Yield.str_neq J J) (v' := .bool false) (by rw [hbb]; simp)) ?_)
  exact pQ (bZ (vZ J (uZ (tZ (bZ (aZ (eZ J (dZ (hQ J J wO) (gZ J (fZ (gX (i + 1) (show i + 1 ≤ xs.length by omega) (show xs.length - (i + 1) < xs.length - i by omega) eS iM)))))))))))
 ·try replace hc := odF hc
  exact iX (bQ (bQ (tQ (bZ (cZ (aZ (gZ J (fZ (bZ (rZ (yZ J J () trivial J iM)))))))))))
end
end Go.Proofs.YtphljkplokjonaaGreat.Po
namespace Go.Proofs.YtphljkplokjonaaGreat.portsOrder
open Go Go.Sl Go.RowKit Go.Proofs Go.Proofs.YtphljkplokjonaaGreat.T Go.Proofs.YtphljkplokjonaaGreat.Po Go.Proofs.YtphljkplokjonaaGreat.portsFull Tryz
structure St where
 i : Nat
 s : List B
 r : List B
 x6 : Po.End
 x7 : Po.End
end Go.Proofs.YtphljkplokjonaaGreat.portsOrder
namespace Go.Proofs.YtphljkplokjonaaGreat.Po
open Go Go.Sl Go.RowKit Go.Proofs Go.Proofs.YtphljkplokjonaaGreat.T
def AC.cf (a : AC) : Cf := ⟨a.kind, a.from_, a.to, a.size, a.depth⟩
abbrev Fit (l : List Cf) (acs : List AC) : Prop := acs.map AC.cf = l
theorem fit_new (l : List Cf) : Fit l (l.map Cf.ac) := by unfold Fit; rw [List.map_map]; exact (List.map_congr_left fun _ _ => rfl).trans (List.map_id l)
abbrev ends (xs : List End) : HProp := Star (xs.map oend)
theorem ends_nil {G : List HProp} : Imp G (ends [] :: G) := star_nil
theorem ends_add {G : List HProp} {y : End} {xs : List End} : Imp (oend y :: ends xs :: G) (ends (xs ++ [y]) :: G) := by
 have h := star_add (L := xs.map oend) (A := oend y) (G := G)
 unfold ends; rw [List.map_append]; exact h
theorem ends_rd {W0 : World} {G R : List HProp} {xs : List End} (x : Ext G (ends xs) R) {y : End} (h : y ∈ xs) : SlR W0 G 1 y.a y.ms.length (y.ms.map Msg.cell) := by
 obtain ⟨i, hi⟩ := List.getElem?_of_mem (List.mem_map_of_mem (f := oend) h)
 exact SlR.imp (SlR.of_osl (E := 32) (c := y.c) (G := oend y :: Star ((xs.map oend).eraseIdx i) :: R) Ext.here) (Imp.trans x.1 (star_take hi))
end Go.Proofs.YtphljkplokjonaaGreat.Po
namespace Go.Proofs.YtphljkplokjonaaGreat.portsApart
open Go Go.Sl Go.RowKit Go.Proofs Go.Proofs.YtphljkplokjonaaGreat.T Go.Proofs.YtphljkplokjonaaGreat.Po
end Go.Proofs.YtphljkplokjonaaGreat.portsApart
namespace Go.Proofs.YtphljkplokjonaaGreat.Po
open Go Go.Sl Go.RowKit Go.Proofs Go.Proofs.YtphljkplokjonaaGreat.T Tryz
structure RC where
 xs : List End
 ys : List End
 pl : List Msg
 ca : Option Addr
 cc : Nat
 sa : Option Addr
 sc : Nat
 ra : Option Addr
 rc : Nat
abbrev RH (r m : Nat) (x : RC) : HProp := blk r [.slice x.ca m x.cc, .slice x.sa x.xs.length x.sc, .slice x.ra x.ys.length x.rc] 271
abbrev RL (l : List Cf) (x : RC) : HProp := osl 156 5 x.ca x.cc l.length ((l.map Cf.cells).flatten)
abbrev RO (r : Nat) (l : List Cf) (x : RC) : List HProp :=
 [RH r l.length x, RL l x, osl 67 1 x.sa x.sc x.xs.length (x.xs.map End.cell), osl 67 1 x.ra x.rc x.ys.length (x.ys.map End.cell), ends x.xs, ends x.ys, pool x.pl]
structure RC.OK (x : RC) (acs : List AC) : Prop where
 sb : x.xs.map End.bs = acs.map AC.s
 rb : x.ys.map End.bs = acs.map AC.r
 ok : ∀ a ∈ acs, a.OK
 mem : ∀ y, y ∈ x.xs ∨ y ∈ x.ys → ∀ m ∈ y.ms, m ∈ x.pl
 len : acs.length ≤ 1000
def Rp (r : Nat) (acs : List AC) : HProp := fun h => ∃ x : RC, x.OK acs ∧ Star (RO r (acs.map AC.cf) x) h
theorem rp_open0 {r : Nat} {acs : List AC} (y : Heaplet) (h : Rp r acs y) : ∃ x : RC, x.OK acs ∧ Star (RO r (acs.map AC.cf) x) y := h
theorem rp_close0 {r : Nat} {acs : List AC} {G : List HProp} (x : RC) (hx : x.OK acs) : Imp (RO r (acs.map AC.cf) x ++ G) (Rp r acs :: G) :=
 Imp.trans star_close (Imp.head fun y hy => ⟨x, hx, hy⟩)
theorem RC.OK.lx {x : RC} {acs : List AC} (h : x.OK acs) : x.xs.length = acs.length := by have := congrArg List.length h.sb; simpa using this
theorem RC.OK.ly {x : RC} {acs : List AC} (h : x.OK acs) : x.ys.length = acs.length := by have := congrArg List.length h.rb; simpa using this
theorem RC.OK.gx {x : RC} {acs : List AC} (h : x.OK acs) {n : Nat} {ac : AC} (ha : acs[n]? = some ac) : ∃ y z, x.xs[n]? = some y ∧ x.ys[n]? = some z ∧ y.bs = ac.s ∧ z.bs = ac.r := by
 have h1 := congrArg (fun l => l[n]?) h.sb
 have h2 := congrArg (fun l => l[n]?) h.rb
 simp only [List.getElem?_map, ha, Option.map_some] at h1 h2
 cases hx : x.xs[n]? with
 | none => rw [hx] at h1; cases h1
 | some y => cases hy : x.ys[n]? with
  | none => rw [hy] at h2; cases h2
  | some z => rw [hx] at h1; rw [hy] at h2; exact ⟨y, z, rfl, rfl, by simpa using h1, by simpa using h2⟩
theorem map_set_eq {α β : Type} {f : α → β} {l : List α} {g : List β} (h : l.map f = g) (n : Nat) (a : α) {b : β} (e : f a = b) : (l.set n a).map f = g.set n b := by rw [List.map_set, h, e]
theorem RC.OK.set {x : RC} {acs : List AC} (h : x.OK acs) {n : Nat} {y z : End} {ac : AC} {ms : List Msg} (hok : ac.OK) (hy : y.bs = ac.s) (hz : z.bs = ac.r) (hm : ∀ m, m ∈ y.ms ∨ m ∈ z.ms → m ∈ ms ++ x.pl) : RC.OK ⟨x.xs.set n y, x.ys.set n z, ms ++ x.pl, x.ca, x.cc, x.sa, x.sc, x.ra, x.rc⟩ (acs.set n ac) := by
 refine ⟨?_, ?_, fun a ha => ?_, fun w hw m hwm => ?_, by rw [List.length_set]; exact h.len⟩
 ·rw [List.map_set (f := AC.s)]; exact map_set_eq h.sb n y hy
 ·rw [List.map_set (f := AC.r)]; exact map_set_eq h.rb n z hz
 ·rcases List.mem_or_eq_of_mem_set ha with ha | rfl
  ·exact h.ok a ha
  ·exact hok
 ·rcases hw with hw | hw
  ·rcases List.mem_or_eq_of_mem_set hw with hw | rfl
   ·exact List.mem_append.2 (.inr (h.mem w (.inl hw) m hwm))
   ·exact hm m (.inl hwm)
  ·rcases List.mem_or_eq_of_mem_set hw with hw | rfl
   ·exact List.mem_append.2 (.inr (h.mem w (.inr hw) m hwm))
   ·exact hm m (.inr hwm)
abbrev RP (r : Nat) (l : List Cf) (x : RC) (n : Nat) (y z : End) : List HProp :=
 [RH r l.length x, RL l x, osl 67 1 x.sa x.sc x.xs.length ((x.xs.set n y).map End.cell), osl 67 1 x.ra x.rc x.ys.length ((x.ys.set n z).map End.cell),
  oend y, oend z, Star ((x.xs.map oend).eraseIdx n), Star ((x.ys.map oend).eraseIdx n)]
theorem rp_open {r n : Nat} {l : List Cf} {x : RC} {y z : End} {G : List HProp} (hy : x.xs[n]? = some y) (hz : x.ys[n]? = some z) : Imp (RO r l x ++ G) (RP r l x n y z ++ (pool x.pl :: G)) := by
 dsimp only [RO, RP, List.cons_append, List.nil_append]
 rw [set_self hy, set_self hz]
 refine Imp.cons (Imp.cons (Imp.cons (Imp.cons ?_)))
 refine Imp.trans (star_take (i := n) (A := oend y) (by rw [List.getElem?_map, hy]; rfl)) (Imp.cons ?_)
 exact Imp.trans (B := ends x.ys :: Star ((x.xs.map oend).eraseIdx n) :: pool x.pl :: G) (fun _ s => Sep.swap s) (Imp.trans (star_take (i := n) (A := oend z) (by rw [List.getElem?_map, hz]; rfl)) (Imp.cons (fun _ s => Sep.swap s)))
theorem rp_shut {r n : Nat} {l : List Cf} {x : RC} {y0 z0 y z : End} {ms : List Msg} {G : List HProp} (hy : x.xs[n]? = some y0) (hz : x.ys[n]? = some z0) :
 Imp (RP r l x n y z ++ (pool ms :: pool x.pl :: G)) (RO r l ⟨x.xs.set n y, x.ys.set n z, ms ++ x.pl, x.ca, x.cc, x.sa, x.sc, x.ra, x.rc⟩ ++ G) := by
 dsimp only [RO, RP, RH, RL, List.cons_append, List.nil_append]
 rw [List.length_set, List.length_set]
 refine Imp.cons (Imp.cons (Imp.cons (Imp.cons ?_)))
 refine Imp.trans (B := oend y :: Star ((x.xs.map oend).eraseIdx n) :: oend z :: Star ((x.ys.map oend).eraseIdx n) :: pool ms :: pool x.pl :: G) iM ?_
 refine Imp.trans (star_put (L := x.xs.map oend) (i := n) (A := oend y0) (B := oend y) (by rw [List.getElem?_map, hy]; rfl)) ?_
 rw [← List.map_set]
 refine Imp.cons (Imp.trans (star_put (L := x.ys.map oend) (i := n) (A := oend z0) (B := oend z) (by rw [List.getElem?_map, hz]; rfl)) ?_)
 rw [← List.map_set]
 exact Imp.cons pool_join
theorem rp_close {r n : Nat} {acs : List AC} {x : RC} {y0 z0 y z : End} {ac ac' : AC} {ms : List Msg} {G : List HProp} (hy : x.xs[n]? = some y0) (hz : x.ys[n]? = some z0) (hx : x.OK acs) (hac : acs[n]? = some ac) (hcf : ac'.cf = ac.cf)
 (hok : ac'.OK) (h1 : y.bs = ac'.s) (h2 : z.bs = ac'.r) (hm : ∀ m, m ∈ y.ms ∨ m ∈ z.ms → m ∈ ms ++ x.pl) : Imp (RP r (acs.map AC.cf) x n y z ++ (pool ms :: pool x.pl :: G)) (Rp r (acs.set n ac') :: G) := by
 refine Imp.trans (rp_shut hy hz) ?_
 have e : acs.map AC.cf = (acs.set n ac').map AC.cf := by
  rw [List.map_set (f := AC.cf), hcf, set_self (by rw [List.getElem?_map, hac]; rfl)]
 rw [e]
 exact rp_close0 _ (hx.set hok h1 h2 hm)
theorem rp_back {r n : Nat} {acs : List AC} {x : RC} {y z : End} {ac : AC} {G : List HProp} (hy : x.xs[n]? = some y) (hz : x.ys[n]? = some z) (hx : x.OK acs) (hac : acs[n]? = some ac) : Imp (RP r (acs.map AC.cf) x n y z ++ (pool x.pl :: G)) (Rp r acs :: G) := by
 obtain ⟨y', z', e1, e2, e3, e4⟩ := hx.gx hac
 rw [hy] at e1; rw [hz] at e2; cases e1; cases e2
 refine Imp.trans (B := RP r (acs.map AC.cf) x n y z ++ (pool [] :: pool x.pl :: G)) ?_ ?_
 ·exact Imp.trans (Imp.trans pool_nil (B := pool [] :: (RP r (acs.map AC.cf) x n y z ++ (pool x.pl :: G))) (Imp.refl _)) (Imp.perm (List.perm_middle (a := pool []) (l₁ := RP r (acs.map AC.cf) x n y z) (l₂ := pool x.pl :: G)).symm)
 ·have := rp_close (r := r) (ms := []) (G := G) hy hz hx hac J (hx.ok _ (List.mem_of_getElem? hac)) e3 e4 (fun m hm => by
   rcases hm with hm | hm
   ·exact hx.mem y (.inl (List.mem_of_getElem? hy)) m hm
   ·exact hx.mem z (.inr (List.mem_of_getElem? hz)) m hm)
  rw [set_self hac] at this; exact this
section
variable (W0 : World) (Fr : List HProp)
theorem has_spec {r m cc : Nat} {ca : Option Addr} (n : Int) (h0 : Cel W0 Fr ⟨r, 0, none⟩ (.slice ca m cc)) : Ctr prog W0 151 [.pointer (some ⟨r, 0, none⟩), .int .i64 n] Fr (fun _ : Unit => True) (fun _ => .bool (decide (0 ≤ n ∧ n < m))) (fun _ => Fr) := by
 refine Ctr.of_body func151 J ntmps151 J (cZ (aZ (gZ J (fZ (bZ (cZ ?_))))))
 rcases (show n < 0 ∨ 0 ≤ n by omega) with hh | hh
 ·refine aZ (eZ J (dZ cX ?_))
  refine eZ J (gQ J J J J J (gQ J J J J J (gQ J J J J J (gQ J J J J J (gQ J J J J J (gQ J J J J J (gQ J J J J J (dZ mZ ?_))))))))
  exact gZ J (fZ (bZ (rZ (yZ J J () trivial (by rw [decide_eq_false (by omega)]) (Imp.refl _)))))
 ·refine aZ (eZ J (dZ cX ?_))
  refine eZ J (kZ J J (eZ J (kZ J J (eZ J (kZ J J (zZ J (kZ J J (pZ fa271_0 J (kZ J J (dZ (jZ ti72 J h0) (kZ J J (dZ (sZ (a := ca) (m := m) (c := cc) underlying72 J J) (kZ J J (dZ (Yield.lss J J) (dZ mZ ?_)))))))))))))))
  exact gZ J (fZ (bZ (rZ (yZ J J () trivial (by rw [show decide (0 ≤ n ∧ n < (m : Int)) = decide (n < (m : Int)) by simp [hh]]) (Imp.refl _)))))
theorem rsize_spec {r n c : Nat} {a : Option Addr} {l : List Cf} {f : Cf} (h0 : Cel W0 Fr ⟨r, 0, none⟩ (.slice a l.length c)) (hl : SlR W0 Fr 5 a l.length ((l.map Cf.cells).flatten)) (hn : l[n]? = some f) :
 Ctr prog W0 152 [.pointer (some ⟨r, 0, none⟩), .int .i64 n] Fr (fun _ : Unit => True) (fun _ => .int .i64 (max 0 (min f.Size 64))) (fun _ => Fr) := by
 have hi : n < l.length := (List.getElem?_eq_some_iff.1 hn).1
 refine Ctr.pure (fun w hw => hl.elem_shape Cf.len (by decide) hi w hw) ?_
 rintro ⟨b, o, rfl⟩
 refine Ctr.of_body func152 J ntmps152 J (cZ (aZ (gZ J (fZ (bZ (cZ (aZ (eZ J (zZ J (pZ fa271_0 J (dZ (jZ ti72 J h0) (eZ J (dZ (lZ underlying72 ti156 J J (by omega) (by omega)) ?_)))))))))))))
 exact pZ fa156_3 J (dZ (jZ (v := .int .i64 f.Size) ti3 J ((hl.elem Cf.len hn) 3 _ J)) (dZ (mV J J) (dZ (Yield.max2 J J) (gZ J (fZ (bZ (rZ (yZ J J () trivial J (Imp.refl _)))))))))
theorem rdepth_spec {r n c : Nat} {a : Option Addr} {l : List Cf} {f : Cf} (h0 : Cel W0 Fr ⟨r, 0, none⟩ (.slice a l.length c)) (hl : SlR W0 Fr 5 a l.length ((l.map Cf.cells).flatten)) (hn : l[n]? = some f) :
 Ctr prog W0 153 [.pointer (some ⟨r, 0, none⟩), .int .i64 n] Fr (fun _ : Unit => True) (fun _ => .int .i64 (dep f.Kind f.Depth)) (fun _ => Fr) := by
 have hi : n < l.length := (List.getElem?_eq_some_iff.1 hn).1
 refine Ctr.pure (fun w hw => hl.elem_shape Cf.len (by decide) hi w hw) ?_
 rintro ⟨b, o, rfl⟩
 refine Ctr.of_body func153 J ntmps153 J (cZ (aZ (gZ J (fZ (bZ (cZ (cZ ?_)))))))
 rcases (show f.Kind = 2 ∨ f.Kind ≠ 2 by omega) with hk | hk
 ·refine aZ (eZ J (zZ J (pZ fa271_0 J (dZ (jZ ti72 J h0) (eZ J (dZ (lZ underlying72 ti156 J J (by omega) (by omega)) ?_))))))
  refine pZ fa156_0 J (dZ (jZ (v := .int .i64 f.Kind) ti3 J ((hl.elem Cf.len hn) 0 _ J)) (dZ vQ ?_))
  refine fZ (bZ (vZ J (uZ (bZ (cZ (aZ (eZ J (zZ J (pZ fa271_0 J (dZ (jZ ti72 J h0) (eZ J (dZ (lZ underlying72 ti156 J J (by omega) (by omega)) ?_))))))))))))
  exact pZ fa156_4 J (dZ (jZ (v := .int .i64 f.Depth) ti3 J ((hl.elem Cf.len hn) 4 _ J)) (dZ (mV J J) (dZ (Yield.max2 J J) (gZ J (fZ (bZ (rZ (yZ J J () trivial (by unfold dep; rw [if_pos hk]) (Imp.refl _)))))))))
 ·refine aZ (eZ J (zZ J (pZ fa271_0 J (dZ (jZ ti72 J h0) (eZ J (dZ (lZ underlying72 ti156 J J (by omega) (by omega)) ?_))))))
  refine pZ fa156_0 J (dZ (jZ (v := .int .i64 f.Kind) ti3 J ((hl.elem Cf.len hn) 0 _ J)) (dZ vQ ?_))
  exact fZ (bZ (fQ J (cZ (aZ (gZ J (fZ (bZ (rZ (qZ (yZ J J () trivial (by unfold dep; rw [if_neg hk]) (Imp.refl _)))))))))))
theorem copies_spec {x : End} (hs : SlR W0 Fr 1 x.a x.ms.length (x.ms.map Msg.cell)) (hm : ∀ m ∈ x.ms, RdB W0 Fr m.a m.c m.b) (hl : x.ms.length ≤ 1000) (hbl : ∀ m ∈ x.ms, m.b.length ≤ 2 ^ 40) :
 Ctr prog W0 169 [x.cell] Fr (fun y : End => y.bs = x.bs) (fun y => y.cell) (fun y => oend y :: pool y.ms :: Fr) := by
 refine Ctr.of_body func169 J ntmps169 J (cZ (aZ (gZ J (fZ (bZ (cZ (aZ (gZ J (fZ (bZ (cZ (cZ (aZ (gZ J (fZ (bZ (mQ (mX (fun s : Nat × End => s.1 ≤ x.ms.length ∧ s.2.bs = (x.ms.take s.1).map Msg.b) (fun s => [(0, x.cell), (3, s.2.cell), (4, .int .i64 s.1)]) (fun s => oend s.2 :: pool s.2.ms :: Fr) (fun s => x.ms.length - s.1) (0, ⟨none, 0, []⟩) ⟨Nat.zero_le _, rfl⟩ eS (Imp.trans pool_nil (osl_nil (E := 32) (sz := 1))) ?_))))))))))))))))))
 rintro ⟨i, y⟩ ⟨hi, hy⟩
 dsimp only at hi hy ⊢
 have hyl : y.ms.length = i := by have := congrArg List.length hy; unfold End.bs at this; simp only [List.length_map, List.length_take] at this; omega
 refine cZ (cZ (aZ (eZ J (eZ J (dZ (sZ (a := x.a) (m := x.ms.length) (c := x.c) underlying67 J J) (dZ eQ ?_))))))
 refine fZ (bZ (lQ J (fun hc => ?_) (fun hc => ?_)))
 ·try replace hc := odT hc
  have hi' : i < x.ms.length := by omega
  have hget : x.ms[i]? = some x.ms[i] := by simp [hi']
  have hmm := hm x.ms[i] (List.getElem_mem hi')
  have hml := hbl x.ms[i] (List.getElem_mem hi')
  generalize x.ms[i] = m at hget hmm hml
  refine lX (fun w hw => SlR.shape (hs.imp iM) (by intro h; have := congrArg List.length h; simp only [List.length_map, List.length_nil] at this; omega) w hw) ?_
  rintro ⟨bx, ox, hxa⟩
  refine uZ (bZ (cZ (mQ (aZ (eZ J (kQ (sX underlying32 ti5 J) J ?_))))))
  rintro b12 -
  refine eZ J (eZ J (dZ (lZ (b := bx) (o := ox) (m := x.ms.length) (c := x.c) underlying67 ti32 (by unfold End.cell; rw [hxa]; rfl) J (by omega) (by omega)) ?_))
  refine dZ (jZ (v := m.cell) ti32 J (by rw [show ox + (i : Int).toNat * 1 = ox + i by omega]; exact SlR.cel (by rw [← hxa]; exact hs.imp iM) (by rw [List.getElem?_map, hget]; rfl))) ?_
  refine kQ (eV (bs := []) (ys := m.b) J J J underlying32 underlying32 ti5 (by decide) fC (hmm.imp iM).slR (by simp only [List.length_nil]; omega)) J ?_
  rintro ⟨a17, c17⟩ -
  rw [List.nil_append]
  refine kQ (gV underlying67 ti32 J J J) J ?_
  rintro b18 -
  refine kQ (fX (a := y.a) (c := y.c) (k := 1) (ys := [Msg.cell ⟨a17, c17, m.b⟩]) J J J underlying67 underlying67 ti32 J (by decide) fC (SlR.of_osl (a := some ⟨b18, 0, none⟩) eX) (by simp [one, Msg.cell]) (by omega)) J ?_
  rintro ⟨a19, c19⟩ -
  refine gZ J (fZ (tZ (bZ (aZ (eZ J (dZ (hQ J J wO) (gZ J (fZ (gX (i + 1, ⟨a19, c19, y.ms ++ [⟨a17, c17, m.b⟩]⟩) ⟨by simp only; omega, ?_⟩ (by simp only; omega) ?_ ?_)))))))))
  ·obtain ⟨hlt, rfl⟩ := List.getElem?_eq_some_iff.1 hget
   unfold End.bs at hy ⊢
   rw [List.map_append, hy, List.take_succ_eq_append_getElem hlt, List.map_append]; rfl
  ·unfold End.cell; dsimp only; rw [List.length_append]; exact eS
  ·dsimp only; rw [oend_snoc]
   exact Imp.trans (Imp.pull eX (Imp.pull (A := Msg.own ⟨a17, c17, m.b⟩) eX (Imp.pull (A := pool y.ms) eX iM))) (Imp.cons pool_add)
 ·try replace hc := odF hc
  refine iX (bQ (bQ (tQ (bZ (cZ (aZ (eZ J (gZ J (fZ (bZ (rZ ?_)))))))))))
  have : i = x.ms.length := by omega
  subst this
  rw [List.take_length] at hy
  exact yZ J J y hy J iM
end
section
variable (W0 : World) (Fr : List HProp)
theorem shape_rl {W0 : World} {G R : List HProp} {l : List Cf} {x : RC} {n : Nat} (h : n < l.length) (e : Ext G (RL l x) R) (w : World) (hw : Sat W0 G w) : ∃ b o, x.ca = some ⟨b, o, none⟩ :=
 (SlR.of_osl e).elem_shape (i := n) Cf.len (by decide) h w hw
theorem shape_os {W0 : World} {G R : List HProp} {E c m : Nat} {a : Option Addr} {xs : List End} (h : 0 < xs.length) (e : Ext G (osl E 1 a c m (xs.map End.cell)) R) (w : World) (hw : Sat W0 G w) : ∃ b o, a = some ⟨b, o, none⟩ :=
 SlR.shape (SlR.of_osl e) (by intro q; have := congrArg List.length q; simp only [List.length_map, List.length_nil] at this; omega) w hw
theorem rsend_out {r c : Nat} {acs : List AC} (part n : Int) {a : Option Addr} {m : Nat} (hn : n < 0 ∨ (acs.length : Int) ≤ n) : Ctr prog W0 105 [.pointer (some ⟨r, 0, none⟩), .int .i64 part, .int .i64 n, .slice a m c] (Rp r acs :: Fr) (fun _ : Unit => True) (fun _ => .int .i64 210) (fun _ => Rp r acs :: Fr) := by
 refine Ctr.ex Ext.here rp_open0 ?_
 intro x hx
 refine Ctr.imp star_open ?_
 have hlen : (acs.map AC.cf).length = acs.length := List.length_map _
 have hback := rp_close0 (r := r) (G := Fr) x hx
 generalize acs.map AC.cf = l at hlen hback ⊢
 dsimp only [RO, List.cons_append, List.nil_append] at hback ⊢
 refine Ctr.of_body func105 J ntmps105 J (cZ (aZ (gZ J (fZ (bZ (cZ (cZ (aZ (eZ J (eZ J (oZ call151 J (Imp.refl _) (has_spec W0 _ (r := r) (m := l.length) (cc := x.cc) (ca := x.ca) n (Cel.of_blk (b := r) eX J)) J ?_)))))))))))
 rintro ⟨⟩ -
 rw [show decide (0 ≤ n ∧ n < (l.length : Int)) = false from decide_eq_false (by omega)]
 refine dZ (iQ J) (eZ J (gQ J J J J J (gQ J J J J J (gQ J J J J J (gQ J J J J J (gQ J J J J J (gQ J J J J J (gQ J J J J J (gQ J J J J J (gQ J J J J J (gQ J J J J J (dZ mZ ?_))))))))))))
 exact fZ (bZ (fQ J (cZ (aZ (gZ J (fZ (bZ (rZ (qZ (yZ J J () trivial J (Imp.trans iM hback)))))))))))
set_option maxHeartbeats 1000000 in
theorem rsend_in {r c n : Nat} {acs : List AC} (part : Int) {a : Option Addr} {bs : B} {ac : AC} (hr : SlR W0 Fr 1 a bs.length (bytesV bs)) (hb : bs.length ≤ 2 ^ 47) (hac : acs[n]? = some ac) :
 Ctr prog W0 105 [.pointer (some ⟨r, 0, none⟩), .int .i64 part, .int .i64 n, .slice a bs.length c] (Rp r acs :: Fr) (fun _ : Unit => True) (fun _ => .int .i64 (sendR ac part bs).1) (fun _ => Rp r (acs.set n (sendR ac part bs).2) :: Fr) := by
 refine Ctr.ex Ext.here rp_open0 ?_
 intro x hx
 refine Ctr.imp star_open ?_
 obtain ⟨y, z, hy, hz, hyb, hzb⟩ := hx.gx hac
 have hnl : n < acs.length := (List.getElem?_eq_some_iff.1 hac).1
 have hlx := hx.lx
 have hok := hx.ok _ (List.mem_of_getElem? hac)
 have hmy := hx.mem y (.inl (List.mem_of_getElem? hy))
 have hmz := hx.mem z (.inr (List.mem_of_getElem? hz))
 have hsl : y.ms.length ≤ 8 := by have := hok.s; rw [← hyb] at this; simpa [End.bs] using this
 have hget : (acs.map AC.cf)[n]? = some ac.cf := by rw [List.getElem?_map, hac]; rfl
 have hys : (x.xs.set n y)[n]? = some y := by rw [set_self hy]; exact hy
 have hlen : (acs.map AC.cf).length = acs.length := List.length_map _
 refine Ctr.imp (rp_open hy hz) ?_
 have hcl := @rp_close r n acs x y z
 have hback := rp_back (r := r) (G := Fr) hy hz hx hac
 generalize acs.map AC.cf = l at hget hlen hcl hback ⊢
 refine Ctr.pure (fun w hw => shape_rl (n := n) (x := x) (l := l) (by omega) (Ext.there Ext.here) w hw) ?_
 rintro ⟨b0, o0, hca⟩
 refine Ctr.pure (fun w hw => shape_os (xs := x.xs.set n y) (by rw [List.length_set]; omega) (Ext.there (Ext.there Ext.here)) w hw) ?_
 rintro ⟨b1, o1, hsa⟩
 dsimp only [RP, RH, RL, List.cons_append, List.nil_append] at hcl hback ⊢
 rw [hca, hsa] at hcl hback ⊢
 refine Ctr.of_body func105 J ntmps105 J (cZ (aZ (gZ J (fZ (bZ (cZ (cZ ?_)))))))
 rcases (show ac.from_ ≠ part ∨ (ac.from_ = part ∧ max 0 (min ac.size 64) < (bs.length : Int)) ∨ (ac.from_ = part ∧ (bs.length : Int) ≤ max 0 (min ac.size 64) ∧ ac.kind ≠ 2) ∨ (ac.from_ = part ∧ (bs.length : Int) ≤ max 0 (min ac.size 64) ∧ ac.kind = 2 ∧ dep ac.kind ac.depth ≤ (y.ms.length : Int)) ∨ (ac.from_ = part ∧ (bs.length : Int) ≤ max 0 (min ac.size 64) ∧ ac.kind = 2 ∧ (y.ms.length : Int) < dep ac.kind ac.depth) by omega) with hh | hh | hh | hh | hh
 ·refine aZ (eZ J (eZ J (oZ call151 J (Imp.refl _) (has_spec W0 _ (r := r) (m := l.length) (cc := x.cc) (ca := some ⟨b0, o0, none⟩) n (Cel.of_blk (b := r) eX J)) J ?_)))
  rintro ⟨⟩ -
  rw [show decide (0 ≤ (n : Int) ∧ (n : Int) < (l.length : Int)) = true from decide_eq_true (by omega)]
  refine dZ (iQ J) (eZ J (kZ J J (eZ J (kZ J J (zZ J (kZ J J (pZ fa271_0 J (kZ J J (dZ (iZ ti72 J) ?_)))))))))
  refine kZ J J (eZ J (kZ J J (dZ (lZ underlying72 ti156 J J (by omega) (by omega)) ?_)))
  refine kZ J J (pZ fa156_1 J (kZ J J (dZ (jZ (v := .int .i64 ac.from_) ti3 J (((SlR.of_osl (E := 156) (a := some ⟨b0, o0, none⟩) eX).elem Cf.len hget) 1 _ J)) ?_)))
  refine kZ J J (eZ J (kZ J J (dZ vQ ?_)))
  refine dZ mZ ?_
  refine fZ (bZ (fQ J (cZ (aZ (gZ J (fZ (bZ (rZ (qZ ?_)))))))))
  rw [show sendR ac part bs = (210, ac) by unfold sendR; rw [if_pos (by exact hh)], set_self hac]
  exact yZ J J () trivial J (Imp.trans iM hback)
 ·refine aZ (eZ J (eZ J (oZ call151 J (Imp.refl _) (has_spec W0 _ (r := r) (m := l.length) (cc := x.cc) (ca := some ⟨b0, o0, none⟩) n (Cel.of_blk (b := r) eX J)) J ?_)))
  rintro ⟨⟩ -
  rw [show decide (0 ≤ (n : Int) ∧ (n : Int) < (l.length : Int)) = true from decide_eq_true (by omega)]
  refine dZ (iQ J) (eZ J (kZ J J (eZ J (kZ J J (zZ J (kZ J J (pZ fa271_0 J (kZ J J (dZ (iZ ti72 J) ?_)))))))))
  refine kZ J J (eZ J (kZ J J (dZ (lZ underlying72 ti156 J J (by omega) (by omega)) ?_)))
  refine kZ J J (pZ fa156_1 J (kZ J J (dZ (jZ (v := .int .i64 ac.from_) ti3 J (((SlR.of_osl (E := 156) (a := some ⟨b0, o0, none⟩) eX).elem Cf.len hget) 1 _ J)) ?_)))
  refine kZ J J (eZ J (kZ J J (dZ vQ ?_)))
  refine dZ mZ ?_
  refine fZ (bZ (vZ J (uZ (bZ (cZ (cZ (aZ (eZ J (dZ (sZ underlying32 J J) (eZ J (eZ J (oZ call152 J (Imp.refl _) (rsize_spec W0 _ (r := r) (n := n) (a := some ⟨b0, o0, none⟩) (c := x.cc) (l := l) (f := ac.cf) (by exact Cel.of_blk (b := r) eX J) (by exact SlR.of_osl (E := 156) eX) hget) J ?_))))))))))))
  rintro ⟨⟩ -
  rw [show (Cf.Size ac.cf) = ac.size from J]
  refine dZ kX ?_
  refine fZ (bZ (fQ J (cZ (aZ (gZ J (fZ (bZ (rZ (qZ ?_)))))))))
  rw [show sendR ac part bs = (9, ac) by unfold sendR; rw [if_neg (by exact not_not_intro hh.1), if_pos (by exact hh.2)], set_self hac]
  exact yZ J J () trivial J (Imp.trans iM hback)
 ·refine aZ (eZ J (eZ J (oZ call151 J (Imp.refl _) (has_spec W0 _ (r := r) (m := l.length) (cc := x.cc) (ca := some ⟨b0, o0, none⟩) n (Cel.of_blk (b := r) eX J)) J ?_)))
  rintro ⟨⟩ -
  rw [show decide (0 ≤ (n : Int) ∧ (n : Int) < (l.length : Int)) = true from decide_eq_true (by omega)]
  refine dZ (iQ J) (eZ J (kZ J J (eZ J (kZ J J (zZ J (kZ J J (pZ fa271_0 J (kZ J J (dZ (iZ ti72 J) ?_)))))))))
  refine kZ J J (eZ J (kZ J J (dZ (lZ underlying72 ti156 J J (by omega) (by omega)) ?_)))
  refine kZ J J (pZ fa156_1 J (kZ J J (dZ (jZ (v := .int .i64 ac.from_) ti3 J (((SlR.of_osl (E := 156) (a := some ⟨b0, o0, none⟩) eX).elem Cf.len hget) 1 _ J)) ?_)))
  refine kZ J J (eZ J (kZ J J (dZ vQ ?_)))
  refine dZ mZ ?_
  refine fZ (bZ (vZ J (uZ (bZ (cZ (cZ (aZ (eZ J (dZ (sZ underlying32 J J) (eZ J (eZ J (oZ call152 J (Imp.refl _) (rsize_spec W0 _ (r := r) (n := n) (a := some ⟨b0, o0, none⟩) (c := x.cc) (l := l) (f := ac.cf) (by exact Cel.of_blk (b := r) eX J) (by exact SlR.of_osl (E := 156) eX) hget) J ?_))))))))))))
  rintro ⟨⟩ -
  rw [show (Cf.Size ac.cf) = ac.size from J]
  refine dZ kX ?_
  refine fZ (bZ (vZ J (uZ (bZ (cZ (aZ (kQ (sX underlying32 ti5 J) J ?_)))))))
  rintro b32 -
  refine eZ J (kQ (eV (bs := []) (ys := bs) J J J underlying32 underlying32 ti5 (by decide) fC (hr.imp iM) (by simp only [List.length_nil]; omega)) J ?_)
  rintro ⟨am, cm⟩ -
  rw [List.nil_append]
  refine gZ J (fZ (bZ (cZ (cZ (aZ (eZ J (zZ J (pZ fa271_0 J (dZ (iZ ti72 J) ?_)))))))))
  refine eZ J (dZ (lZ underlying72 ti156 J J (by omega) (by omega)) ?_)
  refine pZ fa156_0 J (dZ (jZ (v := .int .i64 ac.kind) ti3 J (((SlR.of_osl (E := 156) (a := some ⟨b0, o0, none⟩) eX).elem Cf.len hget) 0 _ J)) ?_)
  refine dZ vQ ?_
  refine fZ (bZ (fQ J (cZ (aZ (eZ J (zZ J (pZ fa271_1 J (dZ (iZ ti38 J) ?_))))))))
  refine eZ J (eZ J (kQ (gV underlying67 ti32 J J J) J ?_))
  rintro b50 -
  refine dZ (lZ underlying38 ti67 J J (by omega) (by omega)) ?_
  refine sQ (iV (i := n) ti67 (by rw [show o1 + (n : Int).toNat * 1 = o1 + n by omega]; rfl) J fC J (by omega)) J ?_
  rintro ⟨⟩ -
  rw [show Value.slice (some ⟨b50, 0, none⟩) 1 1 = End.cell ⟨some ⟨b50, 0, none⟩, 1, [⟨am, cm, bs⟩]⟩ from J, ← List.map_set (f := End.cell), List.set_set]
  refine fZ (bZ (cZ (aZ (gZ J (fZ (bZ (rZ (qZ ?_))))))))
  rw [show sendR ac part bs = (0, { ac with s := [bs] }) by unfold sendR; rw [if_neg (by exact not_not_intro hh.1), if_neg (by have := hh.2.1; exact Int.not_lt.2 this), if_pos (by exact hh.2.2)]]
  refine yZ J J () trivial J (Imp.trans ?_ (@hcl ⟨some ⟨b50, 0, none⟩, 1, [⟨am, cm, bs⟩]⟩ z ac { ac with s := [bs] } [⟨am, cm, bs⟩] Fr hy hz hx hac J ⟨by simp, hok.r, fun m hm => by simp only [List.mem_cons, List.not_mem_nil, or_false] at hm; subst hm; omega, hok.rl⟩ J hzb (fun m hm => by rcases hm with hm | hm; exact List.mem_append.2 (.inl hm); exact List.mem_append.2 (.inr (hmz m hm)))))
  refine Imp.trans ?_ (Imp.cons (Imp.cons (Imp.cons (Imp.cons (Imp.cons (Imp.cons (Imp.cons (Imp.cons (pool_one (m := ⟨am, cm, bs⟩))))))))))
  exact iM
 ·refine aZ (eZ J (eZ J (oZ call151 J (Imp.refl _) (has_spec W0 _ (r := r) (m := l.length) (cc := x.cc) (ca := some ⟨b0, o0, none⟩) n (Cel.of_blk (b := r) eX J)) J ?_)))
  rintro ⟨⟩ -
  rw [show decide (0 ≤ (n : Int) ∧ (n : Int) < (l.length : Int)) = true from decide_eq_true (by omega)]
  refine dZ (iQ J) (eZ J (kZ J J (eZ J (kZ J J (zZ J (kZ J J (pZ fa271_0 J (kZ J J (dZ (iZ ti72 J) ?_)))))))))
  refine kZ J J (eZ J (kZ J J (dZ (lZ underlying72 ti156 J J (by omega) (by omega)) ?_)))
  refine kZ J J (pZ fa156_1 J (kZ J J (dZ (jZ (v := .int .i64 ac.from_) ti3 J (((SlR.of_osl (E := 156) (a := some ⟨b0, o0, none⟩) eX).elem Cf.len hget) 1 _ J)) ?_)))
  refine kZ J J (eZ J (kZ J J (dZ vQ ?_)))
  refine dZ mZ ?_
  refine fZ (bZ (vZ J (uZ (bZ (cZ (cZ (aZ (eZ J (dZ (sZ underlying32 J J) (eZ J (eZ J (oZ call152 J (Imp.refl _) (rsize_spec W0 _ (r := r) (n := n) (a := some ⟨b0, o0, none⟩) (c := x.cc) (l := l) (f := ac.cf) (by exact Cel.of_blk (b := r) eX J) (by exact SlR.of_osl (E := 156) eX) hget) J ?_))))))))))))
  rintro ⟨⟩ -
  rw [show (Cf.Size ac.cf) = ac.size from J]
  refine dZ kX ?_
  refine fZ (bZ (vZ J (uZ (bZ (cZ (aZ (kQ (sX underlying32 ti5 J) J ?_)))))))
  rintro b32 -
  refine eZ J (kQ (eV (bs := []) (ys := bs) J J J underlying32 underlying32 ti5 (by decide) fC (hr.imp iM) (by simp only [List.length_nil]; omega)) J ?_)
  rintro ⟨am, cm⟩ -
  rw [List.nil_append]
  refine gZ J (fZ (bZ (cZ (cZ (aZ (eZ J (zZ J (pZ fa271_0 J (dZ (iZ ti72 J) ?_)))))))))
  refine eZ J (dZ (lZ underlying72 ti156 J J (by omega) (by omega)) ?_)
  refine pZ fa156_0 J (dZ (jZ (v := .int .i64 ac.kind) ti3 J (((SlR.of_osl (E := 156) (a := some ⟨b0, o0, none⟩) eX).elem Cf.len hget) 0 _ J)) ?_)
  refine dZ vQ ?_
  refine fZ (bZ (vZ J (uZ (bZ (cZ (cZ (qQ (.lo 0 0 (.lo 1 0 (.lo 2 0 (.lo 3 0 (.lo 4 0 (.lo 5 0 (.lo 6 0 (.lo 7 0 (.lo 8 1 (.lo 9 1 (.eff1 10 false (.lo 11 1 (.done))))))))))))) [10] [] ([blk r [.slice (some ⟨b0, o0, none⟩) l.length x.cc, .slice (some ⟨b1, o1, none⟩) x.xs.length x.sc, .slice x.ra x.ys.length x.rc] 271, osl 67 1 (some ⟨b1, o1, none⟩) x.sc x.xs.length ((x.xs.set n y).map End.cell)]) ([]) mixed (by kernel_rfl) (iM) (Imp.none _) ?_)))))))
  refine nZ J J (dQ J J (wZ J fa271_1 J (hZ J (jZ (v := .slice (some ⟨b1, o1, none⟩) x.xs.length x.sc) ti38 J (Cel.of_blk (b := r) eX J)) ?_)))
  refine nZ J J (hZ J (lZ (b := b1) (o := o1) (m := x.xs.length) (c := x.sc) underlying38 ti67 J J (by omega) (by omega)) ?_)
  refine hZ J (jZ (v := y.cell) ti67 J (by rw [show o1 + (n : Int).toNat * 1 = o1 + n by omega]; exact SlR.cel (SlR.of_osl (E := 67) (a := some ⟨b1, o1, none⟩) eX) (by rw [List.getElem?_map, hys]; rfl))) ?_
  refine hZ J (sZ (a := y.a) (m := y.ms.length) (c := y.c) underlying67 J J) (nZ J J (nZ J J (aQ (rQ J J call153 J (Imp.refl _) (rdepth_spec W0 _ (r := r) (n := n) (a := some ⟨b0, o0, none⟩) (c := x.cc) (l := l) (f := ac.cf) (by exact Cel.of_blk (b := r) eX J) (by exact SlR.of_osl (E := 156) eX) hget) J (fun _ => iM) (fun _ => Imp.refl _) (fun _ => iM) ?_))))
  rintro ⟨⟩ -
  rw [show dep (Cf.Kind ac.cf) (Cf.Depth ac.cf) = dep ac.kind ac.depth from J]
  refine hZ J cX ?_
  refine pQ (bZ (fQ J (cZ (aZ (gZ J (fZ (bZ (rZ (qZ ?_)))))))))
  rw [show sendR ac part bs = (4, ac) by unfold sendR; rw [if_neg (by exact not_not_intro hh.1), if_neg (by have := hh.2.1; exact Int.not_lt.2 this), if_neg (by exact not_not_intro hh.2.2.1), if_pos (by rw [← hyb]; simp only [End.bs, List.length_map]; exact hh.2.2.2)], set_self hac]
  exact yZ J J () trivial J (Imp.trans iM hback)
 ·refine aZ (eZ J (eZ J (oZ call151 J (Imp.refl _) (has_spec W0 _ (r := r) (m := l.length) (cc := x.cc) (ca := some ⟨b0, o0, none⟩) n (Cel.of_blk (b := r) eX J)) J ?_)))
  rintro ⟨⟩ -
  rw [show decide (0 ≤ (n : Int) ∧ (n : Int) < (l.length : Int)) = true from decide_eq_true (by omega)]
  refine dZ (iQ J) (eZ J (kZ J J (eZ J (kZ J J (zZ J (kZ J J (pZ fa271_0 J (kZ J J (dZ (iZ ti72 J) ?_)))))))))
  refine kZ J J (eZ J (kZ J J (dZ (lZ underlying72 ti156 J J (by omega) (by omega)) ?_)))
  refine kZ J J (pZ fa156_1 J (kZ J J (dZ (jZ (v := .int .i64 ac.from_) ti3 J (((SlR.of_osl (E := 156) (a := some ⟨b0, o0, none⟩) eX).elem Cf.len hget) 1 _ J)) ?_)))
  refine kZ J J (eZ J (kZ J J (dZ vQ ?_)))
  refine dZ mZ ?_
  refine fZ (bZ (vZ J (uZ (bZ (cZ (cZ (aZ (eZ J (dZ (sZ underlying32 J J) (eZ J (eZ J (oZ call152 J (Imp.refl _) (rsize_spec W0 _ (r := r) (n := n) (a := some ⟨b0, o0, none⟩) (c := x.cc) (l := l) (f := ac.cf) (by exact Cel.of_blk (b := r) eX J) (by exact SlR.of_osl (E := 156) eX) hget) J ?_))))))))))))
  rintro ⟨⟩ -
  rw [show (Cf.Size ac.cf) = ac.size from J]
  refine dZ kX ?_
  refine fZ (bZ (vZ J (uZ (bZ (cZ (aZ (kQ (sX underlying32 ti5 J) J ?_)))))))
  rintro b32 -
  refine eZ J (kQ (eV (bs := []) (ys := bs) J J J underlying32 underlying32 ti5 (by decide) fC (hr.imp iM) (by simp only [List.length_nil]; omega)) J ?_)
  rintro ⟨am, cm⟩ -
  rw [List.nil_append]
  refine gZ J (fZ (bZ (cZ (cZ (aZ (eZ J (zZ J (pZ fa271_0 J (dZ (iZ ti72 J) ?_)))))))))
  refine eZ J (dZ (lZ underlying72 ti156 J J (by omega) (by omega)) ?_)
  refine pZ fa156_0 J (dZ (jZ (v := .int .i64 ac.kind) ti3 J (((SlR.of_osl (E := 156) (a := some ⟨b0, o0, none⟩) eX).elem Cf.len hget) 0 _ J)) ?_)
  refine dZ vQ ?_
  refine fZ (bZ (vZ J (uZ (bZ (cZ (cZ (qQ (.lo 0 0 (.lo 1 0 (.lo 2 0 (.lo 3 0 (.lo 4 0 (.lo 5 0 (.lo 6 0 (.lo 7 0 (.lo 8 1 (.lo 9 1 (.eff1 10 false (.lo 11 1 (.done))))))))))))) [10] [] ([blk r [.slice (some ⟨b0, o0, none⟩) l.length x.cc, .slice (some ⟨b1, o1, none⟩) x.xs.length x.sc, .slice x.ra x.ys.length x.rc] 271, osl 67 1 (some ⟨b1, o1, none⟩) x.sc x.xs.length ((x.xs.set n y).map End.cell)]) ([]) mixed (by kernel_rfl) (iM) (Imp.none _) ?_)))))))
  refine nZ J J (dQ J J (wZ J fa271_1 J (hZ J (jZ (v := .slice (some ⟨b1, o1, none⟩) x.xs.length x.sc) ti38 J (Cel.of_blk (b := r) eX J)) ?_)))
  refine nZ J J (hZ J (lZ (b := b1) (o := o1) (m := x.xs.length) (c := x.sc) underlying38 ti67 J J (by omega) (by omega)) ?_)
  refine hZ J (jZ (v := y.cell) ti67 J (by rw [show o1 + (n : Int).toNat * 1 = o1 + n by omega]; exact SlR.cel (SlR.of_osl (E := 67) (a := some ⟨b1, o1, none⟩) eX) (by rw [List.getElem?_map, hys]; rfl))) ?_
  refine hZ J (sZ (a := y.a) (m := y.ms.length) (c := y.c) underlying67 J J) (nZ J J (nZ J J (aQ (rQ J J call153 J (Imp.refl _) (rdepth_spec W0 _ (r := r) (n := n) (a := some ⟨b0, o0, none⟩) (c := x.cc) (l := l) (f := ac.cf) (by exact Cel.of_blk (b := r) eX J) (by exact SlR.of_osl (E := 156) eX) hget) J (fun _ => iM) (fun _ => Imp.refl _) (fun _ => iM) ?_))))
  rintro ⟨⟩ -
  rw [show dep (Cf.Kind ac.cf) (Cf.Depth ac.cf) = dep ac.kind ac.depth from J]
  refine hZ J cX ?_
  refine pQ (bZ (vZ J (uZ (bZ (cZ (qQ (.lo 0 0 (.lo 1 0 (.lo 2 0 (.lo 3 0 (.lo 4 0 (.lo 5 0 (.lo 6 0 (.lo 7 0 (.lo 8 0 (.lo 9 0 (.lo 10 0 (.lo 11 2 (.lo 12 1 (.eff1 13 false (.eff1 14 false (.lo 15 1 (.eff1 16 true (.done)))))))))))))))))) [13, 14, 16] [11] ([blk r [.slice (some ⟨b0, o0, none⟩) l.length x.cc, .slice (some ⟨b1, o1, none⟩) x.xs.length x.sc, .slice x.ra x.ys.length x.rc] 271]) ([osl 67 1 (some ⟨b1, o1, none⟩) x.sc x.xs.length ((x.xs.set n y).map End.cell)]) mixed (by kernel_rfl) (iM) (iM) ?_))))))
  refine nZ J J (dQ J J (wZ J fa271_1 J (hZ J (jZ (v := .slice (some ⟨b1, o1, none⟩) x.xs.length x.sc) ti38 J (Cel.of_blk (b := r) eX J)) ?_)))
  refine nZ J J (nZ J J (dQ J J (wZ J fa271_1 J (hZ J (jZ (v := .slice (some ⟨b1, o1, none⟩) x.xs.length x.sc) ti38 J (Cel.of_blk (b := r) eX J)) ?_))))
  refine nZ J J (hZ J (lZ (b := b1) (o := o1) (m := x.xs.length) (c := x.sc) underlying38 ti67 J J (by omega) (by omega)) ?_)
  refine hZ J (jZ (v := y.cell) ti67 J (by rw [show o1 + (n : Int).toNat * 1 = o1 + n by omega]; exact SlR.cel (SlR.of_osl (E := 67) (a := some ⟨b1, o1, none⟩) eX) (by rw [List.getElem?_map, hys]; rfl))) ?_
  refine nZ J J (aQ (wQ J J (gV underlying67 ti32 J J J) J (fun _ => iM) (fun _ => Imp.refl _) (fun _ => iM) ?_))
  rintro b77 -
  refine aQ (wQ J J (fX (a := y.a) (c := y.c) (k := 1) (ys := [Msg.cell ⟨am, cm, bs⟩]) J J J underlying67 underlying67 ti32 J (by decide) fC (SlR.of_osl (a := some ⟨b77, 0, none⟩) eX) (by simp [one, Msg.cell]) (by omega)) J (fun _ => iM) (fun _ => Imp.refl _) (fun _ => iM) ?_)
  rintro ⟨a78, c78⟩ -
  refine hZ J (lZ (b := b1) (o := o1) (m := x.xs.length) (c := x.sc) underlying38 ti67 J J (by omega) (by omega)) ?_
  refine aQ (wQ J J (iV (i := n) ti67 (by rw [show o1 + (n : Int).toNat * 1 = o1 + n by omega]; rfl) J fC J (by omega)) J (fun _ => iM) (fun _ => Imp.refl _) (fun _ => iM) ?_)
  rintro ⟨⟩ -
  rw [show Value.slice a78 (y.ms.length + 1) c78 = End.cell ⟨a78, c78, y.ms ++ [⟨am, cm, bs⟩]⟩ by unfold End.cell; rw [List.length_append]; rfl, ← List.map_set (f := End.cell), List.set_set]
  refine pQ (bZ (cZ (aZ (gZ J (fZ (bZ (rZ ?_)))))))
  rw [show sendR ac part bs = (0, { ac with s := ac.s ++ [bs] }) by unfold sendR; rw [if_neg (by exact not_not_intro hh.1), if_neg (by have := hh.2.1; exact Int.not_lt.2 this), if_neg (by exact not_not_intro hh.2.2.1), if_neg (by rw [← hyb]; simp only [End.bs, List.length_map]; exact Int.not_le.2 hh.2.2.2)]]
  have hd8 : dep ac.kind ac.depth ≤ 8 := by unfold dep; split <;> omega
  have hsl2 : ac.s.length = y.ms.length := by rw [← hyb]; simp [End.bs]
  refine yZ J J () trivial J (Imp.trans ?_ (@hcl ⟨a78, c78, y.ms ++ [⟨am, cm, bs⟩]⟩ z ac { ac with s := ac.s ++ [bs] } [⟨am, cm, bs⟩] Fr hy hz hx hac J ⟨by simp only [List.length_append, List.length_cons, List.length_nil]; omega, hok.r, fun m hm => by simp only [List.mem_append, List.mem_cons, List.not_mem_nil, or_false] at hm; rcases hm with hm | rfl; exact hok.sl m hm; omega, hok.rl⟩ (by rw [← hyb]; unfold End.bs; rw [List.map_append]; rfl) hzb (fun m hm => by rcases hm with hm | hm; (rcases List.mem_append.1 hm with hm | hm; exact List.mem_append.2 (.inr (hmy m hm)); exact List.mem_append.2 (.inl hm)); exact List.mem_append.2 (.inr (hmz m hm)))))
  refine Imp.trans ?_ (Imp.cons (Imp.cons (Imp.cons (Imp.cons (Imp.cons (Imp.cons (Imp.cons (Imp.cons (pool_one (m := ⟨am, cm, bs⟩))))))))))
  rw [oend_snoc]
  exact iM
end
section
variable (W0 : World) (Fr : List HProp)
theorem rrecv_out {r : Nat} {acs : List AC} (part n : Int) (hn : n < 0 ∨ (acs.length : Int) ≤ n) : Ctr prog W0 106 [.pointer (some ⟨r, 0, none⟩), .int .i64 part, .int .i64 n] (Rp r acs :: Fr) (fun _ : Unit => True) (fun _ => .tuple #[.slice none 0 0, .int .i64 210]) (fun _ => Rp r acs :: Fr) := by
 refine Ctr.ex Ext.here rp_open0 ?_
 intro x hx
 refine Ctr.imp star_open ?_
 have hlen : (acs.map AC.cf).length = acs.length := List.length_map _
 have hback := rp_close0 (r := r) (G := Fr) x hx
 generalize acs.map AC.cf = l at hlen hback ⊢
 dsimp only [RO, List.cons_append, List.nil_append] at hback ⊢
 refine Ctr.of_body func106 J ntmps106 J (cZ (aZ (gZ J (gZ J (fZ (bZ (cZ (cZ (aZ (eZ J (eZ J (oZ call151 J (Imp.refl _) (has_spec W0 _ (r := r) (m := l.length) (cc := x.cc) (ca := x.ca) n (Cel.of_blk (b := r) eX J)) J ?_))))))))))))
 rintro ⟨⟩ -
 rw [show decide (0 ≤ n ∧ n < (l.length : Int)) = false from decide_eq_false (by omega)]
 refine dZ (iQ J) (eZ J (gQ J J J J J (gQ J J J J J (gQ J J J J J (gQ J J J J J (gQ J J J J J (gQ J J J J J (gQ J J J J J (gQ J J J J J (gQ J J J J J (gQ J J J J J (dZ mZ ?_))))))))))))
 exact fZ (bZ (fQ J (cZ (aZ (gZ J (gZ J (fZ (bZ (rZ (qZ (oX J J J () trivial J (Imp.trans iM hback))))))))))))
theorem rrecv_bad {r n : Nat} {acs : List AC} (part : Int) {ac : AC} (hac : acs[n]? = some ac) (he : recvE ac part ≠ 0) :
 Ctr prog W0 106 [.pointer (some ⟨r, 0, none⟩), .int .i64 part, .int .i64 n] (Rp r acs :: Fr) (fun _ : Unit => True) (fun _ => .tuple #[.slice none 0 0, .int .i64 (recvE ac part)]) (fun _ => Rp r acs :: Fr) := by
 refine Ctr.ex Ext.here rp_open0 ?_
 intro x hx
 refine Ctr.imp star_open ?_
 obtain ⟨y, z, hy, hz, hyb, hzb⟩ := hx.gx hac
 have hnl : n < acs.length := (List.getElem?_eq_some_iff.1 hac).1
 have hly := hx.ly
 have hget : (acs.map AC.cf)[n]? = some ac.cf := by rw [List.getElem?_map, hac]; rfl
 have hzs : (x.ys.set n z)[n]? = some z := by rw [set_self hz]; exact hz
 have hlen : (acs.map AC.cf).length = acs.length := List.length_map _
 refine Ctr.imp (rp_open hy hz) ?_
 have hback := rp_back (r := r) (G := Fr) hy hz hx hac
 generalize acs.map AC.cf = l at hget hlen hback ⊢
 refine Ctr.pure (fun w hw => shape_rl (n := n) (x := x) (l := l) (by omega) (Ext.there Ext.here) w hw) ?_
 rintro ⟨b0, o0, hca⟩
 refine Ctr.pure (fun w hw => shape_os (xs := x.ys.set n z) (by rw [List.length_set]; omega) (Ext.there (Ext.there (Ext.there Ext.here))) w hw) ?_
 rintro ⟨b1, o1, hra⟩
 dsimp only [RP, RH, RL, List.cons_append, List.nil_append] at hback ⊢
 rw [hca, hra] at hback ⊢
 have hrl : ac.r.length = z.ms.length := by rw [← hzb]; simp [End.bs]
 refine Ctr.of_body func106 J ntmps106 J (cZ (aZ (gZ J (gZ J (fZ (bZ (cZ (cZ ?_))))))))
 rcases (show ac.to ≠ part ∨ ac.to = part by omega) with hh | hh
 ·refine aZ (eZ J (eZ J (oZ call151 J (Imp.refl _) (has_spec W0 _ (r := r) (m := l.length) (cc := x.cc) (ca := some ⟨b0, o0, none⟩) n (Cel.of_blk (b := r) eX J)) J ?_)))
  rintro ⟨⟩ -
  rw [show decide (0 ≤ (n : Int) ∧ (n : Int) < (l.length : Int)) = true from decide_eq_true (by omega)]
  refine dZ (iQ J) (eZ J (kZ J J (eZ J (kZ J J (zZ J (kZ J J (pZ fa271_0 J (kZ J J (dZ (iZ ti72 J) ?_)))))))))
  refine kZ J J (eZ J (kZ J J (dZ (lZ underlying72 ti156 J J (by omega) (by omega)) ?_)))
  refine kZ J J (pZ fa156_2 J (kZ J J (dZ (jZ (v := .int .i64 ac.to) ti3 J (((SlR.of_osl (E := 156) (a := some ⟨b0, o0, none⟩) eX).elem Cf.len hget) 2 _ J)) ?_)))
  refine kZ J J (eZ J (kZ J J (dZ vQ ?_)))
  refine dZ mZ ?_
  exact fZ (bZ (fQ J (cZ (aZ (gZ J (gZ J (fZ (bZ (rZ (qZ (oX J J J () trivial (by rw [show recvE ac part = 210 by unfold recvE; rw [if_pos hh]]) (Imp.trans iM hback))))))))))))
 ·refine aZ (eZ J (eZ J (oZ call151 J (Imp.refl _) (has_spec W0 _ (r := r) (m := l.length) (cc := x.cc) (ca := some ⟨b0, o0, none⟩) n (Cel.of_blk (b := r) eX J)) J ?_)))
  rintro ⟨⟩ -
  rw [show decide (0 ≤ (n : Int) ∧ (n : Int) < (l.length : Int)) = true from decide_eq_true (by omega)]
  refine dZ (iQ J) (eZ J (kZ J J (eZ J (kZ J J (zZ J (kZ J J (pZ fa271_0 J (kZ J J (dZ (iZ ti72 J) ?_)))))))))
  refine kZ J J (eZ J (kZ J J (dZ (lZ underlying72 ti156 J J (by omega) (by omega)) ?_)))
  refine kZ J J (pZ fa156_2 J (kZ J J (dZ (jZ (v := .int .i64 ac.to) ti3 J (((SlR.of_osl (E := 156) (a := some ⟨b0, o0, none⟩) eX).elem Cf.len hget) 2 _ J)) ?_)))
  refine kZ J J (eZ J (kZ J J (dZ vQ ?_)))
  refine dZ mZ ?_
  refine fZ (bZ (vZ J (uZ (bZ (cZ (cZ ?_))))))
  have hr0 : ac.r = [] := by
   by_cases h : ac.r = []
   ·exact h
   ·exact absurd (by unfold recvE; rw [if_neg (not_not_intro hh), if_neg h]) he
  have hz0 : z.ms.length = 0 := by rw [← hrl, hr0]; rfl
  refine aZ (eZ J (zZ J (pZ fa271_2 J (dZ (jZ (v := .slice (some ⟨b1, o1, none⟩) x.ys.length x.rc) ti38 J (Cel.of_blk (b := r) eX J)) ?_))))
  refine eZ J (dZ (lZ (b := b1) (o := o1) (m := x.ys.length) (c := x.rc) underlying38 ti67 J J (by omega) (by omega)) ?_)
  refine dZ (jZ (v := z.cell) ti67 J (by rw [show o1 + (n : Int).toNat * 1 = o1 + n by omega]; exact SlR.cel (SlR.of_osl (E := 67) (a := some ⟨b1, o1, none⟩) eX) (by rw [List.getElem?_map, hzs]; rfl))) ?_
  refine dZ (sZ (a := z.a) (m := z.ms.length) (c := z.c) underlying67 J J) (dZ zX ?_)
  exact fZ (bZ (fQ J (cZ (aZ (gZ J (gZ J (fZ (bZ (rZ (qZ (oX J J J () trivial (by rw [show recvE ac part = 110 by unfold recvE; rw [if_neg (not_not_intro hh), if_pos hr0]]) (Imp.trans iM hback))))))))))))
theorem SlR.tail {y : End} (h : 1 ≤ y.ms.length) {G R : List HProp} (x : Ext G (oend y) R) : SlR W0 G 1 y.tail.a y.tail.ms.length (y.tail.ms.map Msg.cell) :=
 SlR.imp (SlR.of_osl (G := oend y.tail :: R) Ext.here) (Imp.trans x.1 (Imp.head fun k hk => oend_tail h k hk))
set_option maxHeartbeats 1000000 in
theorem rrecv_ok {r n : Nat} {acs : List AC} (part : Int) {ac : AC} {m : B} {rest : List B} (hac : acs[n]? = some ac) (hto : ac.to = part) (hr : ac.r = m :: rest) :
 Ctr prog W0 106 [.pointer (some ⟨r, 0, none⟩), .int .i64 part, .int .i64 n] (Rp r acs :: Fr) (fun _ : Option Addr × Nat => True) (fun q => .tuple #[.slice q.1 m.length q.2, .int .i64 0]) (fun q => oby 5 q.1 q.2 m :: Rp r (acs.set n (if ac.kind = 2 then { ac with r := rest } else ac)) :: Fr) := by
 refine Ctr.ex Ext.here rp_open0 ?_
 intro x hx
 refine Ctr.imp star_open ?_
 obtain ⟨y, z, hy, hz, hyb, hzb⟩ := hx.gx hac
 have hnl : n < acs.length := (List.getElem?_eq_some_iff.1 hac).1
 have hly := hx.ly
 have hok := hx.ok _ (List.mem_of_getElem? hac)
 have hmy := hx.mem y (.inl (List.mem_of_getElem? hy))
 have hmz := hx.mem z (.inr (List.mem_of_getElem? hz))
 have hget : (acs.map AC.cf)[n]? = some ac.cf := by rw [List.getElem?_map, hac]; rfl
 have hzs : (x.ys.set n z)[n]? = some z := by rw [set_self hz]; exact hz
 have hlen : (acs.map AC.cf).length = acs.length := List.length_map _
 have hrl : ac.r.length = z.ms.length := by rw [← hzb]; simp [End.bs]
 have hrl8 := hok.r
 have hml : m.length ≤ 64 := hok.rl m (by rw [hr]; simp)
 obtain ⟨m0, ms', hrm, hm0, hms⟩ : ∃ m0 ms', z.ms = m0 :: ms' ∧ m0.b = m ∧ ms'.map Msg.b = rest := by
  have hr2 : z.ms.map Msg.b = m :: rest := hzb.trans hr
  cases hq : z.ms with
  | nil => rw [hq] at hr2; cases hr2
  | cons m0 ms' => rw [hq] at hr2; simp only [List.map_cons, List.cons.injEq] at hr2; exact ⟨m0, ms', rfl, hr2.1, hr2.2⟩
 have hr1 : 1 ≤ z.ms.length := by rw [hrm]; simp
 have hmsl : ms'.length = z.ms.length - 1 := by rw [hrm]; simp
 refine Ctr.imp (rp_open hy hz) ?_
 have hcl := @rp_close r n acs x y z
 have hback := rp_back (r := r) (G := Fr) hy hz hx hac
 generalize acs.map AC.cf = l at hget hlen hback hcl ⊢
 refine Ctr.pure (fun w hw => shape_rl (n := n) (x := x) (l := l) (by omega) (Ext.there Ext.here) w hw) ?_
 rintro ⟨b0, o0, hca⟩
 refine Ctr.pure (fun w hw => shape_os (xs := x.ys.set n z) (by rw [List.length_set]; omega) (Ext.there (Ext.there (Ext.there Ext.here))) w hw) ?_
 rintro ⟨b1, o1, hra⟩
 dsimp only [RP, RH, RL, List.cons_append, List.nil_append] at hcl hback ⊢
 rw [hca, hra] at hcl hback ⊢
 refine Ctr.pure (fun w hw => SlR.shape (SlR.of_osl (W0 := W0) (E := 32) (sz := 1) (a := z.a) (c := z.c) (m := z.ms.length) (xs := z.ms.map Msg.cell) eX) (by rw [hrm]; simp) w hw) ?_
 rintro ⟨bz, oz, hza⟩
 refine Ctr.pure (fun w hw => osl_facts (W0 := W0) (E := 32) (sz := 1) (a := z.a) (c := z.c) (m := z.ms.length) (xs := z.ms.map Msg.cell) eX w hw) ?_
 rintro ⟨-, hzc⟩
 subst hm0
 refine Ctr.of_body func106 J ntmps106 J (cZ (aZ (gZ J (gZ J (fZ (bZ (cZ (cZ (aZ (eZ J (eZ J (oZ call151 J (Imp.refl _) (has_spec W0 _ (r := r) (m := l.length) (cc := x.cc) (ca := some ⟨b0, o0, none⟩) n (Cel.of_blk (b := r) eX J)) J ?_))))))))))))
 rintro ⟨⟩ -
 rw [show decide (0 ≤ (n : Int) ∧ (n : Int) < (l.length : Int)) = true from decide_eq_true (by omega)]
 refine dZ (iQ J) (eZ J (kZ J J (eZ J (kZ J J (zZ J (kZ J J (pZ fa271_0 J (kZ J J (dZ (iZ ti72 J) ?_)))))))))
 refine kZ J J (eZ J (kZ J J (dZ (lZ underlying72 ti156 J J (by omega) (by omega)) ?_)))
 refine kZ J J (pZ fa156_2 J (kZ J J (dZ (jZ (v := .int .i64 ac.to) ti3 J (((SlR.of_osl (E := 156) (a := some ⟨b0, o0, none⟩) eX).elem Cf.len hget) 2 _ J)) ?_)))
 refine kZ J J (eZ J (kZ J J (dZ vQ ?_)))
 refine dZ mZ ?_
 refine fZ (bZ (vZ J (uZ (bZ (cZ (cZ (aZ (eZ J (zZ J (pZ fa271_2 J (dZ (jZ (v := .slice (some ⟨b1, o1, none⟩) x.ys.length x.rc) ti38 J (Cel.of_blk (b := r) eX J)) ?_)))))))))))
 refine eZ J (dZ (lZ (b := b1) (o := o1) (m := x.ys.length) (c := x.rc) underlying38 ti67 J J (by omega) (by omega)) ?_)
 refine dZ (jZ (v := z.cell) ti67 J (by rw [show o1 + (n : Int).toNat * 1 = o1 + n by omega]; exact SlR.cel (SlR.of_osl (E := 67) (a := some ⟨b1, o1, none⟩) eX) (by rw [List.getElem?_map, hzs]; rfl))) ?_
 refine dZ (sZ (a := z.a) (m := z.ms.length) (c := z.c) underlying67 J J) (dZ zX ?_)
 refine fZ (bZ (vZ J (uZ (bZ (cZ (aZ (kQ (sX underlying32 ti5 J) J ?_)))))))
 rintro b34 -
 refine eZ J (zZ J (pZ fa271_2 J (dZ (jZ (v := .slice (some ⟨b1, o1, none⟩) x.ys.length x.rc) ti38 J (Cel.of_blk (b := r) eX J)) ?_)))
 refine eZ J (dZ (lZ (b := b1) (o := o1) (m := x.ys.length) (c := x.rc) underlying38 ti67 J J (by omega) (by omega)) ?_)
 refine dZ (jZ (v := z.cell) ti67 J (by rw [show o1 + (n : Int).toNat * 1 = o1 + n by omega]; exact SlR.cel (SlR.of_osl (E := 67) (a := some ⟨b1, o1, none⟩) eX) (by rw [List.getElem?_map, hzs]; rfl))) ?_
 refine dZ (lZ (b := bz) (o := oz) (m := z.ms.length) (c := z.c) underlying67 ti32 (by unfold End.cell; rw [← hza]; rfl) J (by omega) (by omega)) ?_
 refine dZ (jZ (v := m0.cell) ti32 J (by rw [show oz + (0 : Int).toNat * 1 = oz + 0 from J]; exact SlR.cel (by rw [← hza]; exact SlR.of_osl (E := 32) (a := z.a) (c := z.c) (m := z.ms.length) (xs := z.ms.map Msg.cell) eX) (by rw [hrm]; rfl))) ?_
 refine kQ (eV (bs := []) (ys := m0.b) J J J underlying32 underlying32 ti5 (by decide) fC (by exact (pool_rd (ms := x.pl) eX (hmz m0 (by rw [hrm]; simp))).slR) (by simp only [List.length_nil]; omega)) J ?_
 rintro ⟨am, cm⟩ -
 rw [List.nil_append]
 refine gZ J (fZ (bZ (cZ (cZ (aZ (eZ J (zZ J (pZ fa271_0 J (dZ (iZ ti72 J) ?_)))))))))
 refine eZ J (dZ (lZ underlying72 ti156 J J (by omega) (by omega)) ?_)
 refine pZ fa156_0 J (dZ (jZ (v := .int .i64 ac.kind) ti3 J (((SlR.of_osl (E := 156) (a := some ⟨b0, o0, none⟩) eX).elem Cf.len hget) 0 _ J)) ?_)
 refine dZ (yQ J J) (fZ (bZ (lQ J (fun hc => ?_) (fun hc => ?_))))
 ·try replace hc := odT hc
  refine qQ (.lo 0 0 (.lo 1 0 (.lo 2 0 (.lo 3 0 (.lo 4 0 (.lo 6 0 (.lo 7 0 (.lo 8 0 (.lo 9 0 (.lo 10 0 (.lo 11 0 (.lo 12 2 (.lo 13 0 (.eff1 5 false (.eff1 14 false (.lo 15 1 (.eff1 16 true (.done)))))))))))))))))) [5, 14, 16] [12] ([blk r [.slice (some ⟨b0, o0, none⟩) l.length x.cc, .slice x.sa x.xs.length x.sc, .slice (some ⟨b1, o1, none⟩) x.ys.length x.rc] 271, oend z]) ([osl 67 1 (some ⟨b1, o1, none⟩) x.rc x.ys.length ((x.ys.set n z).map End.cell)]) mixed (by kernel_rfl) (iM) (iM) ?_
  refine nZ J J (dQ J J (wZ J fa271_2 J (hZ J (jZ (v := .slice (some ⟨b1, o1, none⟩) x.ys.length x.rc) ti38 J (Cel.of_blk (b := r) eX J)) ?_)))
  refine nZ J J (nZ J J (dQ J J (wZ J fa271_2 J (hZ J (jZ (v := .slice (some ⟨b1, o1, none⟩) x.ys.length x.rc) ti38 J (Cel.of_blk (b := r) eX J)) ?_))))
  refine nZ J J (hZ J (lZ (b := b1) (o := o1) (m := x.ys.length) (c := x.rc) underlying38 ti67 J J (by omega) (by omega)) ?_)
  refine hZ J (jZ (v := z.cell) ti67 J (by rw [show o1 + (n : Int).toNat * 1 = o1 + n by omega]; exact SlR.cel (SlR.of_osl (E := 67) (a := some ⟨b1, o1, none⟩) eX) (by rw [List.getElem?_map, hzs]; rfl))) ?_
  refine hZ J (Yield.tail (y := z) underlying67 ti32 J (by omega) hzc) ?_
  refine aQ (wQ J J (sX underlying67 ti32 J) J (fun _ => iM) (fun _ => Imp.refl _) (fun _ => iM) ?_)
  rintro b59 -
  refine aQ (wQ J J (fX (a := some ⟨b59, 0, none⟩) (c := 0) (m := 0) (xs := []) (a2 := z.tail.a) (c2 := z.tail.c) (k := z.tail.ms.length) (ys := z.tail.ms.map Msg.cell) J J J underlying67 underlying67 ti32 J (by decide) fC (SlR.tail W0 (y := z) hr1 eX) (cells_ones _) (by unfold End.tail; simp only [List.length_tail]; omega)) J (fun _ => iM) (fun _ => Imp.refl _) (fun _ => iM) ?_)
  rintro ⟨a68, c68⟩ -
  refine hZ J (lZ (b := b1) (o := o1) (m := x.ys.length) (c := x.rc) underlying38 ti67 J J (by omega) (by omega)) ?_
  refine aQ (wQ J J (iV (i := n) ti67 (by rw [show o1 + (n : Int).toNat * 1 = o1 + n by omega]; rfl) J fC J (by omega)) J (fun _ => iM) (fun _ => Imp.refl _) (fun _ => iM) ?_)
  rintro ⟨⟩ -
  rw [show Value.slice a68 (0 + z.tail.ms.length) c68 = End.cell ⟨a68, c68, z.tail.ms⟩ by unfold End.cell; rw [Nat.zero_add], ← List.map_set (f := End.cell), List.set_set]
  refine pQ (bZ (cZ (aZ (eZ J (gZ J (gZ J (fZ (bZ (rZ ?_)))))))))
  rw [if_pos (by exact hc)]
  have hyt : Po.End.bs ⟨a68, c68, z.tail.ms⟩ = rest := by unfold End.bs End.tail; dsimp only; rw [hrm]; exact hms
  have hzl8 : z.ms.length ≤ 8 := by omega
  refine oX J J J (am, cm) trivial J (Imp.trans ?_ (Imp.cons (@hcl y ⟨a68, c68, z.tail.ms⟩ ac { ac with r := rest } [] Fr hy hz hx hac J ⟨hok.s, by show rest.length ≤ 8; rw [← hms, List.length_map]; omega, hok.sl, fun m hm => hok.rl m (by rw [hr]; exact List.mem_cons_of_mem _ hm)⟩ hyb hyt (fun m hm => by rcases hm with hm | hm; exact List.mem_append.2 (.inr (hmy m hm)); exact List.mem_append.2 (.inr (hmz m (List.mem_of_mem_tail hm)))))))
  refine Imp.trans ?_ (Imp.cons (Imp.cons (Imp.cons (Imp.cons (Imp.cons (Imp.cons (Imp.cons (Imp.cons (Imp.cons pool_nil)))))))))
  rw [show oend ⟨a68, c68, z.tail.ms⟩ = osl 32 1 a68 c68 (0 + z.tail.ms.length) ([] ++ z.tail.ms.map Msg.cell) by unfold oend; rw [Nat.zero_add, List.nil_append]]
  exact iM
 ·try replace hc := odF hc
  refine uZ (bZ (cZ (aZ (eZ J (gZ J (gZ J (fZ (bZ (rZ ?_)))))))))
  rw [if_neg (by exact hc), set_self hac]
  exact oX J J J (am, cm) trivial J (Imp.trans (Imp.pull eX iM) (Imp.cons hback))
theorem rheld_in {r n : Nat} {acs : List AC} (sd : Bool) {ac : AC} (hac : acs[n]? = some ac) :
 Ctr prog W0 120 [.pointer (some ⟨r, 0, none⟩), .int .i64 n, .bool sd] (Rp r acs :: Fr) (fun y : End => y.bs = if sd then ac.s else ac.r) (fun y => y.cell) (fun y => oend y :: pool y.ms :: Rp r acs :: Fr) := by
 refine Ctr.ex Ext.here rp_open0 ?_
 intro x hx
 refine Ctr.imp star_open ?_
 obtain ⟨y, z, hy, hz, hyb, hzb⟩ := hx.gx hac
 have hnl : n < acs.length := (List.getElem?_eq_some_iff.1 hac).1
 have hlx := hx.lx
 have hly := hx.ly
 have hok := hx.ok _ (List.mem_of_getElem? hac)
 have hmy := hx.mem y (.inl (List.mem_of_getElem? hy))
 have hmz := hx.mem z (.inr (List.mem_of_getElem? hz))
 have hys : (x.xs.set n y)[n]? = some y := by rw [set_self hy]; exact hy
 have hzs : (x.ys.set n z)[n]? = some z := by rw [set_self hz]; exact hz
 have hlen : (acs.map AC.cf).length = acs.length := List.length_map _
 have hsl : y.ms.length ≤ 8 := by have := hok.s; rw [← hyb] at this; simpa [End.bs] using this
 have hrl : z.ms.length ≤ 8 := by have := hok.r; rw [← hzb] at this; simpa [End.bs] using this
 have hsb : ∀ m ∈ y.ms, m.b.length ≤ 64 := fun m hm => hok.sl m.b (by rw [← hyb]; exact List.mem_map_of_mem hm)
 have hrb : ∀ m ∈ z.ms, m.b.length ≤ 64 := fun m hm => hok.rl m.b (by rw [← hzb]; exact List.mem_map_of_mem hm)
 refine Ctr.imp (rp_open hy hz) ?_
 have hback := rp_back (r := r) (G := Fr) hy hz hx hac
 generalize acs.map AC.cf = l at hlen hback ⊢
 refine Ctr.pure (fun w hw => shape_os (xs := x.xs.set n y) (by rw [List.length_set]; omega) (Ext.there (Ext.there Ext.here)) w hw) ?_
 rintro ⟨b1, o1, hsa⟩
 refine Ctr.pure (fun w hw => shape_os (xs := x.ys.set n z) (by rw [List.length_set]; omega) (Ext.there (Ext.there (Ext.there Ext.here))) w hw) ?_
 rintro ⟨b2, o2, hra⟩
 dsimp only [RP, RH, RL, List.cons_append, List.nil_append] at hback ⊢
 rw [hsa, hra] at hback ⊢
 refine Ctr.of_body func120 J ntmps120 J (cZ (aZ (gZ J (fZ (bZ (cZ (cZ (aZ (eZ J (eZ J (oZ call151 J (Imp.refl _) (has_spec W0 _ (r := r) (m := l.length) (cc := x.cc) (ca := x.ca) n (Cel.of_blk (b := r) eX J)) J ?_)))))))))))
 rintro ⟨⟩ -
 rw [show decide (0 ≤ (n : Int) ∧ (n : Int) < (l.length : Int)) = true from decide_eq_true (by omega)]
 refine dZ (iQ J) (fZ (bZ (vZ J (uZ (bZ (cZ (cZ (aZ (eZ J (fZ (bZ (lQ J (fun hc => ?_) (fun hc => ?_)))))))))))))
 ·try replace hc := odT hc
  refine cZ (aZ (eZ J (zZ J (pZ fa271_1 J (dZ (jZ (v := .slice (some ⟨b1, o1, none⟩) x.xs.length x.sc) ti38 J (Cel.of_blk (b := r) eX J)) ?_)))))
  refine eZ J (dZ (lZ (b := b1) (o := o1) (m := x.xs.length) (c := x.sc) underlying38 ti67 J J (by omega) (by omega)) ?_)
  refine dZ (jZ (v := y.cell) ti67 J (by rw [show o1 + (n : Int).toNat * 1 = o1 + n by omega]; exact SlR.cel (SlR.of_osl (E := 67) (a := some ⟨b1, o1, none⟩) eX) (by rw [List.getElem?_map, hys]; rfl))) ?_
  refine oZ call169 J (Imp.refl _) (copies_spec W0 _ (x := y) (by exact SlR.of_osl (E := 32) eX) (by intro m hm; exact pool_rd eX (hmy m hm)) (by omega) (by intro m hm; have := hsb m hm; omega)) J ?_
  rintro y' hy'
  exact gZ J (fZ (bZ (rZ (qZ (yZ J J y' (by rw [if_pos hc, hy', hyb]) J (Imp.cons (Imp.cons hback)))))))
 ·try replace hc := odF hc
  refine uZ (bZ (cZ (aZ (eZ J (zZ J (pZ fa271_2 J (dZ (jZ (v := .slice (some ⟨b2, o2, none⟩) x.ys.length x.rc) ti38 J (Cel.of_blk (b := r) eX J)) ?_)))))))
  refine eZ J (dZ (lZ (b := b2) (o := o2) (m := x.ys.length) (c := x.rc) underlying38 ti67 J J (by omega) (by omega)) ?_)
  refine dZ (jZ (v := z.cell) ti67 J (by rw [show o2 + (n : Int).toNat * 1 = o2 + n by omega]; exact SlR.cel (SlR.of_osl (E := 67) (a := some ⟨b2, o2, none⟩) eX) (by rw [List.getElem?_map, hzs]; rfl))) ?_
  refine oZ call169 J (Imp.refl _) (copies_spec W0 _ (x := z) (by exact SlR.of_osl (E := 32) eX) (by intro m hm; exact pool_rd eX (hmz m hm)) (by omega) (by intro m hm; have := hrb m hm; omega)) J ?_
  rintro y' hy'
  exact gZ J (fZ (bZ (rZ (yZ J J y' (by rw [if_neg (by rw [hc]; decide), hy', hzb]) J (Imp.cons (Imp.cons hback))))))
end
end Go.Proofs.YtphljkplokjonaaGreat.Po
