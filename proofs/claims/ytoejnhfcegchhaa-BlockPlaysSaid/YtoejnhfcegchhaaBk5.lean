/- block.Block: Poll. -/
import Derived.Test.YtoejnhfcegchhaaBk4
namespace Go.Proofs.Ytoejnhfcegchhaa.Bk
open Go Go.Sl Go.RowKit Go.Proofs Go.Proofs.Ytoejnhfcegchhaa.T Go.Proofs.Ytoejnhfcegchhaa.Ms Go.Proofs.Ytoejnhfcegchhaa.Vd
set_option linter.unusedVariables false
set_option linter.unusedSimpArgs false
set_option maxRecDepth 100000
def getS (bs : B) (n : Nat) : B := (bs.drop (64 * n)).take 64
def setS (bs : B) (n : Nat) (d : B) : B := bs.take (64 * n) ++ d ++ bs.drop (64 * n + d.length)
def doJ (bs : B) (j : Jb) : B := if j.r.write then setS bs j.r.sector.toNat j.r.data else bs
def outJ (bs : B) (j : Jb) : Rq := if j.r.write then j.r else { j.r with data := getS bs j.r.sector.toNat }
/-- What is told, the bytes behind it, and what still waits. -/
def pollL (now : Int) : B → List Jb → List Rq × B × List Jb
  | bs, [] => ([], bs, [])
  | bs, j :: q => if j.done ≤ now then (outJ bs j :: (pollL now (doJ bs j) q).1, (pollL now (doJ bs j) q).2) else ([], bs, j :: q)
def pollR (s : Bs) (now : Int) : Bs := { s with bytes := (pollL now s.bytes s.q).2.1, q := (pollL now s.bytes s.q).2.2 }
theorem pollL_no {now : Int} {bs : B} {j : Jb} {q : List Jb} (h : now < j.done) : pollL now bs (j :: q) = ([], bs, j :: q) := by
  show (if j.done ≤ now then _ else _) = _
  rw [if_neg (by omega)]
theorem pollL_yes {now : Int} {bs : B} {j : Jb} {q : List Jb} (h : j.done ≤ now) : pollL now bs (j :: q) = (outJ bs j :: (pollL now (doJ bs j) q).1, (pollL now (doJ bs j) q).2) := by
  show (if j.done ≤ now then _ else _) = _
  rw [if_pos h]
theorem getS_len {bs : B} {n : Nat} (h : 64 * n + 64 ≤ bs.length) : (getS bs n).length = 64 := by unfold getS; simp; omega
theorem setS_len {bs d : B} {n : Nat} (hd : d.length = 64) (h : 64 * n + 64 ≤ bs.length) : (setS bs n d).length = bs.length := by unfold setS; simp; omega
/-- the disk with other bytes and another queue -/
def Bs.at (s : Bs) (bs : B) (q : List Jb) : Bs := { s with bytes := bs, q := q }
theorem sec_room {s : Bs} {bs : B} {j : Jb} {q : List Jb} (h : (s.at bs (j :: q)).OK) : ∃ n : Nat, j.r.sector = n ∧ 64 * n + 64 ≤ bs.length := by
  obtain ⟨h1, h2⟩ := h.sec j List.mem_cons_self
  refine ⟨j.r.sector.toNat, by omega, ?_⟩
  have h3 : j.r.sector < ((bs.length / 64 : Nat) : Int) := h2
  omega
theorem doJ_len {s : Bs} {bs : B} {j : Jb} {q : List Jb} (h : (s.at bs (j :: q)).OK) : (doJ bs j).length = bs.length := by
  obtain ⟨n, hn, hl⟩ := sec_room h
  unfold doJ
  split
  · rename_i hw
    rw [hn]; exact setS_len ((h.dat j List.mem_cons_self).2 hw) hl
  · rfl
theorem doJ_ok {s : Bs} {bs : B} {j : Jb} {q : List Jb} (h : (s.at bs (j :: q)).OK) : (s.at (doJ bs j) q).OK := by
  have hl := doJ_len h
  have e : (s.at (doJ bs j) q).n = (s.at bs (j :: q)).n := by show (doJ bs j).length / 64 = bs.length / 64; rw [hl]
  obtain ⟨n, h1, h2⟩ := h.len
  refine ⟨⟨n, by show (doJ bs j).length = _; rw [hl]; exact h1, h2⟩, h.dls, h.del, h.taken, h.free, ?_, fun i hi => ?_, fun i hi => h.dat i (List.mem_cons_of_mem _ hi)⟩
  · have := h.ql; dsimp only [Bs.at, List.length_cons] at this ⊢; omega
  · rw [e]; exact h.sec i (List.mem_cons_of_mem _ hi)
theorem setS_eq {bs d : B} {n : Nat} (hd : d.length = 64) : Sl.over (bytesV bs) (64 * n) ((bytesV d).take (min d.length 64)) = bytesV (setS bs n d) := by
  rw [bytesV_take, List.take_of_length_le (by omega), over_bytes]; rfl
theorem jp_head {G : List HProp} {j : CJ} {js : List CJ} : Imp (jpool (j :: js) :: G) (j.m.own :: jpool js :: G) := star_take (L := ((j :: js).map CJ.m).map Msg.own) (i := 0) rfl
structure Pt where
  l : List CR
  a : Option Addr
  c : Nat
  js : List CJ
  bs : B
structure Pt.OK (s : Bs) (now : Int) (t : Pt) : Prop where
  ok : (s.at t.bs (t.js.map CJ.abs)).OK
  len : t.bs.length = s.bytes.length
  ll : t.l.length + t.js.length ≤ 32
  eq : pollL now s.bytes s.q = (t.l.map CR.abs ++ (pollL now t.bs (t.js.map CJ.abs)).1, (pollL now t.bs (t.js.map CJ.abs)).2)
section
variable (W0 : World) (Fr : List HProp)
theorem clone64 {a : Option Addr} {c : Nat} {bs : B} (hr : RdB W0 Fr a c bs) (hb : bs.length = 64) : Ctr Try.prog W0 38 [.slice a 64 c] Fr (fun m : Msg => m.b = bs) (fun m => m.cell) (fun m => m.own :: Fr) := by
  have := cloneB_spec W0 Fr hr (by omega)
  rw [hb] at this
  exact this
set_option maxHeartbeats 4000000 in
theorem poll_spec {b : Nat} {s : Bs} (now : Int) : Ctr Try.prog W0 20 [.pointer (some ⟨b, 0, none⟩), .int .i64 now] (Bl b s :: Fr) (fun r : Rqs => r.l.map CR.abs = (pollL now s.bytes s.q).1) (fun r => r.cell) (fun r => r.G ++ (Bl b (pollR s now) :: Fr)) := by
  refine Ctr.ex Ext.here bl_open ?_
  rintro ⟨js0, ba, bc, da, dc, qa, qc⟩ hx
  refine Ctr.imp star_open ?_
  have hln := hx.len
  have hok0 := hx.ok
  have hab := hx.abs
  have hql0 := hok0.ql
  dsimp only [BO, List.cons_append, List.nil_append] at hln hab ⊢
  refine Ctr.of_body Try.func20 rfl Try.ntmps20 rfl ?_
  refine CG.seq ?_
  refine CG.region ?_
  refine OG.yield (Yield.assign rfl) rfl ?_
  refine OG.nil ?_
  refine QG.then ?_
  refine CG.seq ?_
  refine CG.region ?_
  refine OG.yield (Yield.assign rfl) rfl ?_
  refine OG.nil ?_
  refine QG.then ?_
  refine CG.block ?_
  refine CG.loop (fun t : Pt => t.OK s now) (fun t => [(0, .pointer (some ⟨b, 0, none⟩)), (1, .int .i64 now), (5, .slice t.a t.l.length t.c)]) (fun t => BH b ba s.bytes.length bc da s.delays.length dc s.taken s.free qa t.js.length qc :: oby 5 ba bc t.bs :: onum 3 .i64 da dc s.delays :: ojobs qa qc t.js :: jpool t.js :: oreqs t.a t.c t.l :: pool (t.l.map CR.m) :: Fr) (fun t => t.js.length) ⟨[], none, 0, js0, s.bytes⟩ ⟨by rw [hab]; exact hok0, rfl, by dsimp only [List.length_nil]; omega, by rw [hab]; rfl⟩ (by repeat (first | exact Env.sub_nil _ | refine Env.sub_cons rfl ?_)) (Imp.trans pool_nil (Imp.trans (osl_nil (E := 40) (sz := 5)) (by repeat (first | exact Imp.refl _ | exact Imp.none _ | apply Imp.pull (by repeat (first | exact Ext.here | apply Ext.there)) | apply Imp.trans Imp.drop)))) ?_
  rintro ⟨l, la, lc, js, bs⟩ ⟨hok, hbl, hll, heq⟩
  dsimp only at hok hbl hll heq ⊢
  obtain ⟨nn, hbl2, hnn⟩ := hok0.len
  refine CG.block ?_
  refine CG.seq ?_
  rcases (show js = [] ∨ (∃ j js', js = j :: js' ∧ now < j.done) ∨ (∃ j js', js = j :: js' ∧ j.done ≤ now) by rcases js with _ | ⟨j, js⟩; exact .inl rfl; (rcases (show now < j.done ∨ j.done ≤ now by omega) with h | h; exact .inr (.inl ⟨j, js, rfl, h⟩); exact .inr (.inr ⟨j, js, rfl, h⟩))) with rfl | ⟨j, js, rfl, hh⟩ | ⟨j, js, rfl, hh⟩
  · skip
    skip
    refine CG.region ?_
    refine OG.yield (Yield.move rfl) rfl ?_
    refine OG.yield (Yield.nilCheck rfl) rfl ?_
    refine OG.yield (Yield.fieldAddr fa100_4 rfl) rfl ?_
    refine OG.callo call45 rfl (Imp.refl _) (first_none W0 _ (b := b) (a := qa) (c := qc) (Cel.of_blk (b := b) (by repeat (first | exact Ext.here | apply Ext.there)) rfl)) rfl ?_
    rintro ⟨⟩ -
    refine OG.yield (Yield.move rfl) rfl ?_
    refine OG.yield (Yield.extract rfl rfl) rfl ?_
    refine OG.yield (Yield.extract rfl rfl) rfl ?_
    refine OG.effd (Eff.alloc ti102) rfl ?_
    rintro b6 -
    refine OG.eff (Eff.storeAll ti102 rfl rfl (by repeat (first | exact Foc.here | apply Foc.there)) (CJ.len jz) (CJ.ones jz) rfl) rfl ?_
    rintro ⟨⟩ -
    refine OG.yield (Yield.assign rfl) rfl ?_
    refine OG.nil ?_
    refine QG.then ?_
    refine CG.seq ?_
    refine CG.seq ?_
    refine CG.region ?_
    refine OG.yield (Yield.move rfl) rfl ?_
    refine OG.yield (Yield.not rfl) rfl ?_
    refine OG.yield (Yield.move rfl) rfl ?_
    refine OG.guard_no rfl rfl rfl rfl rfl (by decide) (by decide) ?_
    refine OG.guard_no rfl rfl rfl rfl rfl (by decide) (by decide) ?_
    refine OG.guard_no rfl rfl rfl rfl rfl (by decide) (by decide) ?_
    refine OG.guard_no rfl rfl rfl rfl rfl (by decide) (by decide) ?_
    refine OG.yield (by first | exact Yield.pick_t rfl rfl | exact Yield.pick_f rfl rfl | exact Yield.pick rfl (fun _ => rfl) (fun _ => rfl)) rfl ?_
    refine OG.nil ?_
    refine QG.then ?_
    refine CG.cond_t rfl ?_
    refine CG.seq ?_
    refine CG.region ?_
    refine OG.yield (Yield.move rfl) rfl ?_
    refine OG.yield (Yield.assign rfl) rfl ?_
    refine OG.nil ?_
    refine QG.then ?_
    refine CG.ret ?_
    refine QG.pass_ret ?_
    refine QG.block_ret ?_
    refine QG.pass_ret ?_
    refine QG.block_ret ?_
    have hcl := bl_close (b := b) (G := Fr) (s := s.at bs []) ⟨[], ba, bc, da, dc, qa, qc⟩ ⟨rfl, hok⟩
    dsimp only [BO, Bs.at, List.cons_append, List.nil_append] at hcl
    rw [hbl] at hcl
    have he : pollL now s.bytes s.q = (l.map CR.abs, bs, []) := by rw [heq]; simp [pollL]
    exact QG.ret1 rfl rfl ⟨l, la, lc⟩ (by rw [he]) rfl (Imp.trans (Imp.pull (A := oreqs la lc l) (by repeat (first | exact Ext.here | apply Ext.there)) (Imp.pull (A := pool (l.map CR.m)) (by repeat (first | exact Ext.here | apply Ext.there)) (Imp.trans (by repeat (first | exact Imp.refl _ | exact Imp.none _ | apply Imp.pull (by repeat (first | exact Ext.here | apply Ext.there)) | apply Imp.trans Imp.drop)) hcl))) (Imp.cons (Imp.cons (by rw [show pollR s now = s.at bs [] by unfold pollR Bs.at; rw [he]]; exact Imp.refl _))))
  · skip
    simp only [List.length_cons] at hll
    refine CG.region ?_
    refine OG.yield (Yield.move rfl) rfl ?_
    refine OG.yield (Yield.nilCheck rfl) rfl ?_
    refine OG.yield (Yield.fieldAddr fa100_4 rfl) rfl ?_
    refine OG.callo call45 rfl (Imp.refl _) (first_some W0 _ (b := b) (a := qa) (c := qc) (j := j) (js := js) (Cel.of_blk (b := b) (by repeat (first | exact Ext.here | apply Ext.there)) rfl) (SlR.of_osl (by repeat (first | exact Ext.here | apply Ext.there))) (by omega)) rfl ?_
    rintro ⟨⟩ -
    refine OG.yield (Yield.move rfl) rfl ?_
    refine OG.yield (Yield.extract rfl rfl) rfl ?_
    refine OG.yield (Yield.extract rfl rfl) rfl ?_
    refine OG.effd (Eff.alloc ti102) rfl ?_
    rintro b6 -
    refine OG.eff (Eff.storeAll ti102 rfl rfl (by repeat (first | exact Foc.here | apply Foc.there)) (CJ.len j) (CJ.ones j) rfl) rfl ?_
    rintro ⟨⟩ -
    refine OG.yield (Yield.assign rfl) rfl ?_
    refine OG.nil ?_
    refine QG.then ?_
    refine CG.seq ?_
    refine CG.seq ?_
    refine CG.region ?_
    refine OG.yield (Yield.move rfl) rfl ?_
    refine OG.yield (Yield.not rfl) rfl ?_
    refine OG.yield (Yield.move rfl) rfl ?_
    refine OG.guard_yes rfl rfl rfl (by decide) ?_
    refine OG.yield (Yield.fieldAddr fa102_1 rfl) rfl ?_
    refine OG.guard_yes rfl rfl rfl (by decide) ?_
    refine OG.yield (Yield.load (v := .int .i64 j.done) ti3 rfl (Cel.of_blk (b := b6) (by repeat (first | exact Ext.here | apply Ext.there)) rfl)) rfl ?_
    refine OG.guard_yes rfl rfl rfl (by decide) ?_
    refine OG.yield (Yield.move rfl) rfl ?_
    refine OG.guard_yes rfl rfl rfl (by decide) ?_
    refine OG.yield (by first | exact Yield.as (Yield.gtr rfl rfl) (bT (by omega)) | exact Yield.as (Yield.gtr rfl rfl) (bF (by omega)) | exact Yield.gtr rfl rfl) rfl ?_
    refine OG.yield (by first | exact Yield.pick_t rfl rfl | exact Yield.pick_f rfl rfl | exact Yield.pick rfl (fun _ => rfl) (fun _ => rfl)) rfl ?_
    refine OG.nil ?_
    refine QG.then ?_
    refine CG.cond_t rfl ?_
    refine CG.seq ?_
    refine CG.region ?_
    refine OG.yield (Yield.move rfl) rfl ?_
    refine OG.yield (Yield.assign rfl) rfl ?_
    refine OG.nil ?_
    refine QG.then ?_
    refine CG.ret ?_
    refine QG.pass_ret ?_
    refine QG.block_ret ?_
    refine QG.pass_ret ?_
    refine QG.block_ret ?_
    have hcl := bl_close (b := b) (G := Fr) (s := s.at bs ((j :: js).map CJ.abs)) ⟨j :: js, ba, bc, da, dc, qa, qc⟩ ⟨rfl, hok⟩
    dsimp only [BO, Bs.at, List.cons_append, List.nil_append] at hcl
    rw [hbl] at hcl
    have he : pollL now s.bytes s.q = (l.map CR.abs, bs, (j :: js).map CJ.abs) := by rw [heq, List.map_cons, pollL_no (j := j.abs) hh]; simp
    exact QG.ret1 rfl rfl ⟨l, la, lc⟩ (by rw [he]) rfl (Imp.trans (Imp.pull (A := oreqs la lc l) (by repeat (first | exact Ext.here | apply Ext.there)) (Imp.pull (A := pool (l.map CR.m)) (by repeat (first | exact Ext.here | apply Ext.there)) (Imp.trans (by repeat (first | exact Imp.refl _ | exact Imp.none _ | apply Imp.pull (by repeat (first | exact Ext.here | apply Ext.there)) | apply Imp.trans Imp.drop)) hcl))) (Imp.cons (Imp.cons (by rw [show pollR s now = s.at bs ((j :: js).map CJ.abs) by unfold pollR Bs.at; rw [he]]; exact Imp.refl _))))
  · skip
    obtain ⟨n, hn, hnl⟩ := sec_room (j := j.abs) (q := js.map CJ.abs) hok
    have hdat := (hok.dat j.abs List.mem_cons_self).2
    have hdl := doJ_len (j := j.abs) (q := js.map CJ.abs) hok
    have hok2 := doJ_ok (j := j.abs) (q := js.map CJ.abs) hok
    have hpl := pollL_yes (now := now) (bs := bs) (j := j.abs) (q := js.map CJ.abs) hh
    simp only [List.length_cons] at hll
    refine CG.pure (fun w hw => shape_js (a := qa) (c := qc) (n := 0) (l := j :: js) (Nat.succ_pos _) (by repeat (first | exact Ext.here | apply Ext.there)) w hw) ?_
    rintro ⟨qb, qo, rfl⟩
    refine CG.pure (fun w hw => bytes_shape (a := ba) (c := bc) (bs := bs) (by omega) (by repeat (first | exact Ext.here | apply Ext.there)) w hw) ?_
    rintro ⟨bb, bo, rfl⟩
    refine CG.pure (fun w hw => osl_facts (a := some ⟨bb, bo, none⟩) (c := bc) (m := bs.length) (xs := bytesV bs) (sz := 1) (E := 5) (by repeat (first | exact Ext.here | apply Ext.there)) w hw) ?_
    rintro ⟨-, hbc⟩
    refine CG.region ?_
    refine OG.yield (Yield.move rfl) rfl ?_
    refine OG.yield (Yield.nilCheck rfl) rfl ?_
    refine OG.yield (Yield.fieldAddr fa100_4 rfl) rfl ?_
    refine OG.callo call45 rfl (Imp.refl _) (first_some W0 _ (b := b) (a := some ⟨qb, qo, none⟩) (c := qc) (j := j) (js := js) (Cel.of_blk (b := b) (by repeat (first | exact Ext.here | apply Ext.there)) rfl) (SlR.of_osl (by repeat (first | exact Ext.here | apply Ext.there))) (by omega)) rfl ?_
    rintro ⟨⟩ -
    refine OG.yield (Yield.move rfl) rfl ?_
    refine OG.yield (Yield.extract rfl rfl) rfl ?_
    refine OG.yield (Yield.extract rfl rfl) rfl ?_
    refine OG.effd (Eff.alloc ti102) rfl ?_
    rintro b6 -
    refine OG.eff (Eff.storeAll ti102 rfl rfl (by repeat (first | exact Foc.here | apply Foc.there)) (CJ.len j) (CJ.ones j) rfl) rfl ?_
    rintro ⟨⟩ -
    refine OG.yield (Yield.assign rfl) rfl ?_
    refine OG.nil ?_
    refine QG.then ?_
    refine CG.seq ?_
    refine CG.seq ?_
    refine CG.region ?_
    refine OG.yield (Yield.move rfl) rfl ?_
    refine OG.yield (Yield.not rfl) rfl ?_
    refine OG.yield (Yield.move rfl) rfl ?_
    refine OG.guard_yes rfl rfl rfl (by decide) ?_
    refine OG.yield (Yield.fieldAddr fa102_1 rfl) rfl ?_
    refine OG.guard_yes rfl rfl rfl (by decide) ?_
    refine OG.yield (Yield.load (v := .int .i64 j.done) ti3 rfl (Cel.of_blk (b := b6) (by repeat (first | exact Ext.here | apply Ext.there)) rfl)) rfl ?_
    refine OG.guard_yes rfl rfl rfl (by decide) ?_
    refine OG.yield (Yield.move rfl) rfl ?_
    refine OG.guard_yes rfl rfl rfl (by decide) ?_
    refine OG.yield (by first | exact Yield.as (Yield.gtr rfl rfl) (bT (by omega)) | exact Yield.as (Yield.gtr rfl rfl) (bF (by omega)) | exact Yield.gtr rfl rfl) rfl ?_
    refine OG.yield (by first | exact Yield.pick_t rfl rfl | exact Yield.pick_f rfl rfl | exact Yield.pick rfl (fun _ => rfl) (fun _ => rfl)) rfl ?_
    refine OG.nil ?_
    refine QG.then ?_
    refine CG.cond_f rfl ?_
    refine CG.skip ?_
    refine QG.then ?_
    refine CG.seq ?_
    refine CG.region ?_
    refine OG.yield (Yield.move rfl) rfl ?_
    refine OG.yield (Yield.nilCheck rfl) rfl ?_
    refine OG.yield (Yield.fieldAddr fa100_4 rfl) rfl ?_
    refine OG.callo call46 rfl (Imp.pull (A := BH b (some ⟨bb, bo, none⟩) s.bytes.length bc da s.delays.length dc s.taken s.free (some ⟨qb, qo, none⟩) (j :: js).length qc) (by repeat (first | exact Ext.here | apply Ext.there)) (Imp.pull (A := ojobs (some ⟨qb, qo, none⟩) qc (j :: js)) (by repeat (first | exact Ext.here | apply Ext.there)) (Imp.refl _))) (drop_spec W0 _ (b := b) (ba' := qb) (oa := qo) (ba := some ⟨bb, bo, none⟩) (bm := s.bytes.length) (bc := bc) (da := da) (dm := s.delays.length) (dc := dc) (taken := s.taken) (free := s.free) (qc := qc) (j := j) (js := js) (by omega)) rfl ?_
    rintro ⟨⟩ -
    refine OG.nil ?_
    refine QG.then ?_
    refine CG.seq ?_
    refine CG.region ?_
    refine OG.yield (Yield.fieldAddr fa102_0 rfl) rfl ?_
    refine OG.yield (Yield.load_agg (vs := j.r.cells) ti40 rfl (CR.len _) (Row.of_blk (b := b6) (by repeat (first | exact Ext.here | apply Ext.there)) rfl)) rfl ?_
    refine OG.effd (Eff.alloc ti40) rfl ?_
    rintro b8 -
    refine OG.eff (Eff.storeAll ti40 rfl rfl (by repeat (first | exact Foc.here | apply Foc.there)) (CR.len _) (CR.ones _) rfl) rfl ?_
    rintro ⟨⟩ -
    refine OG.nil ?_
    refine QG.then ?_
    refine CG.imp (Imp.trans (Imp.pull (A := jpool (j :: js)) (by repeat (first | exact Ext.here | apply Ext.there)) (Imp.refl _)) jp_head) ?_
    refine CG.cut (fun t : Msg × B => t.2 = doJ bs j.abs ∧ CR.abs { j.r with m := t.1 } = outJ bs j.abs) (fun _ => [(0, .pointer (some ⟨b, 0, none⟩)), (1, .int .i64 now), (5, .slice la l.length lc), (8, .pointer (some ⟨b8, 0, none⟩))]) (fun t => blk b8 (CR.cells { j.r with m := t.1 }) 40 :: t.1.own :: BH b (some ⟨bb, bo, none⟩) s.bytes.length bc da s.delays.length dc s.taken s.free (some ⟨qb, qo, none⟩) js.length qc :: oby 5 (some ⟨bb, bo, none⟩) bc t.2 :: onum 3 .i64 da dc s.delays :: ojobs (some ⟨qb, qo, none⟩) qc js :: jpool js :: oreqs la lc l :: pool (l.map CR.m) :: Fr) ?_ ?_
    · skip
      refine CG.seq ?_
      refine CG.region ?_
      refine OG.yield (Yield.fieldAddr fa40_2 rfl) rfl ?_
      refine OG.yield (Yield.load (v := .bool j.r.write) ti4 rfl (Cel.of_blk (b := b8) (by repeat (first | exact Ext.here | apply Ext.there)) rfl)) rfl ?_
      refine OG.nil ?_
      refine QG.then ?_
      refine CG.cond rfl (fun hc => ?_) (fun hc => ?_)
      · try replace hc := of_decide_eq_true hc
        have hwt : j.r.write = true := by simpa using hc
        have hd64 : j.m.b.length = 64 := hdat hwt
        refine CG.draw (.look 0 1 (.look 1 1 (.look 2 1 (.look 4 0 (.look 5 0 (.eff1 3 false (.eff1 6 false (.done)))))))) [3, 6] [] ([blk b8 j.r.cells 40]) ([]) mixed (by kernel_rfl) ((by repeat (first | exact Imp.refl _ | exact Imp.none _ | apply Imp.pull (by repeat (first | exact Ext.here | apply Ext.there)) | apply Imp.trans Imp.drop))) (Imp.none _) ?_
        refine DG.look rfl rfl (Yield.move rfl) rfl ?_
        refine DG.look rfl rfl (Yield.fieldAddr fa40_3 rfl) rfl ?_
        refine DG.look rfl rfl (Yield.load (v := .int .i64 (n : Int)) ti3 rfl (Cel.of_blk (b := b8) (by repeat (first | exact Ext.here | apply Ext.there)) (by rw [← hn]; rfl))) rfl ?_
        refine DG.look rfl rfl (Yield.fieldAddr fa40_4 rfl) rfl ?_
        refine DG.look rfl rfl (Yield.load (v := j.m.cell) ti36 rfl (Cel.of_blk (b := b8) (by repeat (first | exact Ext.here | apply Ext.there)) rfl)) rfl ?_
        refine DG.eff1 ?_
        refine Chg.callo rfl rfl call47 rfl (Imp.refl _) (sector_spec W0 _ (b := b) (m := s.bytes.length) (c := bc) (bb := bb) (bo := bo) (n := n) (Cel.of_blk (b := b) (by repeat (first | exact Ext.here | apply Ext.there)) rfl) (by omega) (by omega) (by omega)) rfl (fun _ => (by repeat (first | exact Imp.refl _ | exact Imp.none _ | apply Imp.pull (by repeat (first | exact Ext.here | apply Ext.there)) | apply Imp.trans Imp.drop))) (fun _ => Imp.refl _) (fun _ => (by repeat (first | exact Imp.refl _ | exact Imp.none _ | apply Imp.pull (by repeat (first | exact Ext.here | apply Ext.there)) | apply Imp.trans Imp.drop))) ?_
        rintro ⟨⟩ -
        refine DG.eff1 ?_
        refine Chg.eff rfl rfl (Eff.copyIn (b := bb) (o := bo) (j := 64 * n) (n := 64) (cn := bc - 64 * n) (k := j.m.b.length) (ys := bytesV j.m.b) rfl rfl rfl Try.underlying36 ti5 (by repeat (first | exact Foc.here | apply Foc.there)) (by omega) (SlR.of_osl (E := 5) (by repeat (first | exact Ext.here | apply Ext.there))) bytesV_one) rfl (fun _ => (by repeat (first | exact Imp.refl _ | exact Imp.none _ | apply Imp.pull (by repeat (first | exact Ext.here | apply Ext.there)) | apply Imp.trans Imp.drop))) (fun _ => Imp.refl _) (fun _ => (by repeat (first | exact Imp.refl _ | exact Imp.none _ | apply Imp.pull (by repeat (first | exact Ext.here | apply Ext.there)) | apply Imp.trans Imp.drop))) ?_
        rintro ⟨⟩ -
        rw [setS_eq hd64]
        refine DG.done ?_
        refine QG.mid (j.m, setS bs n j.m.b) ⟨by unfold doJ; rw [if_pos (show j.abs.r.write = true from hwt), hn]; rfl, by unfold outJ; rw [if_pos (show j.abs.r.write = true from hwt)]; rfl⟩ (by repeat (first | exact Env.sub_nil _ | refine Env.sub_cons rfl ?_)) ?_
        unfold oby
        rw [setS_len hd64 hnl]
        exact (by repeat (first | exact Imp.refl _ | exact Imp.none _ | apply Imp.pull (by repeat (first | exact Ext.here | apply Ext.there)) | apply Imp.trans Imp.drop))
      · try replace hc := of_decide_eq_false hc
        have hwf : j.r.write = false := by simpa using hc
        refine CG.region ?_
        refine OG.yield (Yield.move rfl) rfl ?_
        refine OG.yield (Yield.fieldAddr fa40_3 rfl) rfl ?_
        refine OG.yield (Yield.load (v := .int .i64 (n : Int)) ti3 rfl (Cel.of_blk (b := b8) (by repeat (first | exact Ext.here | apply Ext.there)) (by rw [← hn]; rfl))) rfl ?_
        refine OG.callo call47 rfl (Imp.refl _) (sector_spec W0 _ (b := b) (m := s.bytes.length) (c := bc) (bb := bb) (bo := bo) (n := n) (Cel.of_blk (b := b) (by repeat (first | exact Ext.here | apply Ext.there)) rfl) (by omega) (by omega) (by omega)) rfl ?_
        rintro ⟨⟩ -
        refine OG.callo call38 rfl (Imp.refl _) (clone64 W0 _ (a := some ⟨bb, bo + 64 * n, none⟩) (c := bc - 64 * n) (bs := getS bs n) (RdB.of_slR (by rw [getS_len hnl]; exact SlR.part (SlR.of_osl (E := 5) (a := some ⟨bb, bo, none⟩) (xs := bytesV bs) (by repeat (first | exact Ext.here | apply Ext.there))) (by rw [bytesV_drop, bytesV_take]; rfl) (by omega)) (by rw [getS_len hnl]; omega)) (getS_len hnl)) rfl ?_
        rintro m hm
        refine OG.yield (Yield.fieldAddr fa40_4 rfl) rfl ?_
        refine OG.eff (Eff.store1 ti36 rfl rfl (by repeat (first | exact Foc.here | apply Foc.there)) rfl (by show 4 < 5; decide)) rfl ?_
        rintro ⟨⟩ -
        refine OG.nil ?_
        exact QG.mid (m, bs) ⟨by unfold doJ; rw [if_neg (show ¬ j.abs.r.write = true by show ¬ j.r.write = true; rw [hwf]; decide)], by unfold outJ; rw [if_neg (show ¬ j.abs.r.write = true by show ¬ j.r.write = true; rw [hwf]; decide), hn]; simp [CR.abs, CJ.abs, hm]⟩ (by repeat (first | exact Env.sub_nil _ | refine Env.sub_cons rfl ?_)) (by repeat (first | exact Imp.refl _ | exact Imp.none _ | apply Imp.pull (by repeat (first | exact Ext.here | apply Ext.there)) | apply Imp.trans Imp.drop))
    rintro ⟨m, bs'⟩ ⟨hbs, hm⟩
    dsimp only at hbs hm ⊢
    refine CG.region ?_
    refine OG.yield (Yield.move rfl) rfl ?_
    refine OG.yield (Yield.load_agg (vs := CR.cells { j.r with m := m }) ti40 rfl (CR.len _) (Row.of_blk (b := b8) (by repeat (first | exact Ext.here | apply Ext.there)) rfl)) rfl ?_
    refine OG.effd (Eff.lit [.tmp 47] (vs := [.agg (CR.cells { j.r with m := m }).toArray]) (cells := CR.cells { j.r with m := m }) Try.underlying32 ti40 rfl rfl rfl rfl (by decide) (by simp [Value.cells, CR.cells]) (by simp [Value.cells])) rfl ?_
    rintro b48 -
    refine OG.effd (Eff.append (a := la) (c := lc) (m := l.length) (xs := (l.map CR.cells).flatten) (k := 1) (ys := CR.cells { j.r with m := m }) rfl rfl rfl Try.underlying32 Try.underlying32 ti40 rfl (by decide) (by repeat (first | exact Foc.here | apply Foc.there)) (SlR.of_osl (a := some ⟨b48, 0, none⟩) (by repeat (first | exact Ext.here | apply Ext.there))) (CR.ones _) (by omega)) rfl ?_
    rintro ⟨a49, c49⟩ -
    refine OG.yield (Yield.assign rfl) rfl ?_
    refine OG.nil ?_
    refine QG.block_normal ?_
    refine QG.next ⟨l ++ [{ j.r with m := m }], a49, c49, js, bs'⟩ ⟨by rw [hbs]; exact hok2, by show bs'.length = _; rw [hbs, hdl]; exact hbl, by simp only [List.length_append, List.length_cons, List.length_nil]; omega, ?_⟩ (by simp only [List.length_cons]; omega) (by dsimp only; rw [List.length_append]; exact (by repeat (first | exact Env.sub_nil _ | refine Env.sub_cons rfl ?_))) ?_
    · dsimp only; rw [heq, List.map_cons, hpl, hbs, List.map_append]; simp [hm]
    · dsimp only [oreqs]
      rw [List.length_append, flat_app]
      refine Imp.trans (Imp.pull (A := m.own) (by repeat (first | exact Ext.here | apply Ext.there)) (Imp.pull (A := pool (l.map CR.m)) (by repeat (first | exact Ext.here | apply Ext.there)) (Imp.refl _))) (Imp.trans pool_add ?_)
      rw [List.map_append]
      exact (by repeat (first | exact Imp.refl _ | exact Imp.none _ | apply Imp.pull (by repeat (first | exact Ext.here | apply Ext.there)) | apply Imp.trans Imp.drop))
end
end Go.Proofs.Ytoejnhfcegchhaa.Bk
