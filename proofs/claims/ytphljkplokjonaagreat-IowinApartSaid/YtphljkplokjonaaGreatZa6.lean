/- Rules for steps of the model, and what functions of the program do. -/
import Derived.Test.YtphljkplokjonaaGreatZa5
set_option linter.unusedVariables false
set_option linter.unusedSimpArgs false
set_option linter.unusedSectionVars false
set_option maxRecDepth 100000
namespace Go.Proofs.YtphljkplokjonaaGreat.Io
open Go Go.Sl Go.RowKit Go.Proofs Go.Proofs.YtphljkplokjonaaGreat.T Go.Proofs.YtphljkplokjonaaGreat.Sp Tryz
section
variable (W0 : World) (Fr : List HProp)
theorem submit_any {b : Nat} {s : Bk.Bs} {r : Vd.CR} {now : Int} (hr : RdB W0 Fr r.m.a r.m.c r.m.b) (hd : r.m.b.length ≤ Bk.dmax) (ht2 : s.taken ≤ 1073741824) :
 Ctr prog W0 78 [.pointer (some ⟨b, 0, none⟩), .agg r.cells.toArray, .int .i64 now] (Bk.Bl b s :: Fr) (fun _ : Unit => True) (fun _ => .int .i64 (Bk.subBE s r.write r.sector r.m.b.length now)) (fun _ => Bk.Bl b (subB now s r.abs) :: Fr) := by
 by_cases he : Bk.subBE s r.write r.sector r.m.b.length now = 0
 ·have h := Bk.submit_ok W0 Fr (b := b) (s := s) (r := r) (now := now) hr hd ht2 he
  have e : subB now s r.abs = Bk.subBR s r.abs now := if_pos he
  rw [e, he]; exact h
 ·have h := Bk.submit_bad W0 Fr (b := b) (s := s) (r := r) (now := now) he
  have e : subB now s r.abs = s := if_neg he
  rw [e]; exact h
abbrev nG (c9 c5 sb n u : Nat) (ms : List Po.Msg) (sz : Nat) (uq us : B) (G : List HProp) : List HProp :=
 blk c9 [.slice (some ⟨sb, 0, none⟩) n n] 67 :: blk c5 [.pointer (some ⟨u, 0, none⟩)] 60 :: osl 32 1 (some ⟨sb, 0, none⟩) n n (ms.map Po.Msg.cell) :: Po.pool ms :: Ua.U u sz uq us :: G
theorem note_spec {c9 c5 sb n u sz i : Nat} {ms : List Po.Msg} {uq us : B} {m0 m : Po.Msg} (hi : ms[i]? = some m0) (hn : ms.length = n) (hml : m.b.length ≤ 1000) (huq : uq.length ≤ sz) (hz : sz ≤ 256) :
 Ctr prog W0 75 [.int .i64 i, m.cell, .pointer (some ⟨c9, 0, none⟩), .pointer (some ⟨c5, 0, none⟩)] (m.own :: nG c9 c5 sb n u ms sz uq us Fr) (fun _ : Unit => True) (fun _ => .tuple #[]) (fun _ => nG c9 c5 sb n u (ms.set i m) sz (sndU sz uq m.b) us Fr) := by
 have hi' : i < n := by rcases List.getElem?_eq_some_iff.1 hi with ⟨h, _⟩; omega
 refine Ctr.of_body func75 J ntmps75 J ?_
 dsimp only [Po.Msg.cell]
 refine eZ (aZ (cZ (rZ ti67 J) ?_))
 refine dZ J (dZ J (cZ (nZ underlying67 ti32 J J (by omega) (by omega)) ?_))
 refine cX (Eff.storeElem (b := sb) (o := 0) (i := i) (v := m.cell) ti32 (by show _ = some (Value.pointer (some ⟨sb, 0 + i, none⟩)); rw [show 0 + i = 0 + (i : Int).toNat * 1 by omega]; rfl) J fC J (by omega)) J ?_
 rintro ⟨⟩ -
 refine fZ (bZ (aZ (cZ (rZ ti60 J) ?_)))
 refine dZ J (oZ call76 J (iM) (Ua.send_spec W0 _ (u := u) (sz := sz) (q := uq) (s := us) (ds := m.b) (a2 := m.a) (c2 := m.c) (by exact RdB.of_osl (E := 5) eX J J) (by omega) huq hz) J ?_)
 rintro ⟨⟩ -
 refine fZ (jV J () trivial J ?_)
 dsimp only [nG]
 rw [List.map_set]
 exact Imp.trans (B := m.own :: Po.pool ms :: blk c9 [.slice (some ⟨sb, 0, none⟩) n n] 67 :: blk c5 [.pointer (some ⟨u, 0, none⟩)] 60 :: osl 32 1 (some ⟨sb, 0, none⟩) n n ((ms.map Po.Msg.cell).set i m.cell) :: Ua.U u sz (sndU sz uq m.b) us :: Fr) iM (Imp.trans (pool_set hi) iM)
set_option maxHeartbeats 8000000 in
theorem serve_spec {u b lb lo lc sz : Nat} {xs : List PA} {ys : List PS} {uq us : B} {bs : Bk.Bs} {now : Int} (hl : SlR W0 Fr 4 (some ⟨lb, lo, none⟩) xs.length ((xs.map PA.cells).flatten)) (hxy : xs.length = ys.length) (hn : xs.length ≤ 1000) (huq : uq.length ≤ sz) (hz : sz ≤ 256) (hus : us.length ≤ 2 ^ 45)
 (ht : bs.taken + 4 * (xs.length : Int) ≤ 1073741824) :
 Ctr prog W0 22 [.slice (some ⟨lb, lo, none⟩) xs.length lc, .pointer (some ⟨u, 0, none⟩), .pointer (some ⟨b, 0, none⟩), .int .i64 now] (PL xs ys :: Ua.U u sz uq us :: Bk.Bl b bs :: Fr) (fun y : Po.End => y.bs = ys.map PS.out) (fun y => y.cell)
  (fun y => Po.oend y :: Po.pool y.ms :: PL xs (serY now ys bs) :: Ua.U u sz [] (us ++ sndAll sz uq (ys.map PS.out)) :: Bk.Bl b (serB now ys bs) :: Fr) := by
 refine Ctr.pure (fun w hw => pl_facts hxy Ext.here w hw) fun hpf => (Ctr.of_body func22 J ntmps22 J ?_)
 have hrow : ∀ {G : List HProp} {i : Nat} {x : PA}, Imp G Fr → xs[i]? = some x → Row W0 G lb (lo + i * 4) x.cells := fun hi hx => (hl.imp hi).elem PA.len hx
 refine eZ (aZ (jQ (sX J) J ?_))
 rintro b5 -
 refine gZ J (fZ (bZ (eZ (aZ (dZ J (cZ (lZ underlying59 J J) (jQ (Eff.makeSlice (n := (xs.length : Int)) underlying67 ti32 J (by decide) J (by omega) (by omega) (by omega)) J ?_)))))))
 rintro b19 -
 rw [Int.toNat_natCast, show (List.replicate xs.length (Value.slice none 0 0).cells.toList).flatten = (List.replicate xs.length nilM).map Po.Msg.cell by rw [List.map_replicate]; exact nil_cells _]
 refine jQ (lX ti67) J ?_
 rintro b9 -
 refine cX (aX ti67 J J fC J (by first | (simp; done) | decide)) J ?_
 rintro ⟨⟩ -
 refine fZ (bZ (eZ (aZ (cZ (nV (first := []) (cap := [.tmp 9, .tmp 5]) J J) (gZ J (fZ (bZ (eZ (eZ (aZ (dZ J (cZ (lZ underlying59 J J) (dZ J (fZ (bZ (fQ (iX (fun z : Nat × List Po.Msg => z.1 ≤ xs.length ∧ z.2.length = xs.length ∧ z.2.map Po.Msg.b = tkd (ys.map PS.out) (List.replicate xs.length []) z.1) (fun z => [(0, .slice (some ⟨lb, lo, none⟩) xs.length lc), (2, .pointer (some ⟨b, 0, none⟩)), (3, .int .i64 now), (5, .pointer (some ⟨b5, 0, none⟩)), (9, .pointer (some ⟨b9, 0, none⟩)), (10, .func (.func 75) ([] : List Value).toArray [.pointer (some ⟨b9, 0, none⟩), .pointer (some ⟨b5, 0, none⟩)].toArray), (22, .int .i64 xs.length), (23, .int .i64 z.1)]) (fun z => PL xs (tkd (ys.map dr) ys z.1) :: Bk.Bl b bs :: nG b9 b5 b19 xs.length u z.2 sz (sndAll sz uq ((ys.map PS.out).take z.1)) us Fr) (fun z => xs.length - z.1) (0, List.replicate xs.length nilM) ⟨Nat.zero_le _, List.length_replicate, by rw [List.map_replicate]; rfl⟩ eS (Imp.trans (pool_nils xs.length) iM) ?_)))))))))))))))))
 rintro ⟨i, ms⟩ ⟨hi, hml, hmb⟩
 dsimp only at hi hml hmb ⊢
 refine eZ (aZ (cZ bQ ?_))
 refine fZ (bZ (eZ (wQ J (fun hc => ?_) (fun hc => ?_))))
 ·try replace hc := odT hc
  have hi' : i < xs.length := by omega
  obtain ⟨x, hx⟩ : ∃ x, xs[i]? = some x := ⟨xs[i], by simp⟩
  obtain ⟨y, hy⟩ : ∃ y, ys[i]? = some y := ⟨ys[i]'(by omega), by simp⟩
  have hyg := tkd_at (l := ys.map dr) (by simp) hy
  have hys := tkd_set (l := ys.map dr) (z := ys) (i := i) (x := dr y) (by simp) (by rw [List.getElem?_map, hy]; rfl)
  obtain ⟨m0, hm0⟩ : ∃ m, ms[i]? = some m := ⟨ms[i]'(by omega), by simp⟩
  refine mX (pl_open hx hyg) (kX (fun w hw => con_facts (g := x.k) (out := y.out) (inn := y.inn) eX w hw) ?_)
  intro hcl
  refine wZ (bZ (eZ (fQ (eZ (aZ (dZ J (gZ J (fZ (bZ (aZ (dZ J (dZ J (dZ J (dZ J (cZ (nZ underlying59 ti58 J J (by omega) (by omega)) ?_)))))))))))))))
  refine pZ fa58_2 J (cZ (hZ (v := .pointer (some ⟨x.k, 0, none⟩)) ti55 J (by rw [show lo + (i : Int).toNat * 4 = lo + i * 4 by omega]; exact hrow iM hx 2 _ J)) ?_)
  refine oZ call61 J (iM) (Vc.drain_spec W0 _ (g := x.k) (out := y.out) (inn := y.inn)) J ?_
  rintro ⟨oa, oc⟩ -
  refine OG.callv (fi := []) (ca := [.pointer (some ⟨b9, 0, none⟩), .pointer (some ⟨b5, 0, none⟩)]) call75 J J iM (note_spec W0 (PX xs (tkd (ys.map dr) ys i) i :: Vi.V x.v y.q y.p y.at' y.set :: Vc.Con x.k [] y.inn :: Vd.D x.d y.d :: Bk.Bl b bs :: Fr) (m := ⟨oa, oc, y.out⟩) hm0 hml (by show y.out.length ≤ _; omega) (sndAll_len _ huq) hz) J ?_
  rintro ⟨⟩ -
  refine fZ (sZ (bZ (aZ (cZ (eQ J J wO) (dZ J (fZ (yQ (i + 1, ms.set i ⟨oa, oc, y.out⟩) ⟨by simp only; omega, by simp only [List.length_set]; omega, ?_⟩ (by simp only; omega) eS ?_)))))))
  ·show (ms.set i ⟨oa, oc, y.out⟩).map Po.Msg.b = _
   rw [List.map_set, hmb]
   exact tkd_set (by simp; omega) (by rw [List.getElem?_map, hy]; rfl)
  ·dsimp only [nG]
   rw [← hys, sndAll_succ (o := y.out) (by rw [List.getElem?_map, hy]; rfl)]
   exact Imp.trans iM (pl_shut (dr y) hx hyg)
 ·try replace hc := odF hc
  refine dX (yZ (yZ (oQ (bZ (eZ ?_)))))
  obtain rfl : i = xs.length := by omega
  rw [tkd_all (by simp; omega) (by simp)] at hmb
  rw [tkd_all (by simp) (by omega)]
  have hul := sndAll_len (sz := sz) (ys.map PS.out) huq
  rw [show (ys.map PS.out).take xs.length = ys.map PS.out from List.take_of_length_le (by simp; omega)]
  refine aZ (cZ (hZ (v := .pointer (some ⟨u, 0, none⟩)) ti60 J (Cel.of_blk eX J)) ?_)
  refine oZ call77 J (iM) (Ua.drain_spec W0 _ (u := u) (sz := sz) (q := sndAll sz uq (ys.map PS.out)) (s := us) 256 (by omega) (by omega)) J ?_
  rintro ⟨⟩ -
  rw [Ua.kOf_all (by omega), List.drop_length, List.take_length]
  refine fZ (bZ (eZ (eZ (aZ (dZ J (cZ (lZ underlying59 J J) (dZ J (fZ (bZ (fQ (iX (fun i : Nat => i ≤ xs.length) (fun i => [(0, .slice (some ⟨lb, lo, none⟩) xs.length lc), (2, .pointer (some ⟨b, 0, none⟩)), (3, .int .i64 now), (9, .pointer (some ⟨b9, 0, none⟩)), (39, .int .i64 xs.length), (40, .int .i64 i)]) (fun i => PL xs (tkd ((ys.map dr).map isu) (ys.map dr) i) :: Bk.Bl b (issB now bs ((ys.map dr).take i)) :: nG b9 b5 b19 xs.length u ms sz [] (us ++ sndAll sz uq (ys.map PS.out)) Fr) (fun i => xs.length - i) 0 (Nat.zero_le _) eS iM ?_)))))))))))
  rintro i hi
  have htk := issB_taken (now := now) ((ys.map dr).take i) (b := bs) (fun z hz => by
   obtain ⟨z0, hz0, rfl⟩ := List.mem_map.1 (List.mem_of_mem_take hz)
   have h1 := issR_len (s := z0.d)
   have h2 := (hpf z0 hz0).1.asks
   show (Vd.issR z0.d).length ≤ 4
   omega)
  have hlt : ((ys.map dr).take i).length = i := by simp; omega
  rw [hlt] at htk
  refine eZ (aZ (cZ bQ ?_))
  refine fZ (bZ (eZ (wQ J (fun hc => ?_) (fun hc => ?_))))
  ·try replace hc := odT hc
   have hi' : i < xs.length := by omega
   obtain ⟨x, hx⟩ : ∃ x, xs[i]? = some x := ⟨xs[i], by simp⟩
   obtain ⟨y, hy⟩ : ∃ y, (ys.map dr)[i]? = some y := ⟨_, List.getElem?_eq_getElem (by simp; omega)⟩
   have hyg := tkd_at (l := (ys.map dr).map isu) (by simp) hy
   have hys := tkd_set (l := (ys.map dr).map isu) (z := ys.map dr) (i := i) (x := isu y) (by simp) (by rw [List.getElem?_map, hy]; rfl)
   refine mX (pl_open hx hyg) (kX (fun w hw => Vd.d_facts (d := x.d) (s := y.d) eX w hw) ?_)
   intro hdk
   refine wZ (bZ (eZ (fQ (eZ (aZ (dZ J (gZ J (fZ (bZ (eZ (aZ (dZ J (dZ J (cZ (nZ underlying59 ti58 J J (by omega) (by omega)) ?_))))))))))))))
   refine pZ fa58_3 J (cZ (hZ (v := .pointer (some ⟨x.d, 0, none⟩)) ti56 J (by rw [show lo + (i : Int).toNat * 4 = lo + i * 4 by omega]; exact hrow iM hx 3 _ J)) ?_)
   refine oZ call42 J (iM) (Vd.issue_spec W0 _ (d := x.d) (s := y.d)) J ?_
   rintro ⟨l, la, lc2⟩ hrl
   dsimp only [Vd.Rqs.G, Vd.Rqs.ms, Vd.Rqs.cell, List.cons_append, List.nil_append] at hrl ⊢
   have hll : l.length ≤ 4 ∧ ∀ cr ∈ l, cr.m.b.length ≤ 64 := iss_facts hdk hrl
   refine cZ (lZ underlying98 J J) (dZ J (fZ (bZ (fQ (iX (fun j : Nat => j ≤ l.length) (fun j => [(0, .slice (some ⟨lb, lo, none⟩) xs.length lc), (2, .pointer (some ⟨b, 0, none⟩)), (3, .int .i64 now), (9, .pointer (some ⟨b9, 0, none⟩)), (39, .int .i64 xs.length), (40, .int .i64 i), (48, .slice la l.length lc2), (49, .int .i64 l.length), (50, .int .i64 j)]) (fun j => Bk.Bl b (((Vd.issR y.d).take j).foldl (subB now) (issB now bs ((ys.map dr).take i))) :: Vd.oreqs la lc2 l :: Ms.pool (l.map Vd.CR.m) :: Vi.V x.v y.q y.p y.at' y.set :: Vc.Con x.k y.out y.inn :: Vd.D x.d (Vd.issS y.d) :: PX xs (tkd ((ys.map dr).map isu) (ys.map dr) i) i :: nG b9 b5 b19 xs.length u ms sz [] (us ++ sndAll sz uq (ys.map PS.out)) Fr) (fun j => l.length - j) 0 (Nat.zero_le _) eS iM ?_)))))
   rintro j hj
   have htj := subs_taken (now := now) ((Vd.issR y.d).take j) (b := issB now bs ((ys.map dr).take i))
   have hlj : ((Vd.issR y.d).take j).length ≤ j := by simp; omega
   refine eZ (aZ (cZ bQ ?_))
   refine fZ (bZ (eZ (wQ J (fun hc => ?_) (fun hc => ?_))))
   ·try replace hc := odT hc
    have hj' : j < l.length := by omega
    obtain ⟨cr, hcr⟩ : ∃ cr, l[j]? = some cr := ⟨l[j], by simp⟩
    have hra : (Vd.issR y.d)[j]? = some cr.abs := by rw [← hrl, List.getElem?_map, hcr]; rfl
    have hcm : cr.m.b.length ≤ 64 := hll.2 cr (List.mem_of_getElem? hcr)
    refine kX (fun w hw => SlR.elem_shape (i := j) (SlR.of_osl (W0 := W0) (E := 101) (a := la) (c := lc2) eX) Vd.CR.len (by decide) hj' w hw) ?_
    rintro ⟨bl, ol, rfl⟩
    refine wZ (bZ (eZ (fQ (eZ (aZ (cZ (nZ underlying98 ti101 J J (by omega) (by omega)) ?_))))))
    refine cZ (tQ (vs := Vd.CR.cells cr) ti101 J J (by rw [show ol + (j : Int).toNat * 5 = ol + j * 5 by omega]; exact SlR.elem (SlR.of_osl (E := 101) (a := some ⟨bl, ol, none⟩) (c := lc2) eX) Vd.CR.len hcr)) ?_
    refine jQ (lX ti101) J ?_
    rintro b14 -
    refine cX (gX ti101 J J fC J (by simp [Vd.CR.cells, one, Ms.Msg.cell]) J) J ?_
    rintro ⟨⟩ -
    refine fZ (bZ (aZ (dZ J (cZ (tQ (vs := Vd.CR.cells cr) ti101 J J (Row.of_blk (b := b14) eX (by simp [Vd.CR.cells]))) ?_))))
    refine dZ J (oZ call78 J (iM) (submit_any W0 _ (b := b) (s := ((Vd.issR y.d).take j).foldl (subB now) (issB now bs ((ys.map dr).take i))) (r := cr) (now := now) (Ms.pool_rd (ms := l.map Vd.CR.m) eX (List.mem_map_of_mem (List.mem_of_getElem? hcr))) (by unfold Bk.dmax; omega) (by omega)) J ?_)
    rintro ⟨⟩ -
    rw [← fold_succ (f := subB now) hra]
    exact fZ (sZ (bZ (aZ (cZ (eQ J J wO) (dZ J (fZ (yQ (j + 1) (by omega) (by omega) eS iM)))))))
   ·try replace hc := odF hc
    refine dX (yZ (yZ (oQ (sZ (bZ (aZ (cZ (eQ J J wO) (dZ J (fZ ?_)))))))))
    obtain rfl : j = l.length := by omega
    rw [show (Vd.issR y.d).take l.length = Vd.issR y.d by rw [← hrl, ← List.length_map (f := Vd.CR.abs), List.take_length], ← issB_succ hy]
    refine yQ (i + 1) (by omega) (by omega) eS ?_
    rw [← hys]
    exact Imp.trans iM (pl_shut (isu y) hx hyg)
  ·try replace hc := odF hc
   refine dX (yZ (yZ (oQ (bZ (eZ (eZ ?_))))))
   obtain rfl : i = xs.length := by omega
   rw [tkd_all (by simp) (by simp; omega), show (ys.map dr).take xs.length = ys.map dr from List.take_of_length_le (by simp; omega), issB_dr]
   refine kX (fun w hw => Bk.bl_facts (b := b) eX w hw) ?_
   intro hbk
   refine aZ (dZ J (dZ J (oZ call79 J (iM) (Bk.poll_spec W0 _ (b := b) (s := issB now bs ys) now) J ?_)))
   rintro ⟨l, la, lc2⟩ hrl
   dsimp only [Vd.Rqs.G, Vd.Rqs.ms, Vd.Rqs.cell, List.cons_append, List.nil_append] at hrl ⊢
   have hpd := poll_dat (now := now) (m := Bk.dmax) (by unfold Bk.dmax; decide) (issB now bs ys).q (issB now bs ys).bytes (fun j hj => (hbk.dat j hj).1)
   have hpl := pollL_len (now := now) (issB now bs ys).q (issB now bs ys).bytes
   rw [← hrl] at hpd hpl
   rw [List.length_map] at hpl
   have hql := hbk.ql
   have hlc : ∀ cr ∈ l, cr.m.b.length ≤ Bk.dmax := fun cr h => hpd cr.abs (List.mem_map_of_mem h)
   refine cZ (lZ underlying98 J J) (dZ J (fZ (bZ (fQ (iX (fun j : Nat => j ≤ l.length) (fun j => [(0, .slice (some ⟨lb, lo, none⟩) xs.length lc), (9, .pointer (some ⟨b9, 0, none⟩)), (62, .slice la l.length lc2), (63, .int .i64 l.length), (64, .int .i64 j)]) (fun j => PL xs (((l.map Vd.CR.abs).take j).foldl comP ((ys.map dr).map isu)) :: Bk.Bl b (Bk.pollR (issB now bs ys) now) :: Vd.oreqs la lc2 l :: Ms.pool (l.map Vd.CR.m) :: nG b9 b5 b19 xs.length u ms sz [] (us ++ sndAll sz uq (ys.map PS.out)) Fr) (fun j => l.length - j) 0 (Nat.zero_le _) eS iM ?_)))))
   rintro j hj
   refine eZ (aZ (cZ bQ ?_))
   refine fZ (bZ (eZ (wQ J (fun hc => ?_) (fun hc => ?_))))
   ·try replace hc := odT hc
    have hj' : j < l.length := by omega
    obtain ⟨cr, hcr⟩ : ∃ cr, l[j]? = some cr := ⟨l[j], by simp⟩
    have hra : (l.map Vd.CR.abs)[j]? = some cr.abs := by rw [List.getElem?_map, hcr]; rfl
    have hcm : cr.m.b.length ≤ Bk.dmax := hlc cr (List.mem_of_getElem? hcr)
    unfold Bk.dmax at hcm
    have hln : (((l.map Vd.CR.abs).take j).foldl comP ((ys.map dr).map isu)).length = xs.length := by rw [coms_len]; simp; omega
    have hfs := fold_succ (f := comP) (b := (ys.map dr).map isu) hra
    generalize ((l.map Vd.CR.abs).take j).foldl comP ((ys.map dr).map isu) = zs at hln hfs
    refine kX (fun w hw => SlR.elem_shape (i := j) (SlR.of_osl (W0 := W0) (E := 101) (a := la) (c := lc2) eX) Vd.CR.len (by decide) hj' w hw) ?_
    rintro ⟨bl, ol, rfl⟩
    refine wZ (bZ (eZ (fQ (eZ (aZ (cZ (nZ underlying98 ti101 J J (by omega) (by omega)) ?_))))))
    refine cZ (tQ (vs := Vd.CR.cells cr) ti101 J J (by rw [show ol + (j : Int).toNat * 5 = ol + j * 5 by omega]; exact SlR.elem (SlR.of_osl (E := 101) (a := some ⟨bl, ol, none⟩) (c := lc2) eX) Vd.CR.len hcr)) ?_
    refine jQ (lX ti101) J ?_
    rintro b16 -
    refine cX (gX ti101 J J fC J (by simp [Vd.CR.cells, one, Ms.Msg.cell]) J) J ?_
    rintro ⟨⟩ -
    refine fZ (bZ (eZ ?_))
    rcases (show cr.part < 0 ∨ (0 ≤ cr.part ∧ cr.part < xs.length) ∨ (0 ≤ cr.part ∧ (xs.length : Int) ≤ cr.part) by omega) with q | q | q
    ·rw [show comP zs cr.abs = zs from if_neg (by show ¬ 0 ≤ cr.part; omega)] at hfs
     refine aZ (pZ fa101_0 J (cZ (hZ (v := .int .i64 cr.part) ti3 J (Cel.of_blk (b := b16) eX J)) ?_))
     refine cZ (dQ (zX J J) (v' := .bool false) (bF (by omega))) ?_
     refine dZ J (iQ J J J J J (iQ J J J J J (iQ J J J J J (iQ J J J J J (iQ J J J J J (cZ jZ ?_))))))
     exact fZ (bZ (qZ J (wZ (sZ (bZ (aZ (cZ (eQ J J wO) (dZ J (fZ (yQ (j + 1) (by omega) (by omega) eS (by rw [hfs]; exact iM)))))))))))
    ·obtain ⟨pn, hpn⟩ : ∃ pn : Nat, cr.part = pn := ⟨cr.part.toNat, by omega⟩
     obtain ⟨x, hx⟩ : ∃ x, xs[pn]? = some x := ⟨xs[pn]'(by omega), List.getElem?_eq_getElem (by omega)⟩
     obtain ⟨y, hy⟩ : ∃ y, zs[pn]? = some y := ⟨zs[pn]'(by omega), List.getElem?_eq_getElem (by omega)⟩
     rw [show comP zs cr.abs = zs.set pn (comY cr.abs y) by unfold comP; rw [if_pos (by show 0 ≤ cr.part; omega), show cr.abs.part.toNat = pn by show cr.part.toNat = pn; omega]; exact mod_at hy] at hfs
     refine aZ (pZ fa101_0 J (cZ (hZ (v := .int .i64 cr.part) ti3 J (Cel.of_blk (b := b16) eX J)) ?_))
     refine cZ (dQ (zX J J) (v' := .bool true) (bT (by omega))) ?_
     refine dZ J (iZ J J (pZ fa101_0 J (iZ J J (cZ (hZ (v := .int .i64 cr.part) ti3 J (Cel.of_blk (b := b16) eX J)) ?_))))
     refine iZ J J (dZ J (iZ J J (cZ (lZ underlying59 J J) (iZ J J (cZ (dQ (uX J J) (v' := .bool true) (bT (by omega))) ?_)))))
     refine cZ jZ ?_
     refine fZ (bZ (gQ J (mX (Imp.trans (B := PL xs zs :: _) iM (pl_open hx hy)) ?_)))
     refine sQ (.lo 0 1 (.lo 1 1 (.lo 2 1 (.lo 3 1 (.lo 4 1 (.lo 5 1 (.lo 6 1 (.eff1 7 false (.done))))))))) [7] [] ([]) ([]) mixed (by kernel_rfl) (Imp.none _) (Imp.none _) (mZ J J (aQ J fa101_0 J (kZ J (hZ (v := .int .i64 (pn : Int)) ti3 J (Cel.of_blk (b := b16) eX (by show some (Value.int .i64 cr.part) = _; rw [hpn]))) ?_)))
     refine kZ J (nZ underlying59 ti58 J J (by omega) (by omega)) ?_
     refine aQ J fa58_3 J (kZ J (hZ (v := .pointer (some ⟨x.d, 0, none⟩)) ti56 J (by rw [show lo + (pn : Int).toNat * 4 = lo + pn * 4 by omega]; exact hrow iM hx 3 _ J)) ?_)
     refine kZ J (tQ (vs := Vd.CR.cells cr) ti101 J J (Row.of_blk (b := b16) eX (by simp [Vd.CR.cells]))) ?_
     refine zZ (kQ J J call63 J (iM) (Vd.complete_spec W0 _ (d := x.d) (s := y.d) (r := cr) (Ms.pool_rd (ms := l.map Vd.CR.m) eX (List.mem_map_of_mem (List.mem_of_getElem? hcr))) (by omega)) J (fun _ => iM) (fun _ => Imp.refl _) (fun _ => iM) ?_)
     rintro ⟨⟩ -
     exact qQ (sZ (bZ (aZ (cZ (eQ J J wO) (dZ J (fZ (yQ (j + 1) (by omega) (by omega) eS (by rw [hfs]; exact Imp.trans iM (pl_shut (comY cr.abs y) hx hy)))))))))
    ·rw [show comP zs cr.abs = zs by unfold comP; rw [if_pos (by show 0 ≤ cr.part; omega)]; exact mod_out (by show zs.length ≤ cr.part.toNat; omega)] at hfs
     refine aZ (pZ fa101_0 J (cZ (hZ (v := .int .i64 cr.part) ti3 J (Cel.of_blk (b := b16) eX J)) ?_))
     refine cZ (dQ (zX J J) (v' := .bool true) (bT (by omega))) ?_
     refine dZ J (iZ J J (pZ fa101_0 J (iZ J J (cZ (hZ (v := .int .i64 cr.part) ti3 J (Cel.of_blk (b := b16) eX J)) ?_))))
     refine iZ J J (dZ J (iZ J J (cZ (lZ underlying59 J J) (iZ J J (cZ (dQ (uX J J) (v' := .bool false) (bF (by omega))) ?_)))))
     refine cZ jZ ?_
     exact fZ (bZ (qZ J (wZ (sZ (bZ (aZ (cZ (eQ J J wO) (dZ J (fZ (yQ (j + 1) (by omega) (by omega) eS (by rw [hfs]; exact iM)))))))))))
   ·try replace hc := odF hc
    refine dX (yZ (yZ (oQ (bZ (eZ (aZ (cZ (hZ (v := .slice (some ⟨b19, 0, none⟩) xs.length xs.length) ti67 J (Cel.of_blk (b := b9) eX J)) ?_)))))))
    refine gZ J (fZ (bZ (tZ ?_)))
    obtain rfl : j = l.length := by omega
    rw [← List.length_map (f := Vd.CR.abs), List.take_length, hrl]
    refine xZ J J (⟨some ⟨b19, 0, none⟩, xs.length, ms⟩ : Po.End) hmb (by show _ = Value.slice _ ms.length _; rw [hml]) ?_
    dsimp only [nG]
    rw [show Po.oend ⟨some ⟨b19, 0, none⟩, xs.length, ms⟩ = osl 32 1 (some ⟨b19, 0, none⟩) xs.length xs.length (ms.map Po.Msg.cell) by show osl _ 1 _ xs.length ms.length _ = _; rw [hml]]
    exact iM
end
structure Inp where
 Major : Int
 Part : Int
 Bytesa : Option Go.Addr
 Bytesc : Nat
 Bytes : List UInt8
def Inp.cells (o : Inp) : List Value := [.int .i64 o.Major, .int .i64 o.Part, .slice o.Bytesa o.Bytes.length o.Bytesc]
structure Inp.OK (W : World) (o : Inp) : Prop where
 mk ::
 Major : (Lit.int .i64 o.Major).wf = true
 Part : (Lit.int .i64 o.Part).wf = true
 Bytesc : o.Bytes.length ≤ o.Bytesc
 Bytes : SlAt W 1 o.Bytesa o.Bytes.length (bytesV o.Bytes)
 Bytesm : o.Bytes.length ≤ reachBytes
theorem Inp.opn (W : World) : Opn prog W 75 (fun cs => ∃ o : Inp, cs = o.cells ∧ o.OK W) := (Opn.of_fields underlying75 (by kernel_rfl) (by kernel_rfl) (.cons (s := 1) (Opn.int underlying3) (.cons (s := 1) (Opn.int underlying3) (.cons (s := 1) (Opn.bytes underlying32 underlying5 (by kernel_rfl) (by kernel_rfl)) .nil)))).mono fun cs h => by
 obtain ⟨_, _, rfl, _, ⟨xMajor, rfl, wMajor⟩, ⟨_, _, rfl, _, ⟨xPart, rfl, wPart⟩, ⟨_, _, rfl, _, ⟨xBytesa, xBytesc, xBytes, rfl, wBytesc, wBytes, wBytesm⟩, rfl⟩⟩⟩ := h
 exact ⟨⟨xMajor, xPart, xBytesa, xBytesc, xBytes⟩, rfl, ⟨wMajor, wPart, wBytesc, wBytes, wBytesm⟩⟩
theorem Inp.len (o : Inp) : o.cells.length = 3 := rfl
theorem Inp.ones (o : Inp) : ∀ v ∈ o.cells, one v = true := by simp [Inp.cells, one]
theorem Inp.list (W : World) : Opn prog W 70 (fun cs => ∃ a c, ∃ xs : List Inp, cs = [.slice a xs.length c] ∧ xs.length ≤ c ∧ (∀ x ∈ xs, Inp.OK W x) ∧ SlAt W 3 a xs.length ((xs.map Inp.cells).flatten) ∧ xs.length * 40 ≤ reachBytes) :=
 Opn.recs (sz := 3) (by' := 40) underlying70 (by kernel_rfl) (by decide) (by kernel_rfl) (Inp.opn W)
def quP (line : Int) (y : PS) : PS := { y with q := if 0 ≤ line ∧ line < 8 then Vi.setBit y.q line.toNat true else y.q }
def tellP (ys : List PS) (part line : Int) : List PS := if 0 ≤ part then ys.modify part.toNat (quP line) else ys
def telC (cfs : List Po.Cf) (ys : List PS) (c : Int) : List PS := match cfs[c.toNat]? with | some f => tellP ys f.To 3 | none => ys
def fedP (b : B) (y : PS) : PS := { y with inn := y.inn ++ b.take (64 - y.inn.length), q := if 0 < min b.length (64 - y.inn.length) then Vi.setBit y.q 1 true else y.q }
def feedI (major : Int) (ys : List PS) (x : Inp) : List PS := if x.Major = major ∧ 0 ≤ x.Part then ys.modify x.Part.toNat (fedP x.Bytes) else ys
def rdJ (major : Int) (y : PS) (j : Nat) : PS := { y with d := Vd.rdyS y.d major, q := if j = 0 then y.q else Vi.setBit y.q 2 true }
def rdY (major : Int) (y : PS) : PS := rdJ major y (Vd.rdyL y.d major).length
def rdO (i : Nat) (o : Ob) (dns : List Vd.Dn) : Ob := dns.foldl (fun o dn => if dn.write then o else (outR o i dn.addr.toNat dn.data).2) o
def rdN (major : Int) (ys : List PS) (o : Ob) : Nat → Ob
 | 0 => o
 | i + 1 => match ys[i]? with | some y => rdO i (rdN major ys o i) (Vd.rdyL y.d major) | none => rdN major ys o i
theorem rdN_succ {major : Int} {ys : List PS} {o : Ob} {i : Nat} {y : PS} (h : ys[i]? = some y) : rdN major ys o (i + 1) = rdO i (rdN major ys o i) (Vd.rdyL y.d major) := by
 show (match ys[i]? with | some y => _ | none => _) = _
 rw [h]
theorem setBit_two (q i : Nat) : Vi.setBit (Vi.setBit q i true) i true = Vi.setBit q i true := by
 apply Nat.eq_of_testBit_eq
 intro j
 rw [Vi.setBit_test, Vi.setBit_test]; split <;> rfl
theorem tellP_len {ys : List PS} {part line : Int} : (tellP ys part line).length = ys.length := by unfold tellP; split <;> simp
theorem tellP_at {ys : List PS} {pn : Nat} {line : Int} {y : PS} (h : ys[pn]? = some y) : tellP ys (pn : Int) line = ys.set pn (quP line y) := by
 unfold tellP; rw [if_pos (by omega), Int.toNat_natCast]; exact mod_at h
theorem telC_len {cfs : List Po.Cf} {ys : List PS} {c : Int} : (telC cfs ys c).length = ys.length := by unfold telC; split <;> first | exact tellP_len | rfl
theorem telCs_len {cfs : List Po.Cf} : ∀ (l : List Int) {ys : List PS}, (l.foldl (telC cfs) ys).length = ys.length
 | [], _ => rfl
 | c :: l, ys => by show (l.foldl (telC cfs) (telC cfs ys c)).length = _; rw [telCs_len l, telC_len]
theorem feedI_len {major : Int} {ys : List PS} {x : Inp} : (feedI major ys x).length = ys.length := by unfold feedI; split <;> simp
theorem feeds_len {major : Int} : ∀ (l : List Inp) {ys : List PS}, (l.foldl (feedI major) ys).length = ys.length
 | [], _ => rfl
 | x :: l, ys => by show (l.foldl (feedI major) (feedI major ys x)).length = _; rw [feeds_len l, feedI_len]
theorem mod_all {α : Type} {P : α → Prop} {f : α → α} {l : List α} {i : Nat} (h : ∀ y ∈ l, P y) (hf : ∀ y, P y → P (f y)) : ∀ y ∈ l.modify i f, P y := fun y hy => by
 obtain ⟨j, hj⟩ := List.getElem?_of_mem hy
 rw [List.getElem?_modify] at hj
 cases hl : l[j]? with
 | none => rw [hl] at hj; simp at hj
 | some z =>
  rw [hl] at hj
  have hz := h z (List.mem_of_getElem? hl)
  have hj' : (if i = j then f z else z) = y := by simpa using hj
  subst hj'
  split
  ·exact hf z hz
  ·exact hz
def AdOK (y : PS) : Prop := ∀ a ∈ y.d.asks, 0 ≤ a.addr ∧ a.addr < 4294967296
theorem telC_all {P : PS → Prop} {cfs : List Po.Cf} {ys : List PS} {c : Int} (h : ∀ y ∈ ys, P y) (hf : ∀ y, P y → P (quP 3 y)) : ∀ y ∈ telC cfs ys c, P y := by
 unfold telC; split
 ·unfold tellP; split
  ·exact mod_all h hf
  ·exact h
 ·exact h
theorem telCs_all {P : PS → Prop} {cfs : List Po.Cf} (hf : ∀ y, P y → P (quP 3 y)) : ∀ (l : List Int) {ys : List PS}, (∀ y ∈ ys, P y) → ∀ y ∈ l.foldl (telC cfs) ys, P y
 | [], _, h => h
 | c :: l, ys, h => telCs_all hf l (telC_all (c := c) h hf)
theorem feedI_all {P : PS → Prop} {major : Int} {ys : List PS} {x : Inp} (h : ∀ y ∈ ys, P y) (hf : ∀ y b, P y → P (fedP b y)) : ∀ y ∈ feedI major ys x, P y := by
 unfold feedI; split
 ·exact mod_all h (fun y hy => hf y _ hy)
 ·exact h
theorem feeds_all {P : PS → Prop} {major : Int} (hf : ∀ y b, P y → P (fedP b y)) : ∀ (l : List Inp) {ys : List PS}, (∀ y ∈ ys, P y) → ∀ y ∈ l.foldl (feedI major) ys, P y
 | [], _, h => h
 | x :: l, ys, h => feeds_all hf l (feedI_all (x := x) h hf)
theorem rdyL_addr {y : PS} {major : Int} (h : AdOK y) : ∀ dn ∈ Vd.rdyL y.d major, 0 ≤ dn.addr ∧ dn.addr < 4294967296 := fun dn hdn => by
 unfold Vd.rdyL at hdn
 rw [List.mem_map] at hdn
 obtain ⟨a, ha, rfl⟩ := hdn
 exact h a (List.mem_filter.1 ha).1
theorem rdyL_len {s : Vd.Ds} {major : Int} : (Vd.rdyL s major).length ≤ s.asks.length := by unfold Vd.rdyL; rw [List.length_map]; exact List.length_filter_le _ _
def SL (m f t : Nat) (xs : List PA) : HProp := Star (xs.mapIdx fun i x => sb x.s i x.r m f t)
def SX (m f t : Nat) (xs : List PA) (i : Nat) : HProp := Star ((xs.mapIdx fun i x => sb x.s i x.r m f t).eraseIdx i)
theorem sl_get {m f t : Nat} {xs : List PA} {i : Nat} {x : PA} (h : xs[i]? = some x) : (xs.mapIdx fun i x => sb x.s i x.r m f t)[i]? = some (sb x.s i x.r m f t) := by rw [List.getElem?_mapIdx, h]; rfl
theorem sl_open {m f t : Nat} {xs : List PA} {i : Nat} {x : PA} {G : List HProp} (h : xs[i]? = some x) : Imp (SL m f t xs :: G) (sb x.s i x.r m f t :: SX m f t xs i :: G) := star_take (sl_get h)
theorem sl_shut {m f t : Nat} {xs : List PA} {i : Nat} {x : PA} {G : List HProp} (h : xs[i]? = some x) : Imp (sb x.s i x.r m f t :: SX m f t xs i :: G) (SL m f t xs :: G) := by
 have := star_put (L := xs.mapIdx fun i x => sb x.s i x.r m f t) (i := i) (A := sb x.s i x.r m f t) (B := sb x.s i x.r m f t) (G := G) (sl_get h)
 rw [Po.set_self (sl_get h)] at this; exact this
def begZ (major : Int) (cfs : List Po.Cf) (acs : List Po.AC) (ins : List Inp) (ys : List PS) : List PS := ins.foldl (feedI major) ((Po.wentI acs acs.length).foldl (telC cfs) ys)
def begY (major : Int) (cfs : List Po.Cf) (acs : List Po.AC) (ins : List Inp) (ys : List PS) : List PS := (begZ major cfs acs ins ys).map (rdY major)
def begO (major : Int) (cfs : List Po.Cf) (acs : List Po.AC) (ins : List Inp) (ys : List PS) (o : Ob) : Ob := rdN major (begZ major cfs acs ins ys) o ys.length
theorem begZ_len {major : Int} {cfs : List Po.Cf} {acs : List Po.AC} {ins : List Inp} {ys : List PS} : (begZ major cfs acs ins ys).length = ys.length := by unfold begZ; rw [feeds_len, telCs_len]
theorem begY_len {major : Int} {cfs : List Po.Cf} {acs : List Po.AC} {ins : List Inp} {ys : List PS} : (begY major cfs acs ins ys).length = ys.length := by unfold begY; rw [List.length_map, begZ_len]
theorem rdJ_tell {zs : List PS} {major : Int} {y : PS} {i j : Nat} (h : i < zs.length) : tellP (zs.set i (rdJ major y j)) (i : Int) 2 = zs.set i (rdJ major y (j + 1)) := by
 rw [tellP_at (List.getElem?_set_self h), List.set_set]
 congr 1
 unfold quP rdJ
 rw [if_pos (by decide), if_neg (Nat.succ_ne_zero j), show (2 : Int).toNat = 2 from J]
 by_cases q : j = 0
 ·simp [q]
 ·simp [q, setBit_two]
theorem went_nat {acs : List Po.AC} {i : Nat} : ∀ c ∈ Po.wentI acs i, ∃ k : Nat, c = k := fun c hc => by
 unfold Po.wentI at hc
 rw [List.mem_map] at hc
 obtain ⟨k, _, rfl⟩ := hc
 exact ⟨k, rfl⟩
def rtX (xs : List PA) (k : Nat) : Option Nat := (xs[k]?).map PA.r
theorem rtX_at {xs : List PA} {i : Nat} {x : PA} (h : xs[i]? = some x) : rtX xs i = some x.r := by unfold rtX; rw [h]; rfl
section
variable (W0 : World) (Fr : List HProp)
theorem tell_spec {c5 lb lo lc : Nat} {xs : List PA} {ys : List PS} (part line : Int) (hl : SlR W0 Fr 4 (some ⟨lb, lo, none⟩) xs.length ((xs.map PA.cells).flatten)) (hxy : xs.length = ys.length) (hn : xs.length ≤ 1000) :
 Ctr prog W0 80 [.int .i64 part, .int .i64 line, .pointer (some ⟨c5, 0, none⟩)] (PL xs ys :: blk c5 [.slice (some ⟨lb, lo, none⟩) xs.length lc] 59 :: Fr) (fun _ : Unit => True) (fun _ => .tuple #[]) (fun _ => PL xs (tellP ys part line) :: blk c5 [.slice (some ⟨lb, lo, none⟩) xs.length lc] 59 :: Fr) := by
 have hrow : ∀ {G : List HProp} {i : Nat} {x : PA}, Imp G Fr → xs[i]? = some x → Row W0 G lb (lo + i * 4) x.cells := fun hi hx => (hl.imp hi).elem PA.len hx
 refine Ctr.of_body func80 J ntmps80 J (eZ ?_)
 rcases (show part < 0 ∨ (0 ≤ part ∧ part < xs.length) ∨ (0 ≤ part ∧ (xs.length : Int) ≤ part) by omega) with q | q | q
 ·rw [show tellP ys part line = ys from if_neg (by omega)]
  refine aZ (dZ J (cZ (dQ (zX J J) (v' := .bool false) (bF (by omega))) ?_))
  refine dZ J (iQ J J J J J (iQ J J J J J (iQ J J J J J (iQ J J J J J (cZ jZ ?_)))))
  exact fZ (bZ (qZ J (wZ (jV J () trivial J iM))))
 ·obtain ⟨pn, rfl⟩ : ∃ pn : Nat, part = pn := ⟨part.toNat, by omega⟩
  obtain ⟨x, hx⟩ : ∃ x, xs[pn]? = some x := ⟨xs[pn]'(by omega), List.getElem?_eq_getElem (by omega)⟩
  obtain ⟨y, hy⟩ : ∃ y, ys[pn]? = some y := ⟨ys[pn]'(by omega), List.getElem?_eq_getElem (by omega)⟩
  rw [tellP_at hy]
  refine aZ (dZ J (cZ (dQ (zX J J) (v' := .bool true) (bT (by omega))) ?_))
  refine dZ J (iZ J J (dZ J (iZ J J (cZ (hZ (v := .slice (some ⟨lb, lo, none⟩) xs.length lc) ti59 J (Cel.of_blk eX J)) ?_))))
  refine iZ J J (cZ (lZ underlying59 J J) (iZ J J (cZ (dQ (uX J J) (v' := .bool true) (bT (by omega))) ?_)))
  refine cZ jZ ?_
  refine fZ (bZ (gQ J (mX (pl_open hx hy) (aZ (cZ (hZ (v := .slice (some ⟨lb, lo, none⟩) xs.length lc) ti59 J (Cel.of_blk eX J)) ?_)))))
  refine dZ J (cZ (nZ underlying59 ti58 J J (by omega) (by omega)) ?_)
  refine pZ fa58_1 J (cZ (hZ (v := .pointer (some ⟨x.v, 0, none⟩)) ti54 J (by rw [show lo + (pn : Int).toNat * 4 = lo + pn * 4 by omega]; exact hrow iM hx 1 _ J)) ?_)
  refine dZ J (oZ call62 J (iM) (Vi.queue_spec W0 _ (v := x.v) (q := y.q) (p := y.p) (a := y.at') (s := y.set) line) J ?_)
  rintro ⟨⟩ -
  exact fZ (jV J () trivial J (Imp.trans iM (pl_shut (quP line y) hx hy)))
 ·rw [show tellP ys part line = ys by unfold tellP; rw [if_pos q.1]; exact mod_out (by omega)]
  refine aZ (dZ J (cZ (dQ (zX J J) (v' := .bool true) (bT (by omega))) ?_))
  refine dZ J (iZ J J (dZ J (iZ J J (cZ (hZ (v := .slice (some ⟨lb, lo, none⟩) xs.length lc) ti59 J (Cel.of_blk eX J)) ?_))))
  refine iZ J J (cZ (lZ underlying59 J J) (iZ J J (cZ (dQ (uX J J) (v' := .bool false) (bF (by omega))) ?_)))
  refine cZ jZ ?_
  exact fZ (bZ (qZ J (wZ (jV J () trivial J iM))))
set_option maxHeartbeats 8000000 in
theorem begin_spec {p lb lo lc cb co cc m f t n c ic : Nat} {ia : Option Addr} {xs : List PA} {ys : List PS} {cfs : List Po.Cf} {acs : List Po.AC} {ins : List Inp} {qs : List Int} {o : Ob} {σ : St} (major : Int)
 (hl : SlR W0 Fr 4 (some ⟨lb, lo, none⟩) xs.length ((xs.map PA.cells).flatten)) (hcf : SlR W0 Fr 5 (some ⟨cb, co, none⟩) cfs.length ((cfs.map Po.Cf.cells).flatten)) (his : SlR W0 Fr 3 ia ins.length ((ins.map Inp.cells).flatten))
 (hib : ∀ x ∈ ins, RdB W0 Fr x.Bytesa x.Bytesc x.Bytes ∧ x.Bytes.length ≤ 2 ^ 48) (hin : ins.length ≤ 2 ^ 60) (hxy : xs.length = ys.length) (hn : xs.length ≤ 1000) (hcl : cfs.length ≤ 1000) (hal : acs.length ≤ 1000) (had : ∀ y ∈ ys, AdOK y)
 (L : Lk n qs (rtX xs) o c σ) (hcc : c ≤ 100000000000000000) :
 Ctr prog W0 24 [.slice (some ⟨lb, lo, none⟩) xs.length lc, .slice (some ⟨cb, co, none⟩) cfs.length cc, .pointer (some ⟨p, 0, none⟩), .slice ia ins.length ic, .int .i64 major] (PL xs ys :: Po.Po p acs :: SL m f t xs :: WG m f t n qs σ Fr)
  (fun σ' : St => Lk n qs (rtX xs) (begO major cfs acs ins ys o) (c + 32768 * xs.length) σ') (fun _ => .tuple #[]) (fun σ' => PL xs (begY major cfs acs ins ys) :: Po.Po p (acs.map Po.AC.tr) :: SL m f t xs :: WG m f t n qs σ' Fr) := by
 have hrow : ∀ {G : List HProp} {i : Nat} {x : PA}, Imp G Fr → xs[i]? = some x → Row W0 G lb (lo + i * 4) x.cells := fun hi hx => (hl.imp hi).elem PA.len hx
 have hwl := Po.wentI_len acs acs.length
 have hwn := went_nat (acs := acs) (i := acs.length)
 obtain ⟨went, hwent⟩ : ∃ w, w = Po.wentI acs acs.length := ⟨_, rfl⟩
 obtain ⟨z1, hz1⟩ : ∃ z, z = went.foldl (telC cfs) ys := ⟨_, rfl⟩
 obtain ⟨z2, hz2⟩ : ∃ z, z = ins.foldl (feedI major) z1 := ⟨_, rfl⟩
 have hzz : begZ major cfs acs ins ys = z2 := by rw [hz2, hz1, hwent]; rfl
 have h1l : z1.length = xs.length := by rw [hz1, telCs_len]; omega
 have h2l : z2.length = xs.length := by rw [hz2, feeds_len]; omega
 have had2 : ∀ y ∈ z2, AdOK y := by rw [hz2, hz1]; exact feeds_all (fun y b h => h) _ (telCs_all (fun y h => h) _ had)
 rw [← hwent] at hwl hwn
 unfold begY begO
 rw [hzz, ← hxy]
 refine Ctr.of_body func24 J ntmps24 J ?_
 dsimp only [WG]
 refine eZ (aZ (jQ (sX J) J ?_))
 rintro b5 -
 refine fZ (bZ (eZ (aZ (cZ (nV (first := []) (cap := [.tmp 5]) J J) (gZ J (fZ (bZ (eZ (eZ (aZ (dZ J (oZ call45 J (iM) (Po.transfer_spec W0 _ (p := p) (acs := acs)) J ?_))))))))))))
 rintro ⟨ja, jc⟩ -
 rw [← hwent]
 refine cZ (lZ underlying80 J J) (dZ J (fZ (bZ (fQ (iX (fun j : Nat => j ≤ went.length) (fun j => [(0, .slice (some ⟨lb, lo, none⟩) xs.length lc), (1, .slice (some ⟨cb, co, none⟩) cfs.length cc), (3, .slice ia ins.length ic), (4, .int .i64 major), (5, .pointer (some ⟨b5, 0, none⟩)), (10, .func (.func 80) ([] : List Value).toArray [.pointer (some ⟨b5, 0, none⟩)].toArray), (20, .slice ja went.length jc), (21, .int .i64 went.length), (22, .int .i64 j)]) (fun j => PL xs ((went.take j).foldl (telC cfs) ys) :: blk b5 [.slice (some ⟨lb, lo, none⟩) xs.length lc] 59 :: Po.oins ja jc went :: Po.Po p (acs.map Po.AC.tr) :: SL m f t xs :: WG m f t n qs σ Fr) (fun j => went.length - j) 0 (Nat.zero_le _) eS iM ?_)))))
 rintro j hj
 dsimp only [WG]
 refine eZ (aZ (cZ bQ ?_))
 refine fZ (bZ (eZ (wQ J (fun hc => ?_) (fun hc => ?_))))
 ·try replace hc := odT hc
  have hj' : j < went.length := by omega
  obtain ⟨w, hw⟩ : ∃ w, went[j]? = some w := ⟨went[j], by simp⟩
  obtain ⟨k, rfl⟩ := hwn w (List.mem_of_getElem? hw)
  have hln : ((went.take j).foldl (telC cfs) ys).length = xs.length := by rw [telCs_len]; omega
  have hfs := fold_succ (f := telC cfs) (b := ys) hw
  generalize (went.take j).foldl (telC cfs) ys = zs at hln hfs
  refine kX (fun w' hw' => SlR.shape (SlR.of_osl (W0 := W0) (E := 3) (a := ja) (c := jc) (m := went.length) (xs := Po.oint went) eX) (fun q => by have := congrArg List.length q; simp [Po.oint] at this; rw [this] at hj'; simp at hj') w' hw') ?_
  rintro ⟨jb, jo, rfl⟩
  refine wZ (bZ (eZ (fQ (eZ (aZ (cZ (nZ underlying80 ti3 J J (by omega) (by omega)) ?_))))))
  refine cZ (hZ (v := .int .i64 (k : Int)) ti3 J (by rw [show jo + (j : Int).toNat * 1 = jo + j by omega]; exact (SlR.of_osl (E := 3) (a := some ⟨jb, jo, none⟩) eX).cel (by unfold Po.oint; rw [List.getElem?_map, hw]; rfl))) ?_
  refine gZ J (fZ (bZ (eZ (aZ (dZ J (dZ J (cZ (lZ underlying72 J J) (cZ bQ ?_))))))))
  refine fZ (bZ (wQ J (fun hc => ?_) (fun hc => ?_)))
  ·try replace hc := odT hc
   have hk : k < cfs.length := by omega
   obtain ⟨cf, hcf1⟩ : ∃ q, cfs[k]? = some q := ⟨cfs[k], by simp⟩
   rw [show telC cfs zs (k : Int) = tellP zs cf.To 3 by unfold telC; rw [Int.toNat_natCast, hcf1]] at hfs
   refine aZ (dZ J (dZ J (dZ J (cZ (nZ underlying72 ti156 J J (by omega) (by omega)) ?_))))
   refine pZ fa156_2 J (cZ (hZ (v := .int .i64 cf.To) ti3 J (by rw [show co + (k : Int).toNat * 5 = co + k * 5 by omega]; exact ((hcf.imp iM).elem Po.Cf.len hcf1) 2 _ J)) ?_)
   refine OG.callv (fi := []) (ca := [.pointer (some ⟨b5, 0, none⟩)]) call80 J J iM (tell_spec W0 (Po.oins (some ⟨jb, jo, none⟩) jc went :: Po.Po p (acs.map Po.AC.tr) :: SL m f t xs :: WG m f t n qs σ Fr) (xs := xs) (ys := zs) (lc := lc) (c5 := b5) cf.To 3 (hl.imp iM) (by omega) hn) J ?_
   rintro ⟨⟩ -
   exact fZ (sZ (bZ (aZ (cZ (eQ J J wO) (dZ J (fZ (yQ (j + 1) (by omega) (by omega) eS (by rw [hfs]; exact iM))))))))
  ·try replace hc := odF hc
   have hk : cfs.length ≤ k := by omega
   rw [show telC cfs zs (k : Int) = zs by unfold telC; rw [Int.toNat_natCast, List.getElem?_eq_none hk]] at hfs
   exact wZ (sZ (bZ (aZ (cZ (eQ J J wO) (dZ J (fZ (yQ (j + 1) (by omega) (by omega) eS (by rw [hfs]; exact iM))))))))
 ·try replace hc := odF hc
  refine dX (yZ (yZ (oQ (bZ (eZ (eZ ?_))))))
  obtain rfl : j = went.length := by omega
  rw [List.take_length, ← hz1]
  refine aZ (dZ J (cZ (lZ underlying70 J J) (dZ J (fZ (bZ (fQ (iX (fun j : Nat => j ≤ ins.length) (fun j => [(0, .slice (some ⟨lb, lo, none⟩) xs.length lc), (4, .int .i64 major), (5, .pointer (some ⟨b5, 0, none⟩)), (10, .func (.func 80) ([] : List Value).toArray [.pointer (some ⟨b5, 0, none⟩)].toArray), (38, .slice ia ins.length ic), (39, .int .i64 ins.length), (40, .int .i64 j)]) (fun j => PL xs ((ins.take j).foldl (feedI major) z1) :: blk b5 [.slice (some ⟨lb, lo, none⟩) xs.length lc] 59 :: Po.Po p (acs.map Po.AC.tr) :: SL m f t xs :: WG m f t n qs σ Fr) (fun j => ins.length - j) 0 (Nat.zero_le _) eS iM ?_)))))))
  rintro j hj
  dsimp only [WG]
  refine eZ (aZ (cZ bQ ?_))
  refine fZ (bZ (eZ (wQ J (fun hc => ?_) (fun hc => ?_))))
  ·try replace hc := odT hc
   have hj' : j < ins.length := by omega
   obtain ⟨xi, hxi⟩ : ∃ w, ins[j]? = some w := ⟨ins[j], by simp⟩
   obtain ⟨hxb, hxl⟩ := hib xi (List.mem_of_getElem? hxi)
   have hln : ((ins.take j).foldl (feedI major) z1).length = xs.length := by rw [feeds_len]; omega
   have hfs := fold_succ (f := feedI major) (b := z1) hxi
   generalize (ins.take j).foldl (feedI major) z1 = zs at hln hfs
   refine kX (fun w' hw' => SlR.elem_shape (i := j) (his.imp (G := PL xs zs :: blk b5 [.slice (some ⟨lb, lo, none⟩) xs.length lc] 59 :: Po.Po p (acs.map Po.AC.tr) :: SL m f t xs :: WG m f t n qs σ Fr) iM) Inp.len (by decide) hj' w' hw') ?_
   rintro ⟨ib, io, rfl⟩
   refine wZ (bZ (eZ (fQ (eZ (aZ (cZ (nZ underlying70 ti75 J J (by omega) (by omega)) ?_))))))
   refine cZ (tQ (vs := Inp.cells xi) ti75 J J (by rw [show io + (j : Int).toNat * 3 = io + j * 3 by omega]; exact (his.imp iM).elem Inp.len hxi)) ?_
   refine jQ (lX ti75) J ?_
   rintro b14 -
   refine cX (gX ti75 J J fC J (Inp.ones _) J) J ?_
   rintro ⟨⟩ -
   refine fZ (bZ (eZ ?_))
   rcases (show xi.Major ≠ major ∨ (xi.Major = major ∧ xi.Part < 0) ∨ (xi.Major = major ∧ 0 ≤ xi.Part ∧ (xs.length : Int) ≤ xi.Part) ∨ (xi.Major = major ∧ 0 ≤ xi.Part ∧ xi.Part < xs.length) by omega) with q | q | q | q
   ·rw [show feedI major zs xi = zs from if_neg (fun h => q h.1)] at hfs
    refine sQ (.lo 0 1 (.lo 1 1 (.lo 2 1 (.lo 3 1 (.lo 4 1 (.lo 5 1 (.lo 6 1 (.lo 7 1 (.lo 8 1 (.lo 9 1 (.lo 10 1 (.lo 11 1 (.lo 12 1 (.lo 13 1 (.lo 14 1 (.lo 15 1 (.lo 16 1 (.lo 17 1 (.lo 18 1 (.lo 19 1 (.lo 20 1 (.lo 21 1 (.lo 22 1 (.lo 23 1 (.lo 24 1 (.eff1 25 false (.lo 26 1 (.lo 27 1 (.done))))))))))))))))))))))))))))) [25] [] ([]) ([]) mixed (by kernel_rfl) (Imp.none _) (Imp.none _) (aQ J fa75_0 J (kZ J (hZ (v := .int .i64 xi.Major) ti3 J (Cel.of_blk (b := b14) eX J)) ?_))
    refine mZ J J (kZ J (dQ (bX J J) (v' := .bool false) (bF q)) (mZ J J (lQ J J J (lQ J J J (lQ J J J (kZ J jZ ?_))))))
    refine mZ J J (lQ J J J (lQ J J J (lQ J J J (lQ J J J (lQ J J J (kZ J jZ ?_))))))
    refine mZ J J (lQ J J J (lQ J J J (lQ J J J (lQ J J J (lQ J J J (lQ J J J (lQ J J J (lQ J J J (zZ (Chg.pass J J J ?_ iM iM))))))))))
    refine lQ J J J (kZ J jZ ?_)
    exact qQ (bZ (qZ J (wZ (sZ (bZ (aZ (cZ (eQ J J wO) (dZ J (fZ (yQ (j + 1) (by omega) (by omega) eS (by rw [hfs]; exact iM)))))))))))
   ·rw [show feedI major zs xi = zs from if_neg (fun h => by omega)] at hfs
    refine sQ (.lo 0 1 (.lo 1 1 (.lo 2 1 (.lo 3 1 (.lo 4 1 (.lo 5 1 (.lo 6 1 (.lo 7 1 (.lo 8 1 (.lo 9 1 (.lo 10 1 (.lo 11 1 (.lo 12 1 (.lo 13 1 (.lo 14 1 (.lo 15 1 (.lo 16 1 (.lo 17 1 (.lo 18 1 (.lo 19 1 (.lo 20 1 (.lo 21 1 (.lo 22 1 (.lo 23 1 (.lo 24 1 (.eff1 25 false (.lo 26 1 (.lo 27 1 (.done))))))))))))))))))))))))))))) [25] [] ([]) ([]) mixed (by kernel_rfl) (Imp.none _) (Imp.none _) (aQ J fa75_0 J (kZ J (hZ (v := .int .i64 xi.Major) ti3 J (Cel.of_blk (b := b14) eX J)) ?_))
    refine mZ J J (kZ J (dQ (bX J J) (v' := .bool true) (bT q.1)) (mZ J J (aQ J fa75_1 J (kZ J (hZ (v := .int .i64 xi.Part) ti3 J (Cel.of_blk (b := b14) eX J)) ?_))))
    refine kZ J (dQ (zX J J) (v' := .bool false) (bF (by omega))) ?_
    refine kZ J jZ ?_
    refine mZ J J (lQ J J J (lQ J J J (lQ J J J (lQ J J J (lQ J J J (kZ J jZ ?_))))))
    refine mZ J J (lQ J J J (lQ J J J (lQ J J J (lQ J J J (lQ J J J (lQ J J J (lQ J J J (lQ J J J (zZ (Chg.pass J J J ?_ iM iM))))))))))
    refine lQ J J J (kZ J jZ ?_)
    exact qQ (bZ (qZ J (wZ (sZ (bZ (aZ (cZ (eQ J J wO) (dZ J (fZ (yQ (j + 1) (by omega) (by omega) eS (by rw [hfs]; exact iM)))))))))))
   ·rw [show feedI major zs xi = zs by unfold feedI; rw [if_pos ⟨q.1, q.2.1⟩]; exact mod_out (by omega)] at hfs
    refine sQ (.lo 0 1 (.lo 1 1 (.lo 2 1 (.lo 3 1 (.lo 4 1 (.lo 5 1 (.lo 6 1 (.lo 7 1 (.lo 8 1 (.lo 9 1 (.lo 10 1 (.lo 11 1 (.lo 12 1 (.lo 13 1 (.lo 14 1 (.lo 15 1 (.lo 16 1 (.lo 17 1 (.lo 18 1 (.lo 19 1 (.lo 20 1 (.lo 21 1 (.lo 22 1 (.lo 23 1 (.lo 24 1 (.eff1 25 false (.lo 26 1 (.lo 27 1 (.done))))))))))))))))))))))))))))) [25] [] ([]) ([]) mixed (by kernel_rfl) (Imp.none _) (Imp.none _) (aQ J fa75_0 J (kZ J (hZ (v := .int .i64 xi.Major) ti3 J (Cel.of_blk (b := b14) eX J)) ?_))
    refine mZ J J (kZ J (dQ (bX J J) (v' := .bool true) (bT q.1)) (mZ J J (aQ J fa75_1 J (kZ J (hZ (v := .int .i64 xi.Part) ti3 J (Cel.of_blk (b := b14) eX J)) ?_))))
    refine kZ J (dQ (zX J J) (v' := .bool true) (bT (by omega))) ?_
    refine kZ J jZ ?_
    refine mZ J J (aQ J fa75_1 J (kZ J (hZ (v := .int .i64 xi.Part) ti3 J (Cel.of_blk (b := b14) eX J)) ?_))
    refine kZ J (hZ (v := .slice (some ⟨lb, lo, none⟩) xs.length lc) ti59 J (Cel.of_blk (b := b5) eX J)) ?_
    refine kZ J (lZ underlying59 J J) (kZ J (dQ (uX J J) (v' := .bool false) (bF (by omega))) ?_)
    refine kZ J jZ ?_
    refine mZ J J (lQ J J J (lQ J J J (lQ J J J (lQ J J J (lQ J J J (lQ J J J (lQ J J J (lQ J J J (zZ (Chg.pass J J J ?_ iM iM))))))))))
    refine lQ J J J (kZ J jZ ?_)
    exact qQ (bZ (qZ J (wZ (sZ (bZ (aZ (cZ (eQ J J wO) (dZ J (fZ (yQ (j + 1) (by omega) (by omega) eS (by rw [hfs]; exact iM)))))))))))
   ·obtain ⟨pn, hpn⟩ : ∃ pn : Nat, xi.Part = pn := ⟨xi.Part.toNat, by omega⟩
    obtain ⟨x, hx⟩ : ∃ x, xs[pn]? = some x := ⟨xs[pn]'(by omega), List.getElem?_eq_getElem (by omega)⟩
    obtain ⟨y, hy⟩ : ∃ y, zs[pn]? = some y := ⟨zs[pn]'(by omega), List.getElem?_eq_getElem (by omega)⟩
    rw [show feedI major zs xi = zs.set pn (fedP xi.Bytes y) by unfold feedI; rw [if_pos ⟨q.1, q.2.1⟩, hpn, Int.toNat_natCast]; exact mod_at hy] at hfs
    refine mX (Imp.trans (B := PL xs zs :: _) iM (pl_open hx hy)) ?_
    refine sQ (.lo 0 1 (.lo 1 1 (.lo 2 1 (.lo 3 1 (.lo 4 1 (.lo 5 1 (.lo 6 1 (.lo 7 1 (.lo 8 1 (.lo 9 1 (.lo 10 1 (.lo 11 1 (.lo 12 1 (.lo 13 1 (.lo 14 1 (.lo 15 1 (.lo 16 1 (.lo 17 1 (.lo 18 1 (.lo 19 1 (.lo 20 1 (.lo 21 1 (.lo 22 1 (.lo 23 1 (.lo 24 1 (.eff1 25 false (.lo 26 1 (.lo 27 1 (.done))))))))))))))))))))))))))))) [25] [] ([]) ([]) mixed (by kernel_rfl) (Imp.none _) (Imp.none _) (aQ J fa75_0 J (kZ J (hZ (v := .int .i64 xi.Major) ti3 J (Cel.of_blk (b := b14) eX J)) ?_))
    refine mZ J J (kZ J (dQ (bX J J) (v' := .bool true) (bT q.1)) (mZ J J (aQ J fa75_1 J (kZ J (hZ (v := .int .i64 xi.Part) ti3 J (Cel.of_blk (b := b14) eX J)) ?_))))
    refine kZ J (dQ (zX J J) (v' := .bool true) (bT (by omega))) ?_
    refine kZ J jZ ?_
    refine mZ J J (aQ J fa75_1 J (kZ J (hZ (v := .int .i64 xi.Part) ti3 J (Cel.of_blk (b := b14) eX J)) ?_))
    refine kZ J (hZ (v := .slice (some ⟨lb, lo, none⟩) xs.length lc) ti59 J (Cel.of_blk (b := b5) eX J)) ?_
    refine kZ J (lZ underlying59 J J) (kZ J (dQ (uX J J) (v' := .bool true) (bT (by omega))) ?_)
    refine kZ J jZ ?_
    refine mZ J J (kZ J (hZ (v := .slice (some ⟨lb, lo, none⟩) xs.length lc) ti59 J (Cel.of_blk (b := b5) eX J)) ?_)
    refine aQ J fa75_1 J (kZ J (hZ (v := .int .i64 (pn : Int)) ti3 J (Cel.of_blk (b := b14) eX (by show some (Value.int .i64 xi.Part) = _; rw [hpn]))) ?_)
    refine kZ J (nZ underlying59 ti58 J J (by omega) (by omega)) ?_
    refine aQ J fa58_2 J (kZ J (hZ (v := .pointer (some ⟨x.k, 0, none⟩)) ti55 J (by rw [show lo + (pn : Int).toNat * 4 = lo + pn * 4 by omega]; exact hrow iM hx 2 _ J)) ?_)
    refine aQ J fa75_2 J (kZ J (hZ (v := .slice xi.Bytesa xi.Bytes.length xi.Bytesc) ti32 J (Cel.of_blk (b := b14) eX J)) ?_)
    refine zZ (kQ J J call60 J (iM) (Vc.feedB W0 _ (g := x.k) (out := y.out) (inn := y.inn) (ds := xi.Bytes) (a2 := xi.Bytesa) (c2 := xi.Bytesc) (hxb.imp iM) (by omega)) J (fun _ => iM) (fun _ => Imp.refl _) (fun _ => iM) ?_)
    rintro ⟨⟩ -
    refine kZ J (qV J J) (kZ J jZ ?_)
    refine qQ (bZ (wQ J (fun hc => ?_) (fun hc => ?_)))
    ·try replace hc := odT hc
     have hm : 0 < min xi.Bytes.length (64 - y.inn.length) := by omega
     refine mX (Imp.trans iM (pl_shut { y with inn := y.inn ++ xi.Bytes.take (64 - y.inn.length) } hx hy)) ?_
     refine aZ (dZ J (pZ fa75_1 J (cZ (hZ (v := .int .i64 (pn : Int)) ti3 J (Cel.of_blk (b := b14) eX (by show some (Value.int .i64 xi.Part) = _; rw [hpn]))) ?_)))
     refine OG.callv (fi := []) (ca := [.pointer (some ⟨b5, 0, none⟩)]) call80 J J iM (tell_spec W0 (Po.Po p (acs.map Po.AC.tr) :: SL m f t xs :: WG m f t n qs σ Fr) (xs := xs) (ys := zs.set pn { y with inn := y.inn ++ xi.Bytes.take (64 - y.inn.length) }) (lc := lc) (c5 := b5) (pn : Int) 1 (hl.imp iM) (by rw [List.length_set]; omega) hn) J ?_
     rintro ⟨⟩ -
     rw [tellP_at (List.getElem?_set_self (by omega)), List.set_set, show quP 1 { y with inn := y.inn ++ xi.Bytes.take (64 - y.inn.length) } = fedP xi.Bytes y by unfold quP fedP; rw [if_pos (by decide), if_pos hm]; rfl]
     exact fZ (sZ (bZ (aZ (cZ (eQ J J wO) (dZ J (fZ (yQ (j + 1) (by omega) (by omega) eS (by rw [hfs]; exact iM))))))))
    ·try replace hc := odF hc
     have hm : ¬ 0 < min xi.Bytes.length (64 - y.inn.length) := by omega
     exact wZ (sZ (bZ (aZ (cZ (eQ J J wO) (dZ J (fZ (yQ (j + 1) (by omega) (by omega) eS (by rw [hfs, show fedP xi.Bytes y = { y with inn := y.inn ++ xi.Bytes.take (64 - y.inn.length) } by unfold fedP; rw [if_neg hm]]; exact Imp.trans iM (pl_shut { y with inn := y.inn ++ xi.Bytes.take (64 - y.inn.length) } hx hy)))))))))
  ·try replace hc := odF hc
   refine dX (yZ (yZ (oQ (bZ (eZ ?_)))))
   obtain rfl : j = ins.length := by omega
   rw [List.take_length, ← hz2]
   refine aZ (cZ (hZ (v := .slice (some ⟨lb, lo, none⟩) xs.length lc) ti59 J (Cel.of_blk (b := b5) eX J)) ?_)
   refine cZ (lZ underlying59 J J) (dZ J (fZ (bZ (fQ (iX (fun z : Nat × St => z.1 ≤ xs.length ∧ Lk n qs (rtX xs) (rdN major z2 o z.1) (c + 32768 * z.1) z.2) (fun z => [(4, .int .i64 major), (5, .pointer (some ⟨b5, 0, none⟩)), (10, .func (.func 80) ([] : List Value).toArray [.pointer (some ⟨b5, 0, none⟩)].toArray), (78, .int .i64 xs.length), (79, .int .i64 z.1)]) (fun z => PL xs (tkd (z2.map (rdY major)) z2 z.1) :: blk b5 [.slice (some ⟨lb, lo, none⟩) xs.length lc] 59 :: Po.Po p (acs.map Po.AC.tr) :: SL m f t xs :: WG m f t n qs z.2 Fr) (fun z => xs.length - z.1) (0, σ) ⟨Nat.zero_le _, L⟩ eS iM ?_)))))
   rintro ⟨i, σi⟩ ⟨hi, Li⟩
   dsimp only [WG] at hi Li ⊢
   refine eZ (aZ (cZ bQ ?_))
   refine fZ (bZ (eZ (wQ J (fun hc => ?_) (fun hc => ?_))))
   ·try replace hc := odT hc
    have hi' : i < xs.length := by omega
    obtain ⟨x, hx⟩ : ∃ x, xs[i]? = some x := ⟨xs[i], by simp⟩
    obtain ⟨y, hy⟩ : ∃ y, z2[i]? = some y := ⟨_, List.getElem?_eq_getElem (by omega)⟩
    have hyg := tkd_at (l := z2.map (rdY major)) (by simp) hy
    have hys := tkd_set (l := z2.map (rdY major)) (z := z2) (i := i) (x := rdY major y) (by simp) (by rw [List.getElem?_map, hy]; rfl)
    have hln : (tkd (z2.map (rdY major)) z2 i).length = xs.length := by rw [tkd_len (by simp)]; omega
    have hadr := rdyL_addr (major := major) (had2 y (List.mem_of_getElem? hy))
    generalize tkd (z2.map (rdY major)) z2 i = zs at hyg hys hln
    refine mX (pl_open hx hyg) (kX (fun w hw => Vd.d_facts (d := x.d) (s := y.d) eX w hw) ?_)
    intro hdk
    have hdl := hdk.asks
    have hrl0 := rdyL_len (s := y.d) (major := major)
    refine wZ (bZ (eZ (fQ (eZ (aZ (dZ J (gZ J (fZ (bZ (eZ (aZ (cZ (hZ (v := .slice (some ⟨lb, lo, none⟩) xs.length lc) ti59 J (Cel.of_blk (b := b5) eX J)) ?_))))))))))))
    refine dZ J (cZ (nZ underlying59 ti58 J J (by omega) (by omega)) ?_)
    refine pZ fa58_3 J (cZ (hZ (v := .pointer (some ⟨x.d, 0, none⟩)) ti56 J (by rw [show lo + (i : Int).toNat * 4 = lo + i * 4 by omega]; exact hrow iM hx 3 _ J)) ?_)
    refine dZ J (oZ call64 J (iM) (Vd.ready_spec W0 _ (d := x.d) (s := y.d) major) J ?_)
    rintro ⟨l, la, lc2⟩ hrl
    dsimp only [Vd.Dns.G, Vd.Dns.ms, Vd.Dns.cell, List.cons_append, List.nil_append] at hrl ⊢
    have hll : l.length = (Vd.rdyL y.d major).length := by rw [← hrl, List.length_map]
    refine cZ (lZ underlying130 J J) (dZ J (fZ (bZ (fQ (iX (fun z : Nat × St => z.1 ≤ l.length ∧ Lk n qs (rtX xs) (rdO i (rdN major z2 o i) ((Vd.rdyL y.d major).take z.1)) (c + 32768 * i + 8192 * z.1) z.2) (fun z => [(4, .int .i64 major), (5, .pointer (some ⟨b5, 0, none⟩)), (10, .func (.func 80) ([] : List Value).toArray [.pointer (some ⟨b5, 0, none⟩)].toArray), (15, .int .i64 i), (78, .int .i64 xs.length), (79, .int .i64 i), (88, .slice la l.length lc2), (89, .int .i64 l.length), (90, .int .i64 z.1)]) (fun z => PL xs (zs.set i (rdJ major y z.1)) :: blk b5 [.slice (some ⟨lb, lo, none⟩) xs.length lc] 59 :: Vd.odone la lc2 l :: Ms.pool (l.map Vd.CD.m) :: Po.Po p (acs.map Po.AC.tr) :: SL m f t xs :: WG m f t n qs z.2 Fr) (fun z => l.length - z.1) (0, σi) ⟨Nat.zero_le _, Li⟩ eS (Imp.trans iM (pl_shut (rdJ major y 0) hx hyg)) ?_)))))
    rintro ⟨j, σj⟩ ⟨hj, Lj⟩
    dsimp only [WG] at hj Lj ⊢
    refine eZ (aZ (cZ bQ ?_))
    refine fZ (bZ (eZ (wQ J (fun hc => ?_) (fun hc => ?_))))
    ·try replace hc := odT hc
     have hj' : j < l.length := by omega
     obtain ⟨cd, hcd⟩ : ∃ cd, l[j]? = some cd := ⟨l[j], by simp⟩
     have hra : (Vd.rdyL y.d major)[j]? = some cd.abs := by rw [← hrl, List.getElem?_map, hcd]; rfl
     have hca := hadr cd.abs (List.mem_of_getElem? hra)
     obtain ⟨ad, hade⟩ : ∃ ad : Nat, cd.addr = ad := ⟨cd.addr.toNat, by have : 0 ≤ cd.addr := hca.1; omega⟩
     have had4 : ad < 4294967296 := by have : cd.addr < 4294967296 := hca.2; omega
     have hfs : rdO i (rdN major z2 o i) ((Vd.rdyL y.d major).take (j + 1)) = if cd.write then rdO i (rdN major z2 o i) ((Vd.rdyL y.d major).take j) else (outR (rdO i (rdN major z2 o i) ((Vd.rdyL y.d major).take j)) i ad cd.m.b).2 := by
      unfold rdO
      rw [fold_succ (f := fun (o : Ob) (dn : Vd.Dn) => if dn.write then o else (outR o i dn.addr.toNat dn.data).2) hra]
      show (if cd.write then _ else (outR _ i cd.addr.toNat cd.m.b).2) = _
      rw [hade, Int.toNat_natCast]
     refine kX (fun w hw => SlR.elem_shape (i := j) (SlR.of_osl (W0 := W0) (E := 158) (a := la) (c := lc2) eX) Vd.CD.len (by decide) hj' w hw) ?_
     rintro ⟨bl, ol, rfl⟩
     refine wZ (bZ (eZ (fQ (eZ (aZ (cZ (nZ underlying130 ti158 J J (by omega) (by omega)) ?_))))))
     refine cZ (tQ (vs := Vd.CD.cells cd) ti158 J J (by rw [show ol + (j : Int).toNat * 4 = ol + j * 4 by omega]; exact SlR.elem (SlR.of_osl (E := 158) (a := some ⟨bl, ol, none⟩) (c := lc2) eX) Vd.CD.len hcd)) ?_
     refine jQ (lX ti158) J ?_
     rintro b17 -
     refine cX (gX ti158 J J fC J (by simp [Vd.CD.cells, one, Ms.Msg.cell]) J) J ?_
     rintro ⟨⟩ -
     refine fZ (bZ (eZ (eZ ?_)))
     rcases (show cd.write = true ∨ cd.write = false by cases cd.write <;> simp) with q | q
     ·rw [q, if_pos J] at hfs
      refine aZ (pZ fa158_1 J (cZ (hZ (v := .bool cd.write) ti4 J (Cel.of_blk (b := b17) eX J)) ?_))
      refine cZ (dQ (pQ J) (v' := .bool false) (by rw [q]; rfl)) ?_
      refine fZ (bZ (qZ J (wZ (bZ (aZ (dZ J (dZ J (OG.callv (fi := []) (ca := [.pointer (some ⟨b5, 0, none⟩)]) call80 J J iM (tell_spec W0 (Vd.odone (some ⟨bl, ol, none⟩) lc2 l :: Ms.pool (l.map Vd.CD.m) :: Po.Po p (acs.map Po.AC.tr) :: SL m f t xs :: WG m f t n qs σj Fr) (xs := xs) (ys := zs.set i (rdJ major y j)) (lc := lc) (c5 := b5) (i : Int) 2 (hl.imp iM) (by rw [List.length_set]; omega) hn) J ?_))))))))
      rintro ⟨⟩ -
      rw [rdJ_tell (by omega)]
      exact fZ (sZ (bZ (aZ (cZ (eQ J J wO) (dZ J (fZ (yQ (j + 1, σj) ⟨by simp only; omega, by rw [hfs]; exact Lj.mono (by simp only; omega)⟩ (by simp only; omega) eS iM)))))))
     ·rw [q, if_neg (by decide)] at hfs
      refine aZ (pZ fa158_1 J (cZ (hZ (v := .bool cd.write) ti4 J (Cel.of_blk (b := b17) eX J)) ?_))
      refine cZ (dQ (pQ J) (v' := .bool true) (by rw [q]; rfl)) ?_
      refine fZ (bZ (gQ J (mX (Imp.trans (B := SL m f t xs :: _) iM (sl_open hx)) ?_)))
      refine sQ (.lo 0 1 (.lo 1 1 (.lo 2 1 (.lo 3 1 (.lo 4 1 (.lo 5 1 (.lo 6 1 (.lo 7 1 (.lo 8 1 (.eff1 9 false (.done))))))))))) [9] [] ([]) ([]) mixed (by kernel_rfl) (Imp.none _) (Imp.none _) (kZ J (hZ (v := .slice (some ⟨lb, lo, none⟩) xs.length lc) ti59 J (Cel.of_blk (b := b5) eX J)) ?_)
      refine mZ J J (kZ J (nZ underlying59 ti58 J J (by omega) (by omega)) ?_)
      refine aQ J fa58_0 J (kZ J (hZ (v := .pointer (some ⟨x.s, 0, none⟩)) ti53 J (by rw [show lo + (i : Int).toNat * 4 = lo + i * 4 by omega]; exact hrow iM hx 0 _ J)) ?_)
      refine aQ J fa158_2 J (kZ J (hZ (v := .int .u32 (ad : Int)) ti27 J (Cel.of_blk (b := b17) eX (by show some (Value.int .u32 cd.addr) = _; rw [hade]))) ?_)
      refine aQ J fa158_3 J (kZ J (hZ (v := .slice cd.m.a cd.m.b.length cd.m.c) ti32 J (Cel.of_blk (b := b17) eX J)) ?_)
      refine zZ (kQ J J call32 J (iM) (out_of W0 _ (s := x.s) (m := m) (f := f) (t := t) (k := i) (r := x.r) (ba := cd.m.a) (bc := cd.m.c) (b := cd.m.b) (Ms.pool_rd (ms := l.map Vd.CD.m) eX (List.mem_map_of_mem (List.mem_of_getElem? hcd))) Lj (rtX_at hx) (by omega) (ad := ad) had4) J (fun _ => iM) (fun _ => Imp.refl _) (fun _ => iM) ?_)
      rintro σk Lk2
      dsimp only [WG] at Lk2 ⊢
      refine qQ (bZ (mX (Imp.trans iM (sl_shut hx)) ?_))
      refine aZ (dZ J (dZ J (OG.callv (fi := []) (ca := [.pointer (some ⟨b5, 0, none⟩)]) call80 J J iM (tell_spec W0 (Vd.odone (some ⟨bl, ol, none⟩) lc2 l :: Ms.pool (l.map Vd.CD.m) :: Po.Po p (acs.map Po.AC.tr) :: SL m f t xs :: WG m f t n qs σk Fr) (xs := xs) (ys := zs.set i (rdJ major y j)) (lc := lc) (c5 := b5) (i : Int) 2 (hl.imp iM) (by rw [List.length_set]; omega) hn) J ?_)))
      rintro ⟨⟩ -
      rw [rdJ_tell (by omega)]
      exact fZ (sZ (bZ (aZ (cZ (eQ J J wO) (dZ J (fZ (yQ (j + 1, σk) ⟨by simp only; omega, by rw [hfs]; exact Lk2.mono (by simp only; omega)⟩ (by simp only; omega) eS iM)))))))
    ·try replace hc := odF hc
     refine dX (yZ (yZ (oQ (sZ (bZ (aZ (cZ (eQ J J wO) (dZ J (fZ ?_)))))))))
     obtain rfl : j = l.length := by omega
     rw [show (Vd.rdyL y.d major).take l.length = Vd.rdyL y.d major by rw [hll, List.take_length], ← rdN_succ hy] at Lj
     exact yQ (i + 1, σj) ⟨by simp only; omega, Lj.mono (by simp only; omega)⟩ (by simp only; omega) eS (by rw [← hys, show rdY major y = rdJ major y l.length by rw [hll]; rfl]; exact iM)
   ·try replace hc := odF hc
    refine dX (yZ (yZ (oQ ?_)))
    obtain rfl : i = xs.length := by omega
    rw [tkd_all (by simp) (by omega)]
    exact jV J σi Li J iM
end
def chs : List Po.Cf := [⟨2, 0, 1, 16, 2⟩, ⟨1, 1, 0, 16, 1⟩, ⟨2, 2, 1, 16, 2⟩, ⟨1, 0, 7, 16, 1⟩]
def obM (i : Nat) : Ob := ⟨fun k p => if k < i ∧ p = 1 then some (3, zs) else none, fun k g => decide (k < i ∧ g = 0), 64 - 3 * i⟩
theorem Ob.eq {v v' : Nat → Nat → Option (Nat × List UInt8)} {t t' : Nat → Nat → Bool} {n n' : Nat} (h1 : ∀ k p, v k p = v' k p) (h2 : ∀ k g, t k g = t' k g) (h3 : n = n') : (⟨v, t, n⟩ : Ob) = ⟨v', t', n'⟩ := by
 rw [show v = v' from funext fun k => funext fun p => h1 k p, show t = t' from funext fun k => funext fun g => h2 k g, h3]
theorem obM_zero : (⟨fun _ _ => none, fun _ _ => false, 64⟩ : Ob) = obM 0 :=
 Ob.eq (fun k p => (if_neg (by omega)).symm) (fun k g => (decide_eq_false (by omega)).symm) J
theorem used_new {i : Nat} {fr : Nat} : used ⟨(obM i).vw, (obM i).ts, fr⟩ i = 1 := by
 unfold used
 have e1 : (fun p => ((obM i).vw i p).isSome) = fun _ : Nat => false := by
  funext p; show (if i < i ∧ p = 1 then some (3, zs) else none).isSome = false; rw [if_neg (by omega)]; rfl
 have e2 : (obM i).ts i = fun _ : Nat => false := by
  funext g; show decide (i < i ∧ g = 0) = false; exact decide_eq_false (by omega)
 show 1 + cN ((obM i).ts i) 64 + cN (fun p => ((obM i).vw i p).isSome) 4096 = 1
 rw [e1, e2, cN_zero, cN_zero]
theorem obM_map {i : Nat} (h : i < 3) : mapO 8 ⟨(obM i).vw, (obM i).ts, (obM i).fr - 1⟩ i 1 3 = (0, obM (i + 1)) := by
 have hu := used_new (i := i) (fr := (obM i).fr - 1)
 have hv : (obM i).vw i 1 = none := by show (if i < i ∧ 1 = 1 then some (3, zs) else none) = none; rw [if_neg (by omega)]
 have ht : (obM i).ts i 0 = false := by show decide (i < i ∧ 0 = 0) = false; exact decide_eq_false (by omega)
 unfold mapO
 rw [if_neg (by decide)]
 show (if ((obM i).vw i 1).isSome = true then _ else _) = _
 rw [hv, if_neg (by decide), hu]
 show (if (8 : Int) - ((1 : Nat) : Int) < ((if (obM i).ts i 0 = true then 1 else 2 : Nat) : Int) then _ else ((0 : Int), (⟨up2 (obM i).vw i 1 (some (3, zs)), up2 (obM i).ts i 0 true, (obM i).fr - 1 - (if (obM i).ts i 0 = true then 1 else 2)⟩ : Ob))) = _
 rw [ht, if_neg (by decide)]
 congr 1
 refine Ob.eq (fun k p => ?_) (fun k g => ?_) ?_
 ·unfold up2
  by_cases q : k = i ∧ p = 1
  ·rw [if_pos q, if_pos (by omega)]
  ·rw [if_neg q]
   show (if k < i ∧ p = 1 then some (3, zs) else none) = _
   by_cases q2 : k < i ∧ p = 1
   ·rw [if_pos q2, if_pos (by omega)]
   ·rw [if_neg q2, if_neg (by omega)]
 ·unfold up2
  by_cases q : k = i ∧ g = 0
  ·rw [if_pos q, decide_eq_true (by omega)]
  ·rw [if_neg q]
   show decide (k < i ∧ g = 0) = _
   by_cases q2 : k < i ∧ g = 0
   ·rw [decide_eq_true q2, decide_eq_true (by omega)]
   ·rw [decide_eq_false q2, decide_eq_false (by omega)]
 ·show 64 - 3 * i - 1 - 2 = 64 - 3 * (i + 1); omega
def y0 (i : Nat) : PS := ⟨0, 0, 0, false, [], [], ⟨i, 6 * i, 6, 2, 0, [], []⟩⟩
def ysN (i : Nat) : List PS := (List.range i).map y0
theorem ysN_succ (i : Nat) : ysN (i + 1) = ysN i ++ [y0 i] := by unfold ysN; rw [List.range_succ, List.map_append]; rfl
theorem ysN_len (i : Nat) : (ysN i).length = i := by simp [ysN]
theorem rtX_snoc {xs : List PA} {x : PA} {i : Nat} (h : xs.length = i) : (fun k => if k = i then some x.r else rtX xs k) = rtX (xs ++ [x]) := by
 funext k
 unfold rtX
 by_cases q : k = i
 ·subst q; rw [if_pos J, List.getElem?_append_right (by omega), h, Nat.sub_self]; rfl
 ·rw [if_neg q]
  by_cases q2 : k < i
  ·rw [List.getElem?_append_left (by omega)]
  ·rw [List.getElem?_eq_none (by omega), List.getElem?_eq_none (by simp; omega)]
theorem pl_snoc {xs : List PA} {ys : List PS} {x : PA} {y : PS} {G : List HProp} (h : xs.length = ys.length) : Imp (Vi.V x.v y.q y.p y.at' y.set :: Vc.Con x.k y.out y.inn :: Vd.D x.d y.d :: PL xs ys :: G) (PL (xs ++ [x]) (ys ++ [y]) :: G) := by
 unfold PL
 rw [List.zipWith_append h]
 exact Imp.trans (star_close (D := [Vi.V x.v y.q y.p y.at' y.set, Vc.Con x.k y.out y.inn, Vd.D x.d y.d])) (star_add (A := Pt x y))
theorem sl_snoc {m f t i : Nat} {xs : List PA} {x : PA} {G : List HProp} (h : xs.length = i) : Imp (sb x.s i x.r m f t :: SL m f t xs :: G) (SL m f t (xs ++ [x]) :: G) := by
 subst h
 unfold SL
 rw [List.mapIdx_append, show List.mapIdx (fun i x => sb x.s (i + xs.length) x.r m f t) [x] = [sb x.s xs.length x.r m f t] by simp]
 exact star_add
theorem pl_nil {G : List HProp} : Imp G (PL [] [] :: G) := star_nil
theorem sl_nil {m f t : Nat} {G : List HProp} : Imp G (SL m f t [] :: G) := star_nil
theorem q8 {i : Nat} (h : i < 3) : ([8, 8, 8] : List Int)[i]? = some 8 := by
 match i, h with
 | 0, _ => rfl
 | 1, _ => rfl
 | 2, _ => rfl
theorem nb {i : Nat} (h : i < 3) : Vd.newBad (i : Int) (6 * (i : Int)) 6 2 = false := by
 match i, h with
 | 0, _ => rfl
 | 1, _ => rfl
 | 2, _ => rfl
theorem flat_app {l : List PA} {x : PA} : ((l ++ [x]).map PA.cells).flatten = (l.map PA.cells).flatten ++ x.cells := by simp
structure WA where
 e : Nat
 u : Nat
 b : Nat
 p : Nat
 m : Nat
 f : Nat
 t : Nat
 xs : List PA
 la : Option Addr
 lc : Nat
def disk0 : B := [116, 104, 101, 32, 100, 105, 115, 107]
def bs0 (ds : List Int) : Bk.Bs := ⟨Bk.newB 32 disk0, ds, 0, 0, []⟩
abbrev wldE (z : WA) : HProp := blk z.e [.slice z.la z.xs.length z.lc, .pointer (some ⟨z.u, 0, none⟩), .pointer (some ⟨z.b, 0, none⟩), .pointer (some ⟨z.p, 0, none⟩)] 64
abbrev wldL (z : WA) : HProp := osl 58 4 z.la z.lc z.xs.length ((z.xs.map PA.cells).flatten)
abbrev wldG (z : WA) (ys : List PS) (uq us : B) (bs : Bk.Bs) (acs : List Po.AC) (σ : St) (G : List HProp) : List HProp :=
 wldE z :: wldL z :: PL z.xs ys :: Ua.U z.u 40 uq us :: Bk.Bl z.b bs :: Po.Po z.p acs :: SL z.m z.f z.t z.xs :: WG z.m z.f z.t 64 [8, 8, 8] σ G
section
variable (W0 : World) (Fr : List HProp)
theorem num_spec (e : Int) : Ctr prog W0 71 [.int .i64 e] Fr (fun _ : Unit => True) (fun _ => .int .i64 e) (fun _ => Fr) := by
 exact Ctr.of_body func71 J ntmps71 J (eZ (aZ (gZ J (fZ (bZ (eZ (aZ (dZ J (gZ J (fZ (bZ (tZ (xZ J J () trivial J iM)))))))))))))
theorem channels_spec : Ctr prog W0 25 [] Fr (fun _ : Nat => True) (fun b => .slice (some ⟨b, 0, none⟩) 4 4) (fun b => osl 156 5 (some ⟨b, 0, none⟩) 4 4 ((chs.map Po.Cf.cells).flatten) :: Fr) := by
 refine Ctr.of_body func25 J ntmps25 J (eZ (aZ (gZ J (fZ (bZ (eZ (aZ (cZ (xQ bu156 ti156 J (cells := Po.Cf.cells ⟨2, 0, 1, 16, 2⟩) J) (cZ (xQ bu156 ti156 J (cells := Po.Cf.cells ⟨1, 1, 0, 16, 1⟩) J) (cZ (xQ bu156 ti156 J (cells := Po.Cf.cells ⟨2, 2, 1, 16, 2⟩) J) (cZ (xQ bu156 ti156 J (cells := Po.Cf.cells ⟨1, 0, 7, 16, 1⟩) J) (jQ (wX [.tmp 1, .tmp 2, .tmp 3, .tmp 4] (vs := chs.map fun x => .agg x.cells.toArray) (cells := (chs.map Po.Cf.cells).flatten) underlying72 ti156 J J J J (by decide) (by simp [chs, Value.cells, Po.Cf.cells]) (by simp [chs, Value.cells, Po.Cf.cells])) J ?_))))))))))))
 rintro b5 -
 exact gZ J (fZ (bZ (tZ (xZ J J b5 trivial J iM))))
end
section
variable (W0 : World) (Fr : List HProp)
set_option maxHeartbeats 400000 in
theorem made_spec {ds : List Int} {da : Option Addr} {dc : Nat} (hds : SlR W0 Fr 1 da ds.length (Ms.intsV .i64 ds)) (hdl : ds.length ≤ 17592186043904 - 64) (hdb : Bk.newE ((32 : Nat) : Int) 8 ds = 0) :
 Ctr prog W0 19 [.slice da ds.length dc] Fr (fun z : WA × St => z.1.xs.length = 3 ∧ Lk 64 [8, 8, 8] (rtX z.1.xs) (obM 3) 0 z.2) (fun z => .pointer (some ⟨z.1.e, 0, none⟩)) (fun z => wldG z.1 (ysN 3) [] [] (bs0 ds) (chs.map Po.Cf.ac) z.2 Fr) := by
 have hne : Fz.nerr (64 : Nat) [8, 8, 8] = 0 := by
  unfold Fz.nerr
  rw [if_neg (by decide), if_neg (by simp), if_neg, if_neg]
  ·decide
  ·rintro ⟨z, hz, h⟩
   simp only [List.mem_cons, List.not_mem_nil, or_false] at hz
   rcases hz with rfl | rfl | rfl <;> omega
 obtain ⟨hn, hql, hq, hsum⟩ := Fz.nerr_ok hne
 obtain ⟨G0, e0⟩ := Good.start (n := 64) (m := 8) (Fz.inv_new hne) (by decide)
 rw [obM_zero] at e0
 have L0 := Lk.intro (c := 0) G0 (rt := rtX []) J J e0 (Nat.le_refl 0)
 refine Ctr.of_body func19 J ntmps19 J (eZ (aZ (gZ J (fZ (bZ (eZ (aZ (oZ call50 J (Imp.refl _) (Me.new_spec W0 _ (n := 64) (by decide) (by decide)) J ?_))))))))
 rintro m -
 refine dZ J (cZ (uZ J J) (cZ (uZ J J) (gZ J (gZ J (fZ (bZ (eZ (aZ (jQ (wX [.const (.int .i64 8), .const (.int .i64 8), .const (.int .i64 8)] (vs := Fz.iv [8, 8, 8]) (cells := Fz.iv [8, 8, 8]) underlying80 ti3 J J J J (by decide) (by simp [Value.cells, Fz.iv]) (by simp [Value.cells, Fz.iv])) J ?_)))))))))
 rintro b23 -
 refine oZ call51 J (Imp.refl _) (Fz.new_ok W0 _ (total := 64) (qs := [8, 8, 8]) (by exact SlR.of_osl (E := 3) (a := some ⟨b23, 0, none⟩) (c := 3) eX) hne) J ?_
 rintro f -
 refine dZ J (cZ (uZ J J) (cZ (uZ J J) (gZ J (gZ J (fZ (bZ (eZ (aZ (oZ call52 J (Imp.refl _) (Tl.new_spec W0 _ (n := 8) (by decide) (by decide)) J ?_)))))))))
 rintro t -
 refine dZ J (cZ (uZ J J) (cZ (uZ J J) (gZ J (gZ J (fZ (bZ (eZ (aZ (jQ (wX [.const (.int .u8 116), .const (.int .u8 104), .const (.int .u8 101), .const (.int .u8 32), .const (.int .u8 100), .const (.int .u8 105), .const (.int .u8 115), .const (.int .u8 107)] (vs := [.int .u8 116, .int .u8 104, .int .u8 101, .int .u8 32, .int .u8 100, .int .u8 105, .int .u8 115, .int .u8 107]) (cells := bytesV disk0) underlying32 ti5 J J J J (by decide) (by simp [Value.cells]) (by simp [Value.cells]; rfl)) J ?_)))))))))
 rintro b32 -
 refine jQ (iV (b := b32) underlying32 underlying5 J fC) J ?_
 rintro ⟨⟩ -
 refine jQ (lV underlying80 ti3 J) J ?_
 rintro b34 -
 refine dZ J (jQ (nX (a := some ⟨b34, 0, none⟩) (c := 0) (m := 0) (xs := []) (k := ds.length) (ys := Ms.intsV .i64 ds) J J J underlying80 underlying80 ti3 J (by decide) fC (hds.imp iM) (Ms.intsV_ones _ _) (by omega)) J ?_)
 rintro ⟨a36, c36⟩ -
 rw [Nat.zero_add, List.nil_append]
 refine oZ call69 J (Imp.refl _) (Bk.bnew_ok W0 _ (a := some ⟨b32, 0, none⟩) (c := 8) (da := a36) (dc := c36) (n := 32) (delays := ds) (img := disk0) (by exact SlR.of_osl (E := 5) (a := some ⟨b32, 0, none⟩) (c := 8) eX) (by exact SlR.of_osl (E := 3) (a := a36) (c := c36) eX) (by omega) hdb) J ?_
 rintro b -
 refine dZ J (cZ (uZ J J) (cZ (uZ J J) (gZ J (gZ J (fZ (bZ (eZ (aZ (oZ call70 J (Imp.refl _) (Ua.new_spec W0 _ 40) J ?_)))))))))
 rintro u -
 refine dZ J (oZ call25 J (Imp.refl _) (channels_spec W0 _) J ?_)
 rintro b42 -
 refine oZ call56 J (Imp.refl _) (Po.new_spec W0 _ (l := chs) (by exact SlR.of_osl (E := 156) (a := some ⟨b42, 0, none⟩) (c := 4) eX) (by decide)) J ?_
 rintro p -
 refine cZ (xQ bu64 ti64 J (cells := [.slice none 0 0, .pointer (some ⟨u, 0, none⟩), .pointer (some ⟨b, 0, none⟩), .pointer (some ⟨p, 0, none⟩)]) J) (jQ (sX J) J ?_)
 rintro b45 -
 refine gZ J (fZ (bZ (eZ (eZ (aZ (dZ J (oZ call71 J (Imp.refl _) (num_spec W0 _ 0) J ?_)))))))
 rintro ⟨⟩ -
 refine cZ nQ ?_
 refine dZ J (iZ J J (dZ J (iZ J J (oZ call71 J (Imp.refl _) (num_spec W0 _ 0) J ?_))))
 rintro ⟨⟩ -
 refine iZ J J (cZ nQ ?_)
 refine cZ jZ ?_
 refine dZ J (iZ J J (dZ J (iZ J J (oZ call71 J (Imp.refl _) (num_spec W0 _ 0) J ?_))))
 rintro ⟨⟩ -
 refine iZ J J (cZ nQ ?_)
 refine cZ jZ ?_
 refine dZ J (iZ J J (dZ J (iZ J J (oZ call71 J (Imp.refl _) (num_spec W0 _ 0) J ?_))))
 rintro ⟨⟩ -
 refine iZ J J (cZ nQ ?_)
 refine cZ jZ ?_
 refine dZ J (iZ J J (dZ J (iZ J J (cZ (by first | exact hX underlying111 J J | exact jX underlying111 J J) ?_))))
 refine cZ jZ ?_
 refine dZ J (iZ J J (dZ J (iZ J J (cZ (by first | exact hX underlying114 J J | exact jX underlying114 J J) ?_))))
 refine cZ jZ ?_
 refine dZ J (iZ J J (dZ J (iZ J J (cZ (by first | exact hX underlying117 J J | exact jX underlying117 J J) ?_))))
 refine cZ jZ ?_
 refine dZ J (iZ J J (dZ J (iZ J J (cZ (by first | exact hX underlying61 J J | exact jX underlying61 J J) ?_))))
 refine cZ jZ ?_
 refine dZ J (iZ J J (dZ J (iZ J J (cQ J (iZ J J (pZ fa64_1 J (iZ J J (cZ (hZ (v := .pointer (some ⟨u, 0, none⟩)) ti60 J (Cel.of_blk (b := b45) eX J)) ?_))))))))
 refine iZ J J (cZ (by first | exact hX underlying60 J J | exact jX underlying60 J J) ?_)
 refine cZ jZ ?_
 refine dZ J (iZ J J (dZ J (iZ J J (cQ J (iZ J J (pZ fa64_3 J (iZ J J (cZ (hZ (v := .pointer (some ⟨p, 0, none⟩)) ti62 J (Cel.of_blk (b := b45) eX J)) ?_))))))))
 refine iZ J J (cZ (by first | exact hX underlying62 J J | exact jX underlying62 J J) ?_)
 refine cZ jZ ?_
 refine fZ (bZ (qZ J (wZ (bZ (eZ (eZ (aZ (gZ J (fZ (bZ (fQ (iX (fun z : Nat × List PA × Option Addr × Nat × St => z.1 ≤ 3 ∧ z.2.1.length = z.1 ∧ Lk 64 [8, 8, 8] (rtX z.2.1) (obM z.1) 0 z.2.2.2.2) (fun z => [(3, .pointer (some ⟨m, 0, none⟩)), (5, .pointer (some ⟨f, 0, none⟩)), (7, .pointer (some ⟨t, 0, none⟩)), (11, .pointer (some ⟨b45, 0, none⟩)), (12, .int .i64 z.1)]) (fun z => wldG ⟨b45, u, b, p, m, f, t, z.2.1, z.2.2.1, z.2.2.2.1⟩ (ysN z.1) [] [] (bs0 ds) (chs.map Po.Cf.ac) z.2.2.2.2 Fr) (fun z => 3 - z.1) (0, [], none, 0, _) ⟨Nat.zero_le _, rfl, L0⟩ eS (Imp.trans (Imp.trans osl_nil (Imp.trans pl_nil (sl_nil (m := m) (f := f) (t := t)))) iM) ?_))))))))))))
 rintro ⟨i, xs, la, lc, σ⟩ ⟨hi, hxl, L⟩
 dsimp only [wldG, wldE, wldL, WG] at hi hxl L ⊢
 refine eZ (eZ (aZ (dZ J (cZ bQ ?_))))
 refine fZ (bZ (wQ J (fun hc => ?_) (fun hc => ?_)))
 ·try replace hc := odT hc
  have hi' : i < 3 := by omega
  refine wZ (bZ (eZ (fQ (eZ (aZ (dZ J (dZ J (dZ J (dZ J (oZ call53 J (iM) (new_ok W0 (SL m f t xs :: blk b45 [.slice la xs.length lc, .pointer (some ⟨u, 0, none⟩), .pointer (some ⟨b, 0, none⟩), .pointer (some ⟨p, 0, none⟩)] 64 :: osl 58 4 la lc xs.length ((xs.map PA.cells).flatten) :: PL xs (ysN i) :: Ua.U u 40 [] [] :: Bk.Bl b (bs0 ds) :: Po.Po p (chs.map Po.Cf.ac) :: Fr) (m := m) (f := f) (t := t) L hq (k := i) (qk := 8) (q8 hi') (by unfold rtX; rw [List.getElem?_eq_none (by omega)]; rfl) (by decide)) J ?_))))))))))
  rintro ⟨s, r, σ1⟩ L1
  dsimp only [WG] at L1 ⊢
  refine dZ J (cZ (uZ J J) (cZ (uZ J J) (gZ J (gZ J (fZ (bZ (eZ (aZ (dZ J (dZ J (cZ (qX (c := 6 * (i : Int)) J J wO) (oZ call58 J (Imp.refl _) (Vd.new_ok W0 _ (part := i) (first := 6 * (i : Int)) (count := 6) (latency := 2) (nb hi')) J ?_))))))))))))
  rintro d -
  refine dZ J (cZ (uZ J J) (cZ (uZ J J) (gZ J (gZ J (fZ (bZ (eZ (aZ (dZ J (oZ call54 J (Imp.refl _) (Vi.new_spec W0 _) J ?_))))))))))
  rintro v -
  refine oZ call55 J (Imp.refl _) (Vc.new_spec W0 _) J ?_
  rintro k -
  refine dZ J (cZ (xQ bu58 ti58 J (cells := PA.cells ⟨s, v, k, d, r⟩) J) (jQ (lX ti58) J ?_))
  rintro b17 -
  refine cX (gX ti58 J J fC J (PA.ones _) J) J ?_
  rintro ⟨⟩ -
  refine fZ (bZ (eZ (eZ (aZ (dZ J (oZ call71 J (Imp.refl _) (num_spec W0 _ 0) J ?_))))))
  rintro ⟨⟩ -
  refine cZ nQ ?_
  refine dZ J (iZ J J (dZ J (iZ J J (oZ call71 J (Imp.refl _) (num_spec W0 _ 0) J ?_))))
  rintro ⟨⟩ -
  refine iZ J J (cZ nQ ?_)
  refine cZ jZ ?_
  refine dZ J (iZ J J (dZ J (iZ J J (cZ (by first | exact hX underlying53 J J | exact jX underlying53 J J) ?_))))
  refine cZ jZ ?_
  refine dZ J (iZ J J (dZ J (iZ J J (cZ (by first | exact hX underlying56 J J | exact jX underlying56 J J) ?_))))
  refine cZ jZ ?_
  refine dZ J (iZ J J (pZ fa58_1 J (iZ J J (cZ (hZ (v := .pointer (some ⟨v, 0, none⟩)) ti54 J (Cel.of_blk (b := b17) eX J)) ?_))))
  refine iZ J J (cZ (by first | exact hX underlying54 J J | exact jX underlying54 J J) ?_)
  refine cZ jZ ?_
  refine dZ J (iZ J J (pZ fa58_2 J (iZ J J (cZ (hZ (v := .pointer (some ⟨k, 0, none⟩)) ti55 J (Cel.of_blk (b := b17) eX J)) ?_))))
  refine iZ J J (cZ (by first | exact hX underlying55 J J | exact jX underlying55 J J) ?_)
  refine cZ jZ ?_
  refine dZ J (iZ J J (dZ J (iZ J J (oZ call72 J (iM) (map_spec W0 _ (s := s) (m := m) (f := f) (t := t) (k := i) (r := r) (qk := 8) L1 hq (q8 hi') (if_pos J) 1 3) J ?_))))
  rintro σ2 L2
  rw [obM_map hi', rtX_snoc (x := ⟨s, v, k, d, r⟩) hxl] at L2
  rw [obM_map hi']
  dsimp only [WG] at L2 ⊢
  refine iZ J J (oZ call71 J (Imp.refl _) (num_spec W0 _ 0) J ?_)
  rintro ⟨⟩ -
  refine iZ J J (cZ nQ ?_)
  refine cZ jZ ?_
  refine fZ (bZ (qZ J (wZ (bZ (sQ (.lo 0 0 (.lo 1 0 (.lo 2 0 (.lo 3 0 (.lo 4 2 (.lo 5 1 (.eff1 6 false (.eff1 7 false (.lo 8 1 (.lo 9 1 (.eff1 10 true (.done)))))))))))) [6, 7, 10] [4] ([]) ([blk b45 [.slice la xs.length lc, .pointer (some ⟨u, 0, none⟩), .pointer (some ⟨b, 0, none⟩), .pointer (some ⟨p, 0, none⟩)] 64]) mixed (by kernel_rfl) (Imp.none _) (iM) ?_)))))
  refine mZ J J (mZ J J (rQ J J (aQ J fa64_0 J (kZ J (hZ (v := .slice la xs.length lc) ti59 J (Cel.of_blk (b := b45) eX J)) ?_))))
  refine kZ J (tQ (vs := PA.cells ⟨s, v, k, d, r⟩) ti58 J J (Row.of_blk (b := b17) eX J)) ?_
  refine zZ (vQ J J (wX [.tmp 155] (vs := [.agg (PA.cells ⟨s, v, k, d, r⟩).toArray]) (cells := PA.cells ⟨s, v, k, d, r⟩) underlying59 ti58 J J J J (by decide) (by simp [Value.cells, PA.cells]) (by simp [Value.cells])) J (fun _ => iM) (fun _ => Imp.refl _) (fun _ => iM) ?_)
  rintro b156 -
  refine zZ (vQ J J (nX (a := la) (c := lc) (m := xs.length) (xs := (xs.map PA.cells).flatten) (k := 1) (ys := PA.cells ⟨s, v, k, d, r⟩) J J J underlying59 underlying59 ti58 J (by decide) fC (SlR.of_osl (a := some ⟨b156, 0, none⟩) eX) (PA.ones _) (by omega)) J (fun _ => iM) (fun _ => Imp.refl _) (fun _ => iM) ?_)
  rintro ⟨a157, c157⟩ -
  refine rQ J J (aQ J fa64_0 J (zZ (vQ J J (aX ti59 J J fC J (by dsimp only [List.length]; decide)) J (fun _ => iM) (fun _ => Imp.refl _) (fun _ => iM) ?_)))
  rintro ⟨⟩ -
  refine qQ (sZ (bZ (aZ (dZ J (cZ (eQ J J wO) (gZ J (fZ (yQ (i + 1, xs ++ [⟨s, v, k, d, r⟩], a157, c157, σ2) ⟨by simp only; omega, by simp only [List.length_append, List.length_cons, List.length_nil]; omega, L2⟩ (by simp only; omega) eS ?_))))))))
  dsimp only [wldG, wldE, wldL, WG]
  rw [List.length_append, flat_app, ysN_succ]
  refine Imp.trans (B := Vi.V v 0 0 0 false :: Vc.Con k [] [] :: Vd.D d ⟨i, 6 * i, 6, 2, 0, [], []⟩ :: PL xs (ysN i) :: sb s i r m f t :: SL m f t xs :: blk b45 [.slice a157 (xs.length + 1) c157, .pointer (some ⟨u, 0, none⟩), .pointer (some ⟨b, 0, none⟩), .pointer (some ⟨p, 0, none⟩)] 64 :: osl 58 4 a157 c157 (xs.length + 1) ((xs.map PA.cells).flatten ++ PA.cells ⟨s, v, k, d, r⟩) :: Ua.U u 40 [] [] :: Bk.Bl b (bs0 ds) :: Po.Po p (chs.map Po.Cf.ac) :: WG m f t 64 [8, 8, 8] σ2 Fr) iM ?_
  refine Imp.trans (pl_snoc (x := ⟨s, v, k, d, r⟩) (y := y0 i) (xs := xs) (ys := ysN i) (by rw [ysN_len]; exact hxl)) ?_
  refine Imp.trans (B := sb s i r m f t :: SL m f t xs :: PL (xs ++ [⟨s, v, k, d, r⟩]) (ysN i ++ [y0 i]) :: blk b45 [.slice a157 (xs.length + 1) c157, .pointer (some ⟨u, 0, none⟩), .pointer (some ⟨b, 0, none⟩), .pointer (some ⟨p, 0, none⟩)] 64 :: osl 58 4 a157 c157 (xs.length + 1) ((xs.map PA.cells).flatten ++ PA.cells ⟨s, v, k, d, r⟩) :: Ua.U u 40 [] [] :: Bk.Bl b (bs0 ds) :: Po.Po p (chs.map Po.Cf.ac) :: WG m f t 64 [8, 8, 8] σ2 Fr) iM ?_
  exact Imp.trans (sl_snoc (m := m) (f := f) (t := t) (x := ⟨s, v, k, d, r⟩) hxl) iM
 ·try replace hc := odF hc
  refine dX (yZ (yZ (oQ (bZ (eZ (aZ (dZ J (gZ J (fZ (bZ (tZ ?_)))))))))))
  obtain rfl : i = 3 := by omega
  exact xZ J J (⟨b45, u, b, p, m, f, t, xs, la, lc⟩, σ) ⟨hxl, L⟩ J iM
end
end Go.Proofs.YtphljkplokjonaaGreat.Io
namespace Go.Sl
open Go Go.RowKit
end Go.Sl
namespace Go.Proofs.YtphljkplokjonaaGreat.Io
open Go Go.Sl Go.RowKit Go.Proofs Go.Proofs.YtphljkplokjonaaGreat.T Go.Proofs.YtphljkplokjonaaGreat.Sp Tryz
def ysW (p : Nat) (bs : B) : List PS := (ysN 3).set p { y0 p with out := bs }
theorem ysW_len (p : Nat) (bs : B) : (ysW p bs).length = 3 := by unfold ysW; rw [List.length_set, ysN_len]
theorem ser_W {p : Nat} (h : p < 3) (bs : B) (now : Int) : serY now (ysW p bs) (bs0 []) = ysN 3 ∧ serB now (ysW p bs) (bs0 []) = bs0 [] := by
 match p, h with
 | 0, _ => exact ⟨rfl, rfl⟩
 | 1, _ => exact ⟨rfl, rfl⟩
 | 2, _ => exact ⟨rfl, rfl⟩
theorem adN {i : Nat} : ∀ y ∈ ysN i, AdOK y := fun y hy => by
 unfold ysN at hy
 rw [List.mem_map] at hy
 obtain ⟨i, _, rfl⟩ := hy
 exact fun a ha => absurd ha List.not_mem_nil
theorem xs_three {xs : List PA} (h : xs.length = 3) : ∃ x0 x1 x2, xs = [x0, x1, x2] := by
 match xs, h with
 | [a, b, c], _ => exact ⟨a, b, c, rfl⟩
theorem pl_three {x0 x1 x2 : PA} {a b c : PS} {G : List HProp} : Imp (PL [x0, x1, x2] [a, b, c] :: G) (Vi.V x0.v a.q a.p a.at' a.set :: Vc.Con x0.k a.out a.inn :: Vd.D x0.d a.d :: Vi.V x1.v b.q b.p b.at' b.set :: Vc.Con x1.k b.out b.inn :: Vd.D x1.d b.d :: Vi.V x2.v c.q c.p c.at' c.set :: Vc.Con x2.k c.out c.inn :: Vd.D x2.d c.d :: G) :=
 Imp.trans (star_open (D := [Pt x0 a, Pt x1 b, Pt x2 c])) (Imp.trans (star_open (D := [Vi.V x0.v a.q a.p a.at' a.set, Vc.Con x0.k a.out a.inn, Vd.D x0.d a.d])) (Imp.cons (Imp.cons (Imp.cons (Imp.trans (star_open (D := [Vi.V x1.v b.q b.p b.at' b.set, Vc.Con x1.k b.out b.inn, Vd.D x1.d b.d])) (Imp.cons (Imp.cons (Imp.cons (star_open (D := [Vi.V x2.v c.q c.p c.at' c.set, Vc.Con x2.k c.out c.inn, Vd.D x2.d c.d]))))))))))
def acsM : List Po.AC := [⟨2, 0, 1, 16, 2, [[109]], []⟩, ⟨1, 1, 0, 16, 1, [], []⟩, ⟨2, 2, 1, 16, 2, [], []⟩, ⟨1, 0, 7, 16, 1, [], []⟩]
theorem snd_M : Hc.sndP (chs.map Po.Cf.ac) 0 0 [109] = (0, acsM) := rfl
theorem beg_M {a : Option Addr} {c : Nat} : begY 3 chs acsM [⟨3, 2, a, c, [120]⟩] (ysN 3) = [y0 0, { y0 1 with q := 8 }, { y0 2 with q := 2, inn := [120] }] := rfl
section
variable (W0 : World) (Fr : List HProp)
set_option maxHeartbeats 1000000 in
theorem works_spec : Ctr prog W0 18 [] Fr (fun _ : Unit => True) (fun _ => .bool true) (fun _ => Fr) := by
 refine Ctr.of_body func18 J ntmps18 J (eZ (aZ (gZ J (fZ (bZ (eZ (aZ (oZ call19 J (Imp.refl _) (made_spec W0 Fr (ds := []) (da := none) (dc := 0) SlR.nil (by decide) J) J ?_))))))))
 rintro ⟨⟨we, u, b, p, m, f, t, xs, la, lc⟩, σ⟩ ⟨hxl, L⟩
 dsimp only [wldG, wldE, wldL, WG] at hxl L ⊢
 obtain ⟨x0, x1, x2, rfl⟩ := xs_three hxl
 refine gZ J (fZ (bZ (eZ (eZ (aZ (dZ J (cZ (by first | exact hX underlying48 J J | exact jX underlying48 J J) ?_)))))))
 refine fZ (bZ (qZ J (wZ (bZ (eZ (kX (fun w hw => SlR.elem_shape (xs := [x0, x1, x2]) (i := 0) (SlR.of_osl (W0 := W0) (E := 58) (a := la) (c := lc) eX) PA.len (by decide) (Nat.succ_pos _) w hw) ?_))))))
 rintro ⟨lb, lo, rfl⟩
 refine mX (Imp.trans (B := PL [x0, x1, x2] (ysN 3) :: _) iM (pl_open (i := 0) (x := x0) (y := y0 0) J J)) ?_
 refine aZ (dZ J (cQ J (pZ fa64_0 J (cZ (hZ (v := .slice (some ⟨lb, lo, none⟩) 3 lc) ti59 J (Cel.of_blk (b := we) eX J)) ?_))))
 refine cZ (nZ underlying59 ti58 J J (by omega) (by omega)) ?_
 refine pZ fa58_2 J (cZ (hZ (v := .pointer (some ⟨x0.k, 0, none⟩)) ti55 J (((SlR.of_osl (E := 58) (a := some ⟨lb, lo, none⟩) (c := lc) eX).elem (i := 0) (x := x0) PA.len J) 2 _ J)) ?_)
 refine jQ (wX [.const (.int .u8 104), .const (.int .u8 105)] (vs := [.int .u8 104, .int .u8 105]) (cells := bytesV [104, 105]) underlying32 ti5 J J J J (by decide) (by simp [Value.cells]) (by simp [Value.cells]; rfl)) J ?_
 rintro b13 -
 refine jQ (iV (b := b13) underlying32 underlying5 J fC) J ?_
 rintro ⟨⟩ -
 refine oZ call20 J (iM) (Vc.writeB W0 _ (g := x0.k) (out := []) (inn := []) (ds := [104, 105]) (a2 := some ⟨b13, 0, none⟩) (c2 := 2) (by exact RdB.of_osl (E := 5) eX J J) (by decide)) J ?_
 rintro ⟨⟩ -
 refine fZ (bZ (eZ (aZ (dZ J (cQ J (pZ fa64_3 J (cZ (hZ (v := .pointer (some ⟨p, 0, none⟩)) ti62 J (Cel.of_blk (b := we) eX J)) ?_)))))))
 refine jQ (wX [.const (.int .u8 109)] (vs := [.int .u8 109]) (cells := bytesV [109]) underlying32 ti5 J J J J (by decide) (by simp [Value.cells]) (by simp [Value.cells]; rfl)) J ?_
 rintro b20 -
 refine jQ (iV (b := b20) underlying32 underlying5 J fC) J ?_
 rintro ⟨⟩ -
 refine oZ call44 J (iM) (Hc.snd_spec W0 _ (p := p) (acs := chs.map Po.Cf.ac) 0 0 (a := some ⟨b20, 0, none⟩) (c := 1) (bs := [109]) (SlR.of_osl (E := 5) (a := some ⟨b20, 0, none⟩) eX) (by decide)) J ?_
 rintro ⟨⟩ -
 rw [snd_M]
 refine fZ (bZ (eZ (mX (Imp.trans iM (pl_shut (xs := [x0, x1, x2]) (ys := ysN 3) (i := 0) (x := x0) (y := y0 0) { y0 0 with out := [104, 105] } J J)) ?_)))
 rw [show (ysN 3).set 0 { y0 0 with out := [104, 105] } = ysW 0 [104, 105] from J]
 refine sQ (.lo 0 1 (.lo 1 1 (.lo 2 1 (.lo 3 1 (.lo 4 1 (.lo 5 1 (.lo 6 1 (.lo 7 1 (.lo 8 1 (.lo 9 1 (.lo 10 1 (.lo 11 1 (.eff1 12 false (.lo 13 1 (.done))))))))))))))) [12] [] ([]) ([]) mixed (by kernel_rfl) (Imp.none _) (Imp.none _) (mZ J J (rQ J J (aQ J fa64_0 J (kZ J (hZ (v := .slice (some ⟨lb, lo, none⟩) 3 lc) ti59 J (Cel.of_blk (b := we) eX J)) ?_))))
 refine mZ J J (rQ J J (aQ J fa64_1 J (kZ J (hZ (v := .pointer (some ⟨u, 0, none⟩)) ti60 J (Cel.of_blk (b := we) eX J)) ?_)))
 refine mZ J J (rQ J J (aQ J fa64_2 J (kZ J (hZ (v := .pointer (some ⟨b, 0, none⟩)) ti61 J (Cel.of_blk (b := we) eX J)) ?_)))
 refine zZ (kQ J J call22 J (iM) (serve_spec W0 (osl 58 4 (some ⟨lb, lo, none⟩) lc 3 (([x0, x1, x2].map PA.cells).flatten) :: blk we [.slice (some ⟨lb, lo, none⟩) 3 lc, .pointer (some ⟨u, 0, none⟩), .pointer (some ⟨b, 0, none⟩), .pointer (some ⟨p, 0, none⟩)] 64 :: Po.Po p acsM :: SL m f t [x0, x1, x2] :: WG m f t 64 [8, 8, 8] σ Fr) (u := u) (b := b) (lc := lc) (sz := 40) (xs := [x0, x1, x2]) (ys := ysW 0 [104, 105]) (uq := []) (us := []) (bs := bs0 []) (now := 5) (SlR.of_osl (E := 58) (a := some ⟨lb, lo, none⟩) (c := lc) Ext.here) J (show 3 ≤ 1000 by decide) (by decide) (by decide) (by decide) (show (0 : Int) + 4 * ((3 : Nat) : Int) ≤ 1073741824 by decide)) J (fun _ => iM) (fun _ => Imp.refl _) (fun _ => iM) ?_)
 rintro ⟨ya, yc, yms⟩ hy
 rw [(ser_W (p := 0) (by decide) [104, 105] 5).1, (ser_W (p := 0) (by decide) [104, 105] 5).2]
 dsimp only [WG, Po.End.cell] at hy ⊢
 obtain ⟨m0, m1, m2, rfl⟩ : ∃ m0 m1 m2, yms = [m0, m1, m2] := by
  have := congrArg List.length hy
  simp only [Po.End.bs, List.length_map, ysW_len] at this
  match yms, this with
  | [a, b, c], _ => exact ⟨a, b, c, rfl⟩
 obtain ⟨a0, c0, q0⟩ := m0
 obtain ⟨a1, c1, q1⟩ := m1
 obtain ⟨a2, c2, q2⟩ := m2
 have hy' : [q0, q1, q2] = ([[104, 105], [], []] : List B) := hy
 simp only [List.cons.injEq, and_true] at hy'
 obtain ⟨rfl, rfl, rfl⟩ := hy'
 refine kZ J (hQ J) (qQ (bZ (eZ (kX (fun w hw => SlR.shape (SlR.of_osl (W0 := W0) (E := 32) (a := ya) (c := yc) eX) (fun q => by cases q) w hw) ?_))))
 rintro ⟨yb, yo, rfl⟩
 refine sQ (.lo 0 0 (.lo 1 0 (.lo 2 0 (.lo 3 0 (.lo 5 0 (.lo 6 0 (.lo 7 0 (.lo 8 0 (.eff2 4 false (.eff1 9 false (.eff1 10 false (.lo 11 1 (.eff1 12 false (.eff1 13 false (.done)))))) 9 false (.eff2 4 false (.eff1 10 false (.lo 11 1 (.eff1 12 false (.eff1 13 false (.done))))) 10 false (.lo 11 0 (.eff2 4 false (.eff1 12 false (.eff1 13 false (.done))) 12 false (.eff1 4 false (.eff1 13 false (.done))))))))))))))) [4, 9, 10, 12, 13] [] ([blk we [.slice (some ⟨lb, lo, none⟩) 3 lc, .pointer (some ⟨u, 0, none⟩), .pointer (some ⟨b, 0, none⟩), .pointer (some ⟨p, 0, none⟩)] 64]) ([]) mixed (by kernel_rfl) iM (Imp.none _) ?_
 refine mZ J J (rQ J J (aQ J fa64_0 J (kZ J (hZ (v := .slice (some ⟨lb, lo, none⟩) 3 lc) ti59 J (Cel.of_blk (b := we) eX J)) ?_)))
 refine mZ J J (rQ J J (aQ J fa64_3 J (kZ J (hZ (v := .pointer (some ⟨p, 0, none⟩)) ti62 J (Cel.of_blk (b := we) eX J)) ?_)))
 refine DG.eff2 ?_ ?_
 ·refine kQ J J call25 J (Imp.refl _) (channels_spec W0 _) J (fun _ => iM) (fun _ => Imp.refl _) (fun _ => iM) ?_
  rintro b40 -
  refine zZ (vQ J J (wX [.const (.int .u8 120)] (vs := [.int .u8 120]) (cells := bytesV [120]) underlying32 ti5 J J J J (by decide) (by simp [Value.cells]) (by simp [Value.cells]; rfl)) J (fun _ => iM) (fun _ => Imp.refl _) (fun _ => iM) ?_)
  rintro b45 -
  refine zZ (vQ J J (iV (b := b45) underlying32 underlying5 J fC) J (fun _ => iM) (fun _ => Imp.refl _) (fun _ => iM) ?_)
  rintro ⟨⟩ -
  refine kZ J (xQ bu75 ti75 J (cells := Inp.cells ⟨3, 2, some ⟨b45, 0, none⟩, 1, [120]⟩) J) (zZ (vQ J J (wX [.tmp 47] (vs := [.agg (Inp.cells ⟨3, 2, some ⟨b45, 0, none⟩, 1, [120]⟩).toArray]) (cells := (([(⟨3, 2, some ⟨b45, 0, none⟩, 1, [120]⟩ : Inp)].map Inp.cells).flatten)) underlying70 ti75 J J J J (by decide) (by simp [Value.cells, Inp.cells]) (by simp [Value.cells])) J (fun _ => iM) (fun _ => Imp.refl _) (fun _ => iM) ?_))
  rintro b48 -
  refine zZ (kQ J J call24 J (iM) (begin_spec W0 (osl 58 4 (some ⟨lb, lo, none⟩) lc 3 (([x0, x1, x2].map PA.cells).flatten) :: osl 156 5 (some ⟨b40, 0, none⟩) 4 4 ((chs.map Po.Cf.cells).flatten) :: osl 75 3 (some ⟨b48, 0, none⟩) 1 1 (([(⟨3, 2, some ⟨b45, 0, none⟩, 1, [120]⟩ : Inp)].map Inp.cells).flatten) :: oby 5 (some ⟨b45, 0, none⟩) 1 [120] :: blk we [.slice (some ⟨lb, lo, none⟩) 3 lc, .pointer (some ⟨u, 0, none⟩), .pointer (some ⟨b, 0, none⟩), .pointer (some ⟨p, 0, none⟩)] 64 :: Po.oend ⟨some ⟨yb, yo, none⟩, yc, [⟨a0, c0, [104, 105]⟩, ⟨a1, c1, []⟩, ⟨a2, c2, []⟩]⟩ :: Po.pool [⟨a0, c0, [104, 105]⟩, ⟨a1, c1, []⟩, ⟨a2, c2, []⟩] :: Ua.U u 40 [] ([] ++ sndAll 40 [] ((ysW 0 [104, 105]).map PS.out)) :: Fr) (p := p) (lc := lc) (cc := 4) (m := m) (f := f) (t := t) (n := 64) (c := 0) (ic := 1) (ia := some ⟨b48, 0, none⟩) (xs := [x0, x1, x2]) (ys := ysN 3) (cfs := chs) (acs := acsM) (ins := [⟨3, 2, some ⟨b45, 0, none⟩, 1, [120]⟩]) (qs := [8, 8, 8]) (o := obM 3) (σ := σ) 3 (SlR.of_osl (E := 58) (a := some ⟨lb, lo, none⟩) (c := lc) eX) (SlR.of_osl (E := 156) (a := some ⟨b40, 0, none⟩) (c := 4) eX) (SlR.of_osl (E := 75) (a := some ⟨b48, 0, none⟩) (c := 1) eX) (fun x hx => by simp only [List.mem_cons, List.not_mem_nil, or_false] at hx; subst hx; exact ⟨RdB.of_osl (E := 5) eX J J, show 1 ≤ 2 ^ 48 by decide⟩) (show 1 ≤ 2 ^ 60 by decide) J (show 3 ≤ 1000 by decide) (by decide) (by decide) adN L (by decide)) J (fun _ => iM) (fun _ => Imp.refl _) (fun _ => iM) ?_)
  rintro σ2 -
  rw [beg_M]
  dsimp only [WG]
  refine qQ (bZ (eZ (mX (Imp.trans (B := PL [x0, x1, x2] [y0 0, { y0 1 with q := 8 }, { y0 2 with q := 2, inn := [120] }] :: _) iM pl_three) ?_)))
  refine aZ (dZ J (cZ (lZ underlying67 J J) (cZ (dQ (bX J J) (v' := .bool true) (bT J)) (dZ J (iZ J J (dZ J (iZ J J (cZ (nZ underlying67 ti32 J J (by omega) (by show (0 : Int) < ((3 : Nat) : Int); decide)) ?_))))))))
  refine iZ J J (cZ (hZ (v := .slice a0 2 c0) ti32 J ((SlR.of_osl (E := 32) (a := some ⟨yb, yo, none⟩) (c := yc) eX).cel (i := 0) J)) ?_)
  refine iZ J J (cZ (oX (bs := [104, 105]) underlying32 underlying9 underlying5 J ((Po.pool_rd (ms := [(⟨a0, c0, [104, 105]⟩ : Po.Msg), ⟨a1, c1, []⟩, ⟨a2, c2, []⟩]) (m := ⟨a0, c0, [104, 105]⟩) eX (by simp)).slR)) ?_)
  refine iZ J J (cZ (vX J J) (cZ jZ ?_))
  refine dZ J (iZ J J (dZ J (iZ J J (cZ (nZ underlying67 ti32 J J (by omega) (by show (1 : Int) < ((3 : Nat) : Int); decide)) ?_))))
  refine iZ J J (cZ (hZ (v := .slice a1 0 c1) ti32 J ((SlR.of_osl (E := 32) (a := some ⟨yb, yo, none⟩) (c := yc) eX).cel (i := 1) J)) ?_)
  refine iZ J J (cZ (lZ underlying32 J J) (iZ J J (cZ (dQ (bX J J) (v' := .bool true) (bT J)) (cZ jZ ?_))))
  refine dZ J (iZ J J (dZ J (iZ J J (cQ J (iZ J J (pZ fa64_1 J (iZ J J (cZ (hZ (v := .pointer (some ⟨u, 0, none⟩)) ti60 J (Cel.of_blk (b := we) eX J)) ?_))))))))
  refine iZ J J (oZ call23 J (iM) (Ua.sent_spec W0 _ (u := u) (sz := 40) (q := []) (s := [] ++ sndAll 40 [] ((ysW 0 [104, 105]).map PS.out)) (by decide)) J ?_)
  rintro ⟨ja, jc⟩ -
  dsimp only
  refine iZ J J (cZ (oX (bs := [104, 105]) underlying32 underlying9 underlying5 J (SlR.of_osl (E := 5) (a := ja) (c := jc) (m := 2) (xs := bytesV [104, 105]) eX)) ?_)
  refine iZ J J (cZ (vX J J) (cZ jZ ?_))
  refine dZ J (iZ J J (dZ J (iZ J J (cQ J (iZ J J (pZ fa64_0 J (iZ J J (cZ (hZ (v := .slice (some ⟨lb, lo, none⟩) 3 lc) ti59 J (Cel.of_blk (b := we) eX J)) ?_))))))))
  refine iZ J J (cZ (nZ underlying59 ti58 J J (by omega) (by omega)) ?_)
  refine iZ J J (pZ fa58_1 J (iZ J J (cZ (hZ (v := .pointer (some ⟨x1.v, 0, none⟩)) ti54 J (((SlR.of_osl (E := 58) (a := some ⟨lb, lo, none⟩) (c := lc) eX).elem (i := 1) (x := x1) PA.len J) 1 _ J)) ?_)))
  refine iZ J J (oZ call35 J (iM) (Vi.queued_spec W0 _ (v := x1.v) (q := 8) (p := 0) (a := 0) (s := false) (by decide)) J ?_)
  rintro ⟨⟩ -
  refine iZ J J (cZ (dQ (bX J J) (v' := .bool true) (bT J)) (cZ jZ ?_))
  refine dZ J (iZ J J (dZ J (iZ J J (cQ J (iZ J J (pZ fa64_0 J (iZ J J (cZ (hZ (v := .slice (some ⟨lb, lo, none⟩) 3 lc) ti59 J (Cel.of_blk (b := we) eX J)) ?_))))))))
  refine iZ J J (cZ (nZ underlying59 ti58 J J (by omega) (by omega)) ?_)
  refine iZ J J (pZ fa58_1 J (iZ J J (cZ (hZ (v := .pointer (some ⟨x2.v, 0, none⟩)) ti54 J (((SlR.of_osl (E := 58) (a := some ⟨lb, lo, none⟩) (c := lc) eX).elem (i := 2) (x := x2) PA.len J) 1 _ J)) ?_)))
  refine iZ J J (oZ call35 J (iM) (Vi.queued_spec W0 _ (v := x2.v) (q := 2) (p := 0) (a := 0) (s := false) (by decide)) J ?_)
  rintro ⟨⟩ -
  refine iZ J J (cZ (dQ (bX J J) (v' := .bool true) (bT J)) (cZ jZ ?_))
  refine dZ J (iZ J J (dZ J (iZ J J (cQ J (iZ J J (pZ fa64_0 J (iZ J J (cZ (hZ (v := .slice (some ⟨lb, lo, none⟩) 3 lc) ti59 J (Cel.of_blk (b := we) eX J)) ?_))))))))
  refine iZ J J (cZ (nZ underlying59 ti58 J J (by omega) (by omega)) ?_)
  refine iZ J J (pZ fa58_2 J (iZ J J (cZ (hZ (v := .pointer (some ⟨x2.k, 0, none⟩)) ti55 J (((SlR.of_osl (E := 58) (a := some ⟨lb, lo, none⟩) (c := lc) eX).elem (i := 2) (x := x2) PA.len J) 2 _ J)) ?_)))
  refine iZ J J (oZ call36 J (iM) (Vc.in_spec W0 _ (g := x2.k) (out := []) (inn := [120])) J ?_)
  rintro ⟨ja, jc⟩ -
  dsimp only
  refine iZ J J (cZ (oX (bs := [120]) underlying32 underlying9 underlying5 J (SlR.of_osl (E := 5) (a := ja) (c := jc) (m := 1) (xs := bytesV [120]) eX)) ?_)
  refine iZ J J (cZ (vX J J) (cZ jZ ?_))
  exact gZ J (fZ (bZ (tZ (xZ J J () trivial J iM))))
 ·refine vQ J J (wX [.const (.int .u8 120)] (vs := [.int .u8 120]) (cells := bytesV [120]) underlying32 ti5 J J J J (by decide) (by simp [Value.cells]) (by simp [Value.cells]; rfl)) J (fun _ => iM) (fun _ => Imp.refl _) (fun _ => iM) ?_
  rintro b45 -
  refine DG.eff2 ?_ ?_
  ·refine kQ J J call25 J (Imp.refl _) (channels_spec W0 _) J (fun _ => iM) (fun _ => Imp.refl _) (fun _ => iM) ?_
   rintro b40 -
   refine zZ (vQ J J (iV (b := b45) underlying32 underlying5 J fC) J (fun _ => iM) (fun _ => Imp.refl _) (fun _ => iM) ?_)
   rintro ⟨⟩ -
   refine kZ J (xQ bu75 ti75 J (cells := Inp.cells ⟨3, 2, some ⟨b45, 0, none⟩, 1, [120]⟩) J) (zZ (vQ J J (wX [.tmp 47] (vs := [.agg (Inp.cells ⟨3, 2, some ⟨b45, 0, none⟩, 1, [120]⟩).toArray]) (cells := (([(⟨3, 2, some ⟨b45, 0, none⟩, 1, [120]⟩ : Inp)].map Inp.cells).flatten)) underlying70 ti75 J J J J (by decide) (by simp [Value.cells, Inp.cells]) (by simp [Value.cells])) J (fun _ => iM) (fun _ => Imp.refl _) (fun _ => iM) ?_))
   rintro b48 -
   refine zZ (kQ J J call24 J (iM) (begin_spec W0 (osl 58 4 (some ⟨lb, lo, none⟩) lc 3 (([x0, x1, x2].map PA.cells).flatten) :: osl 156 5 (some ⟨b40, 0, none⟩) 4 4 ((chs.map Po.Cf.cells).flatten) :: osl 75 3 (some ⟨b48, 0, none⟩) 1 1 (([(⟨3, 2, some ⟨b45, 0, none⟩, 1, [120]⟩ : Inp)].map Inp.cells).flatten) :: oby 5 (some ⟨b45, 0, none⟩) 1 [120] :: blk we [.slice (some ⟨lb, lo, none⟩) 3 lc, .pointer (some ⟨u, 0, none⟩), .pointer (some ⟨b, 0, none⟩), .pointer (some ⟨p, 0, none⟩)] 64 :: Po.oend ⟨some ⟨yb, yo, none⟩, yc, [⟨a0, c0, [104, 105]⟩, ⟨a1, c1, []⟩, ⟨a2, c2, []⟩]⟩ :: Po.pool [⟨a0, c0, [104, 105]⟩, ⟨a1, c1, []⟩, ⟨a2, c2, []⟩] :: Ua.U u 40 [] ([] ++ sndAll 40 [] ((ysW 0 [104, 105]).map PS.out)) :: Fr) (p := p) (lc := lc) (cc := 4) (m := m) (f := f) (t := t) (n := 64) (c := 0) (ic := 1) (ia := some ⟨b48, 0, none⟩) (xs := [x0, x1, x2]) (ys := ysN 3) (cfs := chs) (acs := acsM) (ins := [⟨3, 2, some ⟨b45, 0, none⟩, 1, [120]⟩]) (qs := [8, 8, 8]) (o := obM 3) (σ := σ) 3 (SlR.of_osl (E := 58) (a := some ⟨lb, lo, none⟩) (c := lc) eX) (SlR.of_osl (E := 156) (a := some ⟨b40, 0, none⟩) (c := 4) eX) (SlR.of_osl (E := 75) (a := some ⟨b48, 0, none⟩) (c := 1) eX) (fun x hx => by simp only [List.mem_cons, List.not_mem_nil, or_false] at hx; subst hx; exact ⟨RdB.of_osl (E := 5) eX J J, show 1 ≤ 2 ^ 48 by decide⟩) (show 1 ≤ 2 ^ 60 by decide) J (show 3 ≤ 1000 by decide) (by decide) (by decide) adN L (by decide)) J (fun _ => iM) (fun _ => Imp.refl _) (fun _ => iM) ?_)
   rintro σ2 -
   rw [beg_M]
   dsimp only [WG]
   refine qQ (bZ (eZ (mX (Imp.trans (B := PL [x0, x1, x2] [y0 0, { y0 1 with q := 8 }, { y0 2 with q := 2, inn := [120] }] :: _) iM pl_three) ?_)))
   refine aZ (dZ J (cZ (lZ underlying67 J J) (cZ (dQ (bX J J) (v' := .bool true) (bT J)) (dZ J (iZ J J (dZ J (iZ J J (cZ (nZ underlying67 ti32 J J (by omega) (by show (0 : Int) < ((3 : Nat) : Int); decide)) ?_))))))))
   refine iZ J J (cZ (hZ (v := .slice a0 2 c0) ti32 J ((SlR.of_osl (E := 32) (a := some ⟨yb, yo, none⟩) (c := yc) eX).cel (i := 0) J)) ?_)
   refine iZ J J (cZ (oX (bs := [104, 105]) underlying32 underlying9 underlying5 J ((Po.pool_rd (ms := [(⟨a0, c0, [104, 105]⟩ : Po.Msg), ⟨a1, c1, []⟩, ⟨a2, c2, []⟩]) (m := ⟨a0, c0, [104, 105]⟩) eX (by simp)).slR)) ?_)
   refine iZ J J (cZ (vX J J) (cZ jZ ?_))
   refine dZ J (iZ J J (dZ J (iZ J J (cZ (nZ underlying67 ti32 J J (by omega) (by show (1 : Int) < ((3 : Nat) : Int); decide)) ?_))))
   refine iZ J J (cZ (hZ (v := .slice a1 0 c1) ti32 J ((SlR.of_osl (E := 32) (a := some ⟨yb, yo, none⟩) (c := yc) eX).cel (i := 1) J)) ?_)
   refine iZ J J (cZ (lZ underlying32 J J) (iZ J J (cZ (dQ (bX J J) (v' := .bool true) (bT J)) (cZ jZ ?_))))
   refine dZ J (iZ J J (dZ J (iZ J J (cQ J (iZ J J (pZ fa64_1 J (iZ J J (cZ (hZ (v := .pointer (some ⟨u, 0, none⟩)) ti60 J (Cel.of_blk (b := we) eX J)) ?_))))))))
   refine iZ J J (oZ call23 J (iM) (Ua.sent_spec W0 _ (u := u) (sz := 40) (q := []) (s := [] ++ sndAll 40 [] ((ysW 0 [104, 105]).map PS.out)) (by decide)) J ?_)
   rintro ⟨ja, jc⟩ -
   dsimp only
   refine iZ J J (cZ (oX (bs := [104, 105]) underlying32 underlying9 underlying5 J (SlR.of_osl (E := 5) (a := ja) (c := jc) (m := 2) (xs := bytesV [104, 105]) eX)) ?_)
   refine iZ J J (cZ (vX J J) (cZ jZ ?_))
   refine dZ J (iZ J J (dZ J (iZ J J (cQ J (iZ J J (pZ fa64_0 J (iZ J J (cZ (hZ (v := .slice (some ⟨lb, lo, none⟩) 3 lc) ti59 J (Cel.of_blk (b := we) eX J)) ?_))))))))
   refine iZ J J (cZ (nZ underlying59 ti58 J J (by omega) (by omega)) ?_)
   refine iZ J J (pZ fa58_1 J (iZ J J (cZ (hZ (v := .pointer (some ⟨x1.v, 0, none⟩)) ti54 J (((SlR.of_osl (E := 58) (a := some ⟨lb, lo, none⟩) (c := lc) eX).elem (i := 1) (x := x1) PA.len J) 1 _ J)) ?_)))
   refine iZ J J (oZ call35 J (iM) (Vi.queued_spec W0 _ (v := x1.v) (q := 8) (p := 0) (a := 0) (s := false) (by decide)) J ?_)
   rintro ⟨⟩ -
   refine iZ J J (cZ (dQ (bX J J) (v' := .bool true) (bT J)) (cZ jZ ?_))
   refine dZ J (iZ J J (dZ J (iZ J J (cQ J (iZ J J (pZ fa64_0 J (iZ J J (cZ (hZ (v := .slice (some ⟨lb, lo, none⟩) 3 lc) ti59 J (Cel.of_blk (b := we) eX J)) ?_))))))))
   refine iZ J J (cZ (nZ underlying59 ti58 J J (by omega) (by omega)) ?_)
   refine iZ J J (pZ fa58_1 J (iZ J J (cZ (hZ (v := .pointer (some ⟨x2.v, 0, none⟩)) ti54 J (((SlR.of_osl (E := 58) (a := some ⟨lb, lo, none⟩) (c := lc) eX).elem (i := 2) (x := x2) PA.len J) 1 _ J)) ?_)))
   refine iZ J J (oZ call35 J (iM) (Vi.queued_spec W0 _ (v := x2.v) (q := 2) (p := 0) (a := 0) (s := false) (by decide)) J ?_)
   rintro ⟨⟩ -
   refine iZ J J (cZ (dQ (bX J J) (v' := .bool true) (bT J)) (cZ jZ ?_))
   refine dZ J (iZ J J (dZ J (iZ J J (cQ J (iZ J J (pZ fa64_0 J (iZ J J (cZ (hZ (v := .slice (some ⟨lb, lo, none⟩) 3 lc) ti59 J (Cel.of_blk (b := we) eX J)) ?_))))))))
   refine iZ J J (cZ (nZ underlying59 ti58 J J (by omega) (by omega)) ?_)
   refine iZ J J (pZ fa58_2 J (iZ J J (cZ (hZ (v := .pointer (some ⟨x2.k, 0, none⟩)) ti55 J (((SlR.of_osl (E := 58) (a := some ⟨lb, lo, none⟩) (c := lc) eX).elem (i := 2) (x := x2) PA.len J) 2 _ J)) ?_)))
   refine iZ J J (oZ call36 J (iM) (Vc.in_spec W0 _ (g := x2.k) (out := []) (inn := [120])) J ?_)
   rintro ⟨ja, jc⟩ -
   dsimp only
   refine iZ J J (cZ (oX (bs := [120]) underlying32 underlying9 underlying5 J (SlR.of_osl (E := 5) (a := ja) (c := jc) (m := 1) (xs := bytesV [120]) eX)) ?_)
   refine iZ J J (cZ (vX J J) (cZ jZ ?_))
   exact gZ J (fZ (bZ (tZ (xZ J J () trivial J iM))))
  ·refine vQ J J (iV (b := b45) underlying32 underlying5 J fC) J (fun _ => iM) (fun _ => Imp.refl _) (fun _ => iM) ?_
   rintro ⟨⟩ -
   refine kZ J (xQ bu75 ti75 J (cells := Inp.cells ⟨3, 2, some ⟨b45, 0, none⟩, 1, [120]⟩) J) (DG.eff2 ?_ ?_)
   ·refine kQ J J call25 J (Imp.refl _) (channels_spec W0 _) J (fun _ => iM) (fun _ => Imp.refl _) (fun _ => iM) ?_
    rintro b40 -
    refine zZ (vQ J J (wX [.tmp 47] (vs := [.agg (Inp.cells ⟨3, 2, some ⟨b45, 0, none⟩, 1, [120]⟩).toArray]) (cells := (([(⟨3, 2, some ⟨b45, 0, none⟩, 1, [120]⟩ : Inp)].map Inp.cells).flatten)) underlying70 ti75 J J J J (by decide) (by simp [Value.cells, Inp.cells]) (by simp [Value.cells])) J (fun _ => iM) (fun _ => Imp.refl _) (fun _ => iM) ?_)
    rintro b48 -
    refine zZ (kQ J J call24 J (iM) (begin_spec W0 (osl 58 4 (some ⟨lb, lo, none⟩) lc 3 (([x0, x1, x2].map PA.cells).flatten) :: osl 156 5 (some ⟨b40, 0, none⟩) 4 4 ((chs.map Po.Cf.cells).flatten) :: osl 75 3 (some ⟨b48, 0, none⟩) 1 1 (([(⟨3, 2, some ⟨b45, 0, none⟩, 1, [120]⟩ : Inp)].map Inp.cells).flatten) :: oby 5 (some ⟨b45, 0, none⟩) 1 [120] :: blk we [.slice (some ⟨lb, lo, none⟩) 3 lc, .pointer (some ⟨u, 0, none⟩), .pointer (some ⟨b, 0, none⟩), .pointer (some ⟨p, 0, none⟩)] 64 :: Po.oend ⟨some ⟨yb, yo, none⟩, yc, [⟨a0, c0, [104, 105]⟩, ⟨a1, c1, []⟩, ⟨a2, c2, []⟩]⟩ :: Po.pool [⟨a0, c0, [104, 105]⟩, ⟨a1, c1, []⟩, ⟨a2, c2, []⟩] :: Ua.U u 40 [] ([] ++ sndAll 40 [] ((ysW 0 [104, 105]).map PS.out)) :: Fr) (p := p) (lc := lc) (cc := 4) (m := m) (f := f) (t := t) (n := 64) (c := 0) (ic := 1) (ia := some ⟨b48, 0, none⟩) (xs := [x0, x1, x2]) (ys := ysN 3) (cfs := chs) (acs := acsM) (ins := [⟨3, 2, some ⟨b45, 0, none⟩, 1, [120]⟩]) (qs := [8, 8, 8]) (o := obM 3) (σ := σ) 3 (SlR.of_osl (E := 58) (a := some ⟨lb, lo, none⟩) (c := lc) eX) (SlR.of_osl (E := 156) (a := some ⟨b40, 0, none⟩) (c := 4) eX) (SlR.of_osl (E := 75) (a := some ⟨b48, 0, none⟩) (c := 1) eX) (fun x hx => by simp only [List.mem_cons, List.not_mem_nil, or_false] at hx; subst hx; exact ⟨RdB.of_osl (E := 5) eX J J, show 1 ≤ 2 ^ 48 by decide⟩) (show 1 ≤ 2 ^ 60 by decide) J (show 3 ≤ 1000 by decide) (by decide) (by decide) adN L (by decide)) J (fun _ => iM) (fun _ => Imp.refl _) (fun _ => iM) ?_)
    rintro σ2 -
    rw [beg_M]
    dsimp only [WG]
    refine qQ (bZ (eZ (mX (Imp.trans (B := PL [x0, x1, x2] [y0 0, { y0 1 with q := 8 }, { y0 2 with q := 2, inn := [120] }] :: _) iM pl_three) ?_)))
    refine aZ (dZ J (cZ (lZ underlying67 J J) (cZ (dQ (bX J J) (v' := .bool true) (bT J)) (dZ J (iZ J J (dZ J (iZ J J (cZ (nZ underlying67 ti32 J J (by omega) (by show (0 : Int) < ((3 : Nat) : Int); decide)) ?_))))))))
    refine iZ J J (cZ (hZ (v := .slice a0 2 c0) ti32 J ((SlR.of_osl (E := 32) (a := some ⟨yb, yo, none⟩) (c := yc) eX).cel (i := 0) J)) ?_)
    refine iZ J J (cZ (oX (bs := [104, 105]) underlying32 underlying9 underlying5 J ((Po.pool_rd (ms := [(⟨a0, c0, [104, 105]⟩ : Po.Msg), ⟨a1, c1, []⟩, ⟨a2, c2, []⟩]) (m := ⟨a0, c0, [104, 105]⟩) eX (by simp)).slR)) ?_)
    refine iZ J J (cZ (vX J J) (cZ jZ ?_))
    refine dZ J (iZ J J (dZ J (iZ J J (cZ (nZ underlying67 ti32 J J (by omega) (by show (1 : Int) < ((3 : Nat) : Int); decide)) ?_))))
    refine iZ J J (cZ (hZ (v := .slice a1 0 c1) ti32 J ((SlR.of_osl (E := 32) (a := some ⟨yb, yo, none⟩) (c := yc) eX).cel (i := 1) J)) ?_)
    refine iZ J J (cZ (lZ underlying32 J J) (iZ J J (cZ (dQ (bX J J) (v' := .bool true) (bT J)) (cZ jZ ?_))))
    refine dZ J (iZ J J (dZ J (iZ J J (cQ J (iZ J J (pZ fa64_1 J (iZ J J (cZ (hZ (v := .pointer (some ⟨u, 0, none⟩)) ti60 J (Cel.of_blk (b := we) eX J)) ?_))))))))
    refine iZ J J (oZ call23 J (iM) (Ua.sent_spec W0 _ (u := u) (sz := 40) (q := []) (s := [] ++ sndAll 40 [] ((ysW 0 [104, 105]).map PS.out)) (by decide)) J ?_)
    rintro ⟨ja, jc⟩ -
    dsimp only
    refine iZ J J (cZ (oX (bs := [104, 105]) underlying32 underlying9 underlying5 J (SlR.of_osl (E := 5) (a := ja) (c := jc) (m := 2) (xs := bytesV [104, 105]) eX)) ?_)
    refine iZ J J (cZ (vX J J) (cZ jZ ?_))
    refine dZ J (iZ J J (dZ J (iZ J J (cQ J (iZ J J (pZ fa64_0 J (iZ J J (cZ (hZ (v := .slice (some ⟨lb, lo, none⟩) 3 lc) ti59 J (Cel.of_blk (b := we) eX J)) ?_))))))))
    refine iZ J J (cZ (nZ underlying59 ti58 J J (by omega) (by omega)) ?_)
    refine iZ J J (pZ fa58_1 J (iZ J J (cZ (hZ (v := .pointer (some ⟨x1.v, 0, none⟩)) ti54 J (((SlR.of_osl (E := 58) (a := some ⟨lb, lo, none⟩) (c := lc) eX).elem (i := 1) (x := x1) PA.len J) 1 _ J)) ?_)))
    refine iZ J J (oZ call35 J (iM) (Vi.queued_spec W0 _ (v := x1.v) (q := 8) (p := 0) (a := 0) (s := false) (by decide)) J ?_)
    rintro ⟨⟩ -
    refine iZ J J (cZ (dQ (bX J J) (v' := .bool true) (bT J)) (cZ jZ ?_))
    refine dZ J (iZ J J (dZ J (iZ J J (cQ J (iZ J J (pZ fa64_0 J (iZ J J (cZ (hZ (v := .slice (some ⟨lb, lo, none⟩) 3 lc) ti59 J (Cel.of_blk (b := we) eX J)) ?_))))))))
    refine iZ J J (cZ (nZ underlying59 ti58 J J (by omega) (by omega)) ?_)
    refine iZ J J (pZ fa58_1 J (iZ J J (cZ (hZ (v := .pointer (some ⟨x2.v, 0, none⟩)) ti54 J (((SlR.of_osl (E := 58) (a := some ⟨lb, lo, none⟩) (c := lc) eX).elem (i := 2) (x := x2) PA.len J) 1 _ J)) ?_)))
    refine iZ J J (oZ call35 J (iM) (Vi.queued_spec W0 _ (v := x2.v) (q := 2) (p := 0) (a := 0) (s := false) (by decide)) J ?_)
    rintro ⟨⟩ -
    refine iZ J J (cZ (dQ (bX J J) (v' := .bool true) (bT J)) (cZ jZ ?_))
    refine dZ J (iZ J J (dZ J (iZ J J (cQ J (iZ J J (pZ fa64_0 J (iZ J J (cZ (hZ (v := .slice (some ⟨lb, lo, none⟩) 3 lc) ti59 J (Cel.of_blk (b := we) eX J)) ?_))))))))
    refine iZ J J (cZ (nZ underlying59 ti58 J J (by omega) (by omega)) ?_)
    refine iZ J J (pZ fa58_2 J (iZ J J (cZ (hZ (v := .pointer (some ⟨x2.k, 0, none⟩)) ti55 J (((SlR.of_osl (E := 58) (a := some ⟨lb, lo, none⟩) (c := lc) eX).elem (i := 2) (x := x2) PA.len J) 2 _ J)) ?_)))
    refine iZ J J (oZ call36 J (iM) (Vc.in_spec W0 _ (g := x2.k) (out := []) (inn := [120])) J ?_)
    rintro ⟨ja, jc⟩ -
    dsimp only
    refine iZ J J (cZ (oX (bs := [120]) underlying32 underlying9 underlying5 J (SlR.of_osl (E := 5) (a := ja) (c := jc) (m := 1) (xs := bytesV [120]) eX)) ?_)
    refine iZ J J (cZ (vX J J) (cZ jZ ?_))
    exact gZ J (fZ (bZ (tZ (xZ J J () trivial J iM))))
   ·refine vQ J J (wX [.tmp 47] (vs := [.agg (Inp.cells ⟨3, 2, some ⟨b45, 0, none⟩, 1, [120]⟩).toArray]) (cells := (([(⟨3, 2, some ⟨b45, 0, none⟩, 1, [120]⟩ : Inp)].map Inp.cells).flatten)) underlying70 ti75 J J J J (by decide) (by simp [Value.cells, Inp.cells]) (by simp [Value.cells])) J (fun _ => iM) (fun _ => Imp.refl _) (fun _ => iM) ?_
    rintro b48 -
    refine zZ (kQ J J call25 J (Imp.refl _) (channels_spec W0 _) J (fun _ => iM) (fun _ => Imp.refl _) (fun _ => iM) ?_)
    rintro b40 -
    refine zZ (kQ J J call24 J (iM) (begin_spec W0 (osl 58 4 (some ⟨lb, lo, none⟩) lc 3 (([x0, x1, x2].map PA.cells).flatten) :: osl 156 5 (some ⟨b40, 0, none⟩) 4 4 ((chs.map Po.Cf.cells).flatten) :: osl 75 3 (some ⟨b48, 0, none⟩) 1 1 (([(⟨3, 2, some ⟨b45, 0, none⟩, 1, [120]⟩ : Inp)].map Inp.cells).flatten) :: oby 5 (some ⟨b45, 0, none⟩) 1 [120] :: blk we [.slice (some ⟨lb, lo, none⟩) 3 lc, .pointer (some ⟨u, 0, none⟩), .pointer (some ⟨b, 0, none⟩), .pointer (some ⟨p, 0, none⟩)] 64 :: Po.oend ⟨some ⟨yb, yo, none⟩, yc, [⟨a0, c0, [104, 105]⟩, ⟨a1, c1, []⟩, ⟨a2, c2, []⟩]⟩ :: Po.pool [⟨a0, c0, [104, 105]⟩, ⟨a1, c1, []⟩, ⟨a2, c2, []⟩] :: Ua.U u 40 [] ([] ++ sndAll 40 [] ((ysW 0 [104, 105]).map PS.out)) :: Fr) (p := p) (lc := lc) (cc := 4) (m := m) (f := f) (t := t) (n := 64) (c := 0) (ic := 1) (ia := some ⟨b48, 0, none⟩) (xs := [x0, x1, x2]) (ys := ysN 3) (cfs := chs) (acs := acsM) (ins := [⟨3, 2, some ⟨b45, 0, none⟩, 1, [120]⟩]) (qs := [8, 8, 8]) (o := obM 3) (σ := σ) 3 (SlR.of_osl (E := 58) (a := some ⟨lb, lo, none⟩) (c := lc) eX) (SlR.of_osl (E := 156) (a := some ⟨b40, 0, none⟩) (c := 4) eX) (SlR.of_osl (E := 75) (a := some ⟨b48, 0, none⟩) (c := 1) eX) (fun x hx => by simp only [List.mem_cons, List.not_mem_nil, or_false] at hx; subst hx; exact ⟨RdB.of_osl (E := 5) eX J J, show 1 ≤ 2 ^ 48 by decide⟩) (show 1 ≤ 2 ^ 60 by decide) J (show 3 ≤ 1000 by decide) (by decide) (by decide) adN L (by decide)) J (fun _ => iM) (fun _ => Imp.refl _) (fun _ => iM) ?_)
    rintro σ2 -
    rw [beg_M]
    dsimp only [WG]
    refine qQ (bZ (eZ (mX (Imp.trans (B := PL [x0, x1, x2] [y0 0, { y0 1 with q := 8 }, { y0 2 with q := 2, inn := [120] }] :: _) iM pl_three) ?_)))
    refine aZ (dZ J (cZ (lZ underlying67 J J) (cZ (dQ (bX J J) (v' := .bool true) (bT J)) (dZ J (iZ J J (dZ J (iZ J J (cZ (nZ underlying67 ti32 J J (by omega) (by show (0 : Int) < ((3 : Nat) : Int); decide)) ?_))))))))
    refine iZ J J (cZ (hZ (v := .slice a0 2 c0) ti32 J ((SlR.of_osl (E := 32) (a := some ⟨yb, yo, none⟩) (c := yc) eX).cel (i := 0) J)) ?_)
    refine iZ J J (cZ (oX (bs := [104, 105]) underlying32 underlying9 underlying5 J ((Po.pool_rd (ms := [(⟨a0, c0, [104, 105]⟩ : Po.Msg), ⟨a1, c1, []⟩, ⟨a2, c2, []⟩]) (m := ⟨a0, c0, [104, 105]⟩) eX (by simp)).slR)) ?_)
    refine iZ J J (cZ (vX J J) (cZ jZ ?_))
    refine dZ J (iZ J J (dZ J (iZ J J (cZ (nZ underlying67 ti32 J J (by omega) (by show (1 : Int) < ((3 : Nat) : Int); decide)) ?_))))
    refine iZ J J (cZ (hZ (v := .slice a1 0 c1) ti32 J ((SlR.of_osl (E := 32) (a := some ⟨yb, yo, none⟩) (c := yc) eX).cel (i := 1) J)) ?_)
    refine iZ J J (cZ (lZ underlying32 J J) (iZ J J (cZ (dQ (bX J J) (v' := .bool true) (bT J)) (cZ jZ ?_))))
    refine dZ J (iZ J J (dZ J (iZ J J (cQ J (iZ J J (pZ fa64_1 J (iZ J J (cZ (hZ (v := .pointer (some ⟨u, 0, none⟩)) ti60 J (Cel.of_blk (b := we) eX J)) ?_))))))))
    refine iZ J J (oZ call23 J (iM) (Ua.sent_spec W0 _ (u := u) (sz := 40) (q := []) (s := [] ++ sndAll 40 [] ((ysW 0 [104, 105]).map PS.out)) (by decide)) J ?_)
    rintro ⟨ja, jc⟩ -
    dsimp only
    refine iZ J J (cZ (oX (bs := [104, 105]) underlying32 underlying9 underlying5 J (SlR.of_osl (E := 5) (a := ja) (c := jc) (m := 2) (xs := bytesV [104, 105]) eX)) ?_)
    refine iZ J J (cZ (vX J J) (cZ jZ ?_))
    refine dZ J (iZ J J (dZ J (iZ J J (cQ J (iZ J J (pZ fa64_0 J (iZ J J (cZ (hZ (v := .slice (some ⟨lb, lo, none⟩) 3 lc) ti59 J (Cel.of_blk (b := we) eX J)) ?_))))))))
    refine iZ J J (cZ (nZ underlying59 ti58 J J (by omega) (by omega)) ?_)
    refine iZ J J (pZ fa58_1 J (iZ J J (cZ (hZ (v := .pointer (some ⟨x1.v, 0, none⟩)) ti54 J (((SlR.of_osl (E := 58) (a := some ⟨lb, lo, none⟩) (c := lc) eX).elem (i := 1) (x := x1) PA.len J) 1 _ J)) ?_)))
    refine iZ J J (oZ call35 J (iM) (Vi.queued_spec W0 _ (v := x1.v) (q := 8) (p := 0) (a := 0) (s := false) (by decide)) J ?_)
    rintro ⟨⟩ -
    refine iZ J J (cZ (dQ (bX J J) (v' := .bool true) (bT J)) (cZ jZ ?_))
    refine dZ J (iZ J J (dZ J (iZ J J (cQ J (iZ J J (pZ fa64_0 J (iZ J J (cZ (hZ (v := .slice (some ⟨lb, lo, none⟩) 3 lc) ti59 J (Cel.of_blk (b := we) eX J)) ?_))))))))
    refine iZ J J (cZ (nZ underlying59 ti58 J J (by omega) (by omega)) ?_)
    refine iZ J J (pZ fa58_1 J (iZ J J (cZ (hZ (v := .pointer (some ⟨x2.v, 0, none⟩)) ti54 J (((SlR.of_osl (E := 58) (a := some ⟨lb, lo, none⟩) (c := lc) eX).elem (i := 2) (x := x2) PA.len J) 1 _ J)) ?_)))
    refine iZ J J (oZ call35 J (iM) (Vi.queued_spec W0 _ (v := x2.v) (q := 2) (p := 0) (a := 0) (s := false) (by decide)) J ?_)
    rintro ⟨⟩ -
    refine iZ J J (cZ (dQ (bX J J) (v' := .bool true) (bT J)) (cZ jZ ?_))
    refine dZ J (iZ J J (dZ J (iZ J J (cQ J (iZ J J (pZ fa64_0 J (iZ J J (cZ (hZ (v := .slice (some ⟨lb, lo, none⟩) 3 lc) ti59 J (Cel.of_blk (b := we) eX J)) ?_))))))))
    refine iZ J J (cZ (nZ underlying59 ti58 J J (by omega) (by omega)) ?_)
    refine iZ J J (pZ fa58_2 J (iZ J J (cZ (hZ (v := .pointer (some ⟨x2.k, 0, none⟩)) ti55 J (((SlR.of_osl (E := 58) (a := some ⟨lb, lo, none⟩) (c := lc) eX).elem (i := 2) (x := x2) PA.len J) 2 _ J)) ?_)))
    refine iZ J J (oZ call36 J (iM) (Vc.in_spec W0 _ (g := x2.k) (out := []) (inn := [120])) J ?_)
    rintro ⟨ja, jc⟩ -
    dsimp only
    refine iZ J J (cZ (oX (bs := [120]) underlying32 underlying9 underlying5 J (SlR.of_osl (E := 5) (a := ja) (c := jc) (m := 1) (xs := bytesV [120]) eX)) ?_)
    refine iZ J J (cZ (vX J J) (cZ jZ ?_))
    exact gZ J (fZ (bZ (tZ (xZ J J () trivial J iM))))
end
end Go.Proofs.YtphljkplokjonaaGreat.Io
namespace Go.Proofs.YtphljkplokjonaaGreat.Io
open Go Go.Sl Go.RowKit Go.Proofs Go.Proofs.YtphljkplokjonaaGreat.T Go.Proofs.YtphljkplokjonaaGreat.Sp Tryz
open Go.Proofs.YtphljkplokjonaaGreat.Hc (md md_range)
open Go.Proofs.YtphljkplokjonaaGreat.Vd (Ak Rq)
open Go.Proofs.YtphljkplokjonaaGreat.Bk (Jb)
structure IAct where
 Kind : Int
 Part : Int
 N : Int
 Ba : Option Go.Addr
 Bc : Nat
 B : List UInt8
 Write : Bool
 Sector : Int
 Addr : Int
def IAct.cells (o : IAct) : List Value := [.int .i64 o.Kind, .int .i64 o.Part, .int .i64 o.N, .slice o.Ba o.B.length o.Bc, .bool o.Write, .int .i64 o.Sector, .int .u32 o.Addr]
structure IAct.OK (W : World) (o : IAct) : Prop where
 mk ::
 Kind : (Lit.int .i64 o.Kind).wf = true
 Part : (Lit.int .i64 o.Part).wf = true
 N : (Lit.int .i64 o.N).wf = true
 Bc : o.B.length ≤ o.Bc
 B : SlAt W 1 o.Ba o.B.length (bytesV o.B)
 Bm : o.B.length ≤ reachBytes
 Sector : (Lit.int .i64 o.Sector).wf = true
 Addr : (Lit.int .u32 o.Addr).wf = true
theorem IAct.opn (W : World) : Opn prog W 52 (fun cs => ∃ o : IAct, cs = o.cells ∧ o.OK W) := (Opn.of_fields underlying52 (by kernel_rfl) (by kernel_rfl) (.cons (s := 1) (Opn.int underlying3) (.cons (s := 1) (Opn.int underlying3) (.cons (s := 1) (Opn.int underlying3) (.cons (s := 1) (Opn.bytes underlying32 underlying5 (by kernel_rfl) (by kernel_rfl)) (.cons (s := 1) (Opn.bool underlying4) (.cons (s := 1) (Opn.int underlying3) (.cons (s := 1) (Opn.int underlying27) .nil)))))))).mono fun cs h => by
 obtain ⟨_, _, rfl, _, ⟨xKind, rfl, wKind⟩, ⟨_, _, rfl, _, ⟨xPart, rfl, wPart⟩, ⟨_, _, rfl, _, ⟨xN, rfl, wN⟩, ⟨_, _, rfl, _, ⟨xBa, xBc, xB, rfl, wBc, wB, wBm⟩, ⟨_, _, rfl, _, ⟨xWrite, rfl⟩, ⟨_, _, rfl, _, ⟨xSector, rfl, wSector⟩, ⟨_, _, rfl, _, ⟨xAddr, rfl, wAddr⟩, rfl⟩⟩⟩⟩⟩⟩⟩ := h
 exact ⟨⟨xKind, xPart, xN, xBa, xBc, xB, xWrite, xSector, xAddr⟩, rfl, ⟨wKind, wPart, wN, wBc, wB, wBm, wSector, wAddr⟩⟩
theorem IAct.len (o : IAct) : o.cells.length = 7 := rfl
theorem IAct.ones (o : IAct) : ∀ v ∈ o.cells, one v = true := by simp [IAct.cells, one]
theorem IAct.list (W : World) : Opn prog W 47 (fun cs => ∃ a c, ∃ xs : List IAct, cs = [.slice a xs.length c] ∧ xs.length ≤ c ∧ (∀ x ∈ xs, IAct.OK W x) ∧ SlAt W 7 a xs.length ((xs.map IAct.cells).flatten) ∧ xs.length * 72 ≤ reachBytes) :=
 Opn.recs (sz := 7) (by' := 72) underlying47 (by kernel_rfl) (by decide) (by kernel_rfl) (IAct.opn W)
/-! ### The world, and what an act does to it -/
structure IW where
 ys : List PS
 uq : B
 us : B
 bs : Bk.Bs
 acs : List Po.AC
 o : Ob
def wrC (b : B) (y : PS) : PS := { y with out := y.out ++ b.take (64 - y.out.length) }
def rdC (n : Int) (y : PS) : PS := { y with inn := y.inn.drop (Vc.kOf n y.inn.length) }
def subC (a : IAct) (y : PS) : PS := { y with d := (Hc.subP y.d a.Write a.Sector a.Addr a.B a.N).2.2 }
def relC (n : Int) (y : PS) : PS := { y with q := 0, p := y.p ||| (if Vi.due y.at' y.set n then Vi.setBit y.q 0 true else y.q), at' := if Vi.due y.at' y.set n then 0 else y.at', set := y.set && !Vi.due y.at' y.set n }
def ptI (a : IAct) : Nat := (md 3 a.Part).toNat
def doW (a : IAct) (ins : List Inp) (S : IW) : IW :=
 if a.Kind = 0 then { S with ys := serY a.N S.ys S.bs, uq := [], us := S.us ++ sndAll 40 S.uq (S.ys.map PS.out), bs := serB a.N S.ys S.bs }
 else if a.Kind = 1 then { S with ys := begY a.N chs S.acs ins S.ys, acs := S.acs.map Po.AC.tr, o := begO a.N chs S.acs ins S.ys S.o }
 else if a.Kind = 2 then { S with ys := S.ys.modify (ptI a) (wrC a.B) }
 else if a.Kind = 3 then { S with ys := S.ys.modify (ptI a) (rdC a.N) }
 else if a.Kind = 4 then { S with ys := S.ys.modify (ptI a) (subC a) }
 else if a.Kind = 5 then { S with acs := (Hc.sndP S.acs (ptI a) a.N a.B).2 }
 else if a.Kind = 6 then { S with acs := (Hc.rcvP S.acs (ptI a) a.N).2.2 }
 else if a.Kind = 7 then { S with ys := S.ys.modify (ptI a) (relC a.N) }
 else S
/-! ### What the partition 2 sees in the end -/
def reg (bs : B) (s : Nat) : B := if s < 6 then Bk.getS bs (12 + s) else []
def upR (rg : Nat → B) (s : Nat) (d : B) (t : Nat) : B := if t = s then d else rg t
def stA (rg : Nat → B) (a : Ak) : Ak × (Nat → B) :=
 if a.st = 2 then (a, rg) else if a.write then ({ a with st := 2 }, upR rg a.sector.toNat a.data) else ({ a with st := 2, data := rg a.sector.toNat }, rg)
def absL : (Nat → B) → List Ak → List Ak × (Nat → B)
 | rg, [] => ([], rg)
 | rg, a :: el => ((stA rg a).1 :: (absL (stA rg a).2 el).1, (absL (stA rg a).2 el).2)
structure VA where
 y : PS
 rg : Nat → B
 vw : Nat → Option (Nat × B)
def absY (rg : Nat → B) (y : PS) : PS := { y with d := { y.d with asks := (absL rg y.d.asks).1 } }
def viewY (y : PS) (bs : B) (vw : Nat → Option (Nat × B)) : VA := ⟨absY (reg bs) y, (absL (reg bs) y.d.asks).2, vw⟩
theorem absL_app : ∀ (el bs : List Ak) {rg : Nat → B}, absL rg (el ++ bs) = ((absL rg el).1 ++ (absL (absL rg el).2 bs).1, (absL (absL rg el).2 bs).2)
 | [], bs, rg => rfl
 | a :: el, bs, rg => by
  show ((stA rg a).1 :: (absL (stA rg a).2 (el ++ bs)).1, (absL (stA rg a).2 (el ++ bs)).2) = _
  rw [absL_app el bs]; rfl
theorem absL_two {rg : Nat → B} : ∀ (el : List Ak), (∀ a ∈ el, a.st = 2) → absL rg el = (el, rg)
 | [], _ => rfl
 | a :: el, h => by
  have e : stA rg a = (a, rg) := if_pos (h a (List.mem_cons_self ..))
  show ((stA rg a).1 :: (absL (stA rg a).2 el).1, (absL (stA rg a).2 el).2) = _
  rw [e]
  show (a :: (absL rg el).1, (absL rg el).2) = _
  rw [absL_two el fun b hb => h b (List.mem_cons_of_mem _ hb)]
theorem stA_st {rg : Nat → B} {a : Ak} : (stA rg a).1.st = 2 := by
 unfold stA; split
 ·assumption
 ·split <;> rfl
theorem stA_w {rg : Nat → B} {a : Ak} (h : ¬ a.st = 2) (hw : a.write = true) : stA rg a = ({ a with st := 2 }, upR rg a.sector.toNat a.data) := by unfold stA; rw [if_neg h, if_pos hw]
theorem stA_r {rg : Nat → B} {a : Ak} (h : ¬ a.st = 2) (hw : a.write = false) : stA rg a = ({ a with st := 2, data := rg a.sector.toNat }, rg) := by unfold stA; rw [if_neg h, if_neg (by rw [hw]; decide)]
theorem stA_iss {rg : Nat → B} {a : Ak} : stA rg (Vd.iss a) = stA rg a := by
 by_cases h : a.st = 0
 ·rw [Vd.iss_one h]
  have h2 : ¬ a.st = 2 := by omega
  unfold stA
  simp only [h2, if_false, show ¬ (1 : Int) = 2 by decide]
 ·rw [Vd.iss_no h]
theorem absL_iss : ∀ (el : List Ak) {rg : Nat → B}, absL rg (el.map Vd.iss) = absL rg el
 | [], rg => rfl
 | a :: el, rg => by
  show ((stA rg (Vd.iss a)).1 :: (absL (stA rg (Vd.iss a)).2 (el.map Vd.iss)).1, (absL (stA rg (Vd.iss a)).2 (el.map Vd.iss)).2) = _
  rw [stA_iss, absL_iss el]; rfl
theorem absL_done {rg : Nat → B} {A C : List Ak} {b : Ak} (hA : ∀ a ∈ A, a.st = 2) : absL (stA rg b).2 (A ++ (stA rg b).1 :: C) = absL rg (A ++ b :: C) := by
 have e : stA (stA rg b).2 (stA rg b).1 = ((stA rg b).1, (stA rg b).2) := if_pos stA_st
 rw [absL_app, absL_app, absL_two A hA, absL_two A hA]
 show (A ++ ((stA (stA rg b).2 (stA rg b).1).1 :: (absL (stA (stA rg b).2 (stA rg b).1).2 C).1), (absL (stA (stA rg b).2 (stA rg b).1).2 C).2) = _
 rw [e]; rfl
theorem stA_keep {rg : Nat → B} {a : Ak} : (stA rg a).1.tag = a.tag ∧ (stA rg a).1.due = a.due ∧ (stA rg a).1.write = a.write ∧ (stA rg a).1.addr = a.addr := by
 unfold stA; split
 ·exact ⟨rfl, rfl, rfl, rfl⟩
 ·split <;> exact ⟨rfl, rfl, rfl, rfl⟩
theorem absL_tags : ∀ (el : List Ak) {rg : Nat → B}, (absL rg el).1.map Ak.tag = el.map Ak.tag
 | [], rg => rfl
 | a :: el, rg => by
  show (stA rg a).1.tag :: (absL (stA rg a).2 el).1.map Ak.tag = a.tag :: el.map Ak.tag
  rw [absL_tags el, stA_keep.1]
theorem absL_len (el : List Ak) {rg : Nat → B} : (absL rg el).1.length = el.length := by
 have := congrArg List.length (absL_tags el (rg := rg)); simpa using this
theorem absL_ready {M : Int} : ∀ (el : List Ak) {rg : Nat → B}, (∀ a ∈ el, a.st = 2 ∨ M < a.due) →
 (absL rg el).1.filter (Vd.over M) = el.filter (Vd.over M) ∧ (absL rg (el.filter fun a => !Vd.over M a)) = ((absL rg el).1.filter (fun a => !Vd.over M a), (absL rg el).2)
 | [], rg, _ => ⟨rfl, rfl⟩
 | a :: el, rg, h => by
  have ha := h a (List.mem_cons_self ..)
  have ih := absL_ready el (rg := (stA rg a).2) (fun b hb => h b (List.mem_cons_of_mem _ hb))
  by_cases q : Vd.over M a = true
  ·have hst : a.st = 2 := by
    unfold Vd.over at q; rw [Bool.and_eq_true] at q; exact of_decide_eq_true q.1
   have e : stA rg a = (a, rg) := if_pos hst
   rw [e] at ih
   show ((stA rg a).1 :: (absL (stA rg a).2 el).1).filter (Vd.over M) = _ ∧ _ = (((stA rg a).1 :: (absL (stA rg a).2 el).1).filter (fun a => !Vd.over M a), (absL (stA rg a).2 el).2)
   rw [e, List.filter_cons_of_pos q, List.filter_cons_of_pos q, List.filter_cons_of_neg (by rw [q]; decide), List.filter_cons_of_neg (by rw [q]; decide), ih.1, ih.2]
   exact ⟨rfl, rfl⟩
  ·have q' : Vd.over M a = false := by simpa using q
   have q2 : Vd.over M (stA rg a).1 = false := by
    rcases Decidable.em (a.st = 2) with c | c
    ·rw [show stA rg a = (a, rg) from if_pos c]; exact q'
    ·exact Vd.over_no2 (by rw [stA_keep.2.1]; omega)
   show ((stA rg a).1 :: (absL (stA rg a).2 el).1).filter (Vd.over M) = _ ∧ _ = (((stA rg a).1 :: (absL (stA rg a).2 el).1).filter (fun a => !Vd.over M a), (absL (stA rg a).2 el).2)
   rw [List.filter_cons_of_neg (by rw [q2]; decide), List.filter_cons_of_neg (by rw [q']; decide), List.filter_cons_of_pos (by rw [q']; rfl), List.filter_cons_of_pos (by rw [q2]; rfl), ih.1]
   refine ⟨rfl, ?_⟩
   show ((stA rg a).1 :: (absL (stA rg a).2 (el.filter fun a => !Vd.over M a)).1, (absL (stA rg a).2 (el.filter fun a => !Vd.over M a)).2) = _
   rw [ih.2]
/-! ### The disk's bytes -/
theorem get_set {bs d : B} {n m : Nat} (hd : d.length = 64) (hb : 64 * n + 64 ≤ bs.length) : Bk.getS (Bk.setS bs n d) m = if m = n then d else Bk.getS bs m := by
 have e : (bs.take (64 * n) ++ d).length = 64 * n + 64 := by rw [List.length_append, List.length_take, hd]; omega
 unfold Bk.getS Bk.setS
 by_cases q : m = n
 ·subst q
  rw [if_pos J, List.append_assoc, List.drop_left' (by rw [List.length_take]; omega), List.take_left' hd]
 ·rw [if_neg q]
  apply List.ext_getElem?
  intro t
  rw [List.getElem?_take, List.getElem?_take]
  by_cases ht : t < 64
  ·rw [if_pos ht, if_pos ht, List.getElem?_drop, List.getElem?_drop]
   rcases (show m < n ∨ n < m by omega) with c | c
   ·rw [List.append_assoc, List.getElem?_append_left (by rw [List.length_take]; omega), List.getElem?_take, if_pos (by omega)]
   ·rw [List.getElem?_append_right (by rw [e]; omega), e, List.getElem?_drop, hd]
    congr 1; omega
  ·rw [if_neg ht, if_neg ht]
theorem reg_set {bs d : B} {s : Nat} (hs : s < 6) (hd : d.length = 64) (hb : bs.length = 2048) : reg (Bk.setS bs (12 + s) d) = upR (reg bs) s d := by
 funext t
 unfold reg upR
 by_cases ht : t < 6
 ·rw [if_pos ht, get_set hd (by omega)]
  dsimp only
  rw [if_pos ht]
  by_cases q : t = s
  ·rw [if_pos q, if_pos (by omega)]
  ·rw [if_neg q, if_neg (by omega)]
 ·rw [if_neg ht]
  dsimp only
  rw [if_neg ht, if_neg (by omega)]
theorem reg_other {bs d : B} {n : Nat} (hn : n < 12) (hd : d.length = 64) (hb : bs.length = 2048) : reg (Bk.setS bs n d) = reg bs := by
 funext t
 unfold reg
 by_cases ht : t < 6
 ·rw [if_pos ht, if_pos ht, get_set hd (by omega), if_neg (by omega)]
 ·rw [if_neg ht, if_neg ht]
/-! ### Each partition's slice -/
def SF (k : Nat) (y : PS) : Prop := y.d.part = k ∧ y.d.first = 6 * (k : Int) ∧ y.d.count = 6 ∧ y.d.latency = 2
def SFs (ys : List PS) : Prop := ∀ k y, ys[k]? = some y → SF k y
theorem sf_mod {ys : List PS} {i : Nat} {f : PS → PS} (h : SFs ys) (hf : ∀ k y, SF k y → SF k (f y)) : SFs (ys.modify i f) := fun k y hy => by
 rw [List.getElem?_modify] at hy
 cases hz : ys[k]? with
 | none => rw [hz] at hy; simp at hy
 | some z =>
  rw [hz] at hy
  have hj' : (if i = k then f z else z) = y := by simpa using hy
  subst hj'
  split
  ·exact hf k z (h k z hz)
  ·exact h k z hz
theorem sf_map {ys : List PS} {f : PS → PS} (h : SFs ys) (hf : ∀ k y, SF k y → SF k (f y)) : SFs (ys.map f) := fun k y hy => by
 rw [List.getElem?_map] at hy
 cases hz : ys[k]? with
 | none => rw [hz] at hy; simp at hy
 | some z =>
  rw [hz] at hy
  have hj' : f z = y := by simpa using hy
  subst hj'
  exact hf k z (h k z hz)
theorem comR_sl {s : Vd.Ds} {tag : Int} {data : B} : (Vd.comR s tag data).2.part = s.part ∧ (Vd.comR s tag data).2.first = s.first ∧ (Vd.comR s tag data).2.count = s.count ∧ (Vd.comR s tag data).2.latency = s.latency := by
 unfold Vd.comR
 split
 ·exact ⟨rfl, rfl, rfl, rfl⟩
 ·split
  ·exact ⟨rfl, rfl, rfl, rfl⟩
  ·split <;> exact ⟨rfl, rfl, rfl, rfl⟩
theorem sf_com {r : Rq} (k : Nat) (y : PS) (h : SF k y) : SF k (comY r y) := by
 obtain ⟨h1, h2, h3, h4⟩ := h
 obtain ⟨e1, e2, e3, e4⟩ := comR_sl (s := y.d) (tag := r.tag) (data := r.data)
 exact ⟨e1.trans h1, e2.trans h2, e3.trans h3, e4.trans h4⟩
theorem sf_comP {ys : List PS} {r : Rq} (h : SFs ys) : SFs (comP ys r) := by
 unfold comP; split
 ·exact sf_mod h sf_com
 ·exact h
theorem sf_sub {a : IAct} (k : Nat) (y : PS) (h : SF k y) : SF k (subC a y) := by
 unfold subC Hc.subP; split <;> exact h
/-! ### The requests of the partition 2, as they stand -/
def p2 (j : Jb) : Bool := decide (j.r.part = 2)
structure Shp (y : PS) (q : List Jb) (A B C : List Ak) : Prop where
 asq : y.d.asks = A ++ (B ++ C)
 a2 : ∀ a ∈ A, a.st = 2
 b1 : ∀ a ∈ B, a.st = 1
 c0 : ∀ a ∈ C, a.st = 0
 js : (q.filter p2).map Jb.r = B.map (Vd.req y.d)
 wl : ∀ a ∈ B ++ C, a.write = true → a.data.length = 64
 sc : ∀ a ∈ B ++ C, 0 ≤ a.sector ∧ a.sector < 6
def JOK (j : Jb) : Prop := 0 ≤ j.r.sector ∧ j.r.sector < 32 ∧ (j.r.write = true → j.r.data.length = 64) ∧ (j.r.part ≠ 2 → j.r.sector < 12)
theorem comR_at {s : Vd.Ds} {A C : List Ak} {b : Ak} {data : B} (hs : s.asks = A ++ b :: C) (hA : ∀ a ∈ A, a.st = 2) (hb : b.st = 1) (hd : b.write = false → data.length = 64) :
 (Vd.comR s b.tag data).2 = { s with asks := A ++ { b with st := 2, data := if b.write then b.data else data } :: C } := by
 have hg : s.asks[A.length]? = some b := by rw [hs, List.getElem?_append_right (Nat.le_refl _), Nat.sub_self]; rfl
 have hf : s.asks.findIdx? (Vd.isB b.tag) = some A.length := Vd.find_take (i := A.length) (fun x hx => by
  rw [hs, List.take_left' J] at hx
  unfold Vd.isB
  rw [hA x hx, decide_eq_false (p := (2 : Int) = 1) (by decide), Bool.and_false]) hg (by unfold Vd.isB; rw [hb]; simp)
 unfold Vd.comR
 rw [hf]
 dsimp only
 rw [hg]
 dsimp only
 rw [if_neg (fun c => c.2 (hd c.1)), hs, List.set_append_right _ _ (Nat.le_refl _), Nat.sub_self]
 rfl
theorem doJ_len {bs : B} {j : Jb} (h : JOK j) (hb : bs.length = 2048) : (Bk.doJ bs j).length = 2048 := by
 obtain ⟨h1, h2, h3, _⟩ := h
 unfold Bk.doJ
 split
 ·rename_i hw
  rw [Bk.setS_len (h3 hw) (by omega)]; exact hb
 ·exact hb
theorem mod_ne {ys : List PS} {i k : Nat} {f : PS → PS} (h : i ≠ k) : (ys.modify i f)[k]? = ys[k]? := by
 rw [List.getElem?_modify]; simp [h]
theorem pop_sim {bs : B} {ys : List PS} {y : PS} {A B' : List Ak} {j : Jb} {q : List Jb} (vw : Nat → Option (Nat × B)) (hb : bs.length = 2048) (hsf : SFs ys) (hy : ys[2]? = some y) (h : Shp y (j :: q) A B' []) (hj : JOK j) :
 ∃ y' A1 B1, (comP ys (Bk.outJ bs j))[2]? = some y' ∧ Shp y' q A1 B1 [] ∧ B1 <:+ B' ∧ viewY y' (Bk.doJ bs j) vw = viewY y bs vw := by
 have hsy := hsf 2 y hy
 by_cases hp : j.r.part = 2
 ·have hjs := h.js
  rw [List.filter_cons_of_pos (show p2 j = true from decide_eq_true hp), List.map_cons] at hjs
  match B', h, hjs with
  | [], h, hjs => simp at hjs
  | b :: B1, h, hjs =>
   rw [List.map_cons, List.cons.injEq] at hjs
   obtain ⟨hr, hjs⟩ := hjs
   have hbs := h.sc b (by simp)
   have hsec : j.r.sector = 12 + b.sector := by rw [hr]; show y.d.first + b.sector = _; rw [hsy.2.1]; rfl
   have hsn : j.r.sector.toNat = 12 + b.sector.toNat := by omega
   have hw : j.r.write = b.write := by rw [hr]; rfl
   have htg : j.r.tag = b.tag := by rw [hr]; rfl
   have hdt : j.r.data = b.data := by rw [hr]; rfl
   have hb1 : b.st = 1 := h.b1 b (by simp)
   have has : y.d.asks = A ++ b :: B1 := by rw [h.asq, List.append_nil]
   have hot : (Bk.outJ bs j).tag = b.tag ∧ (Bk.outJ bs j).part = 2 ∧ (b.write = false → (Bk.outJ bs j).data = Bk.getS bs (12 + b.sector.toNat)) := by
    unfold Bk.outJ
    cases hbw : b.write with
    | true => rw [hw, hbw, if_pos J]; exact ⟨htg, hp, fun c => by cases c⟩
    | false => rw [hw, hbw, if_neg (by decide)]; exact ⟨htg, hp, fun _ => by rw [← hsn]⟩
   obtain ⟨ot, op, od⟩ := hot
   have hcom : (Vd.comR y.d (Bk.outJ bs j).tag (Bk.outJ bs j).data).2 = { y.d with asks := A ++ { b with st := 2, data := if b.write then b.data else (Bk.outJ bs j).data } :: B1 } := by
    rw [ot]
    exact comR_at has h.a2 hb1 (fun c => by rw [od c]; exact Bk.getS_len (by omega))
   have hst : { b with st := 2, data := if b.write then b.data else (Bk.outJ bs j).data } = (stA (reg bs) b).1 ∧ reg (Bk.doJ bs j) = (stA (reg bs) b).2 := by
    have hne : ¬ b.st = 2 := by omega
    rcases Bool.eq_false_or_eq_true b.write with hbw | hbw
    ·rw [stA_w hne hbw, if_pos hbw]
     refine ⟨rfl, ?_⟩
     unfold Bk.doJ
     rw [if_pos (by rw [hw]; exact hbw), hsn, hdt]
     exact reg_set (by omega) (h.wl b (by simp) hbw) hb
    ·rw [stA_r hne hbw, if_neg (by rw [hbw]; decide), od hbw]
     unfold Bk.doJ
     rw [if_neg (by rw [hw, hbw]; decide)]
     refine ⟨?_, rfl⟩
     show _ = { b with st := 2, data := reg bs b.sector.toNat }
     rw [show reg bs b.sector.toNat = Bk.getS bs (12 + b.sector.toNat) from if_pos (by omega)]
   rw [hst.1] at hcom
   refine ⟨comY (Bk.outJ bs j) y, A ++ [(stA (reg bs) b).1], B1, ?_, ⟨?_, ?_, ?_, ?_, ?_, ?_, ?_⟩, List.suffix_cons b B1, ?_⟩
   ·unfold comP
    rw [if_pos (by rw [op]; decide), op, show (2 : Int).toNat = 2 from J, List.getElem?_modify, hy]; simp
   ·show (Vd.comR y.d _ _).2.asks = _
    rw [hcom]; simp
   ·intro a ha
    rcases List.mem_append.1 ha with c | c
    ·exact h.a2 a c
    ·simp only [List.mem_cons, List.not_mem_nil, or_false] at c; subst c; exact stA_st
   ·exact fun a ha => h.b1 a (List.mem_cons_of_mem _ ha)
   ·exact fun a ha => absurd ha List.not_mem_nil
   ·rw [hjs]
    show _ = B1.map (Vd.req (Vd.comR y.d _ _).2)
    rw [hcom]; rfl
   ·exact fun a ha => h.wl a (List.mem_cons_of_mem _ ha)
   ·exact fun a ha => h.sc a (List.mem_cons_of_mem _ ha)
   ·have hv := absL_done (rg := reg bs) (b := b) (C := B1) h.a2
    unfold viewY absY
    show (⟨{ y with d := { (Vd.comR y.d _ _).2 with asks := (absL _ (Vd.comR y.d _ _).2.asks).1 } }, (absL _ (Vd.comR y.d _ _).2.asks).2, vw⟩ : VA) = _
    rw [hcom, hst.2, has]
    dsimp only
    rw [hv]
 ·have hjs := h.js
  rw [List.filter_cons_of_neg (by unfold p2; rw [decide_eq_false hp]; decide)] at hjs
  have hrg : reg (Bk.doJ bs j) = reg bs := by
   unfold Bk.doJ
   split
   ·rename_i hw
    obtain ⟨h1, h2, h3, h4⟩ := hj
    exact reg_other (by have := h4 hp; omega) (h3 hw) hb
   ·rfl
  have hop : (Bk.outJ bs j).part = j.r.part := by unfold Bk.outJ; split <;> rfl
  refine ⟨y, A, B', ?_, ⟨h.asq, h.a2, h.b1, h.c0, hjs, h.wl, h.sc⟩, List.suffix_refl _, by unfold viewY; rw [hrg]⟩
  unfold comP
  split
  ·rename_i h0
   rw [mod_ne (by rw [hop] at h0 ⊢; omega)]; exact hy
  ·exact hy
theorem poll_sim {now : Int} (vw : Nat → Option (Nat × B)) : ∀ (q : List Jb) {bs : B} {ys : List PS} {y : PS} {A B' : List Ak}, bs.length = 2048 → SFs ys → ys[2]? = some y → Shp y q A B' [] → (∀ j ∈ q, JOK j) →
 ∃ y' A1 B1, (Bk.pollL now bs q).2.1.length = 2048 ∧ SFs ((Bk.pollL now bs q).1.foldl comP ys) ∧ ((Bk.pollL now bs q).1.foldl comP ys)[2]? = some y' ∧ Shp y' (Bk.pollL now bs q).2.2 A1 B1 [] ∧ B1 <:+ B' ∧ viewY y' (Bk.pollL now bs q).2.1 vw = viewY y bs vw
 | [], bs, ys, y, A, B', hb, hsf, hy, h, _ => ⟨y, A, B', hb, hsf, hy, h, List.suffix_refl _, rfl⟩
 | j :: q, bs, ys, y, A, B', hb, hsf, hy, h, hjk => by
  have hj := hjk j (List.mem_cons_self ..)
  by_cases hd : j.done ≤ now
  ·obtain ⟨y1, A1, B1, hy1, h1, s1, v1⟩ := pop_sim vw hb hsf hy h hj
   obtain ⟨y2, A2, B2, k1, k2, k3, k4, k5, k6⟩ := poll_sim vw q (doJ_len hj hb) (sf_comP (r := Bk.outJ bs j) hsf) hy1 h1 (fun i hi => hjk i (List.mem_cons_of_mem _ hi))
   rw [Bk.pollL_yes hd]
   exact ⟨y2, A2, B2, k1, k2, k3, k4, k5.trans s1, k6.trans v1⟩
  ·rw [Bk.pollL_no (by omega)]
   exact ⟨y, A, B', hb, hsf, hy, h, List.suffix_refl _, rfl⟩
theorem poll_suf {now : Int} : ∀ (q : List Jb) {bs : B}, (Bk.pollL now bs q).2.2 <:+ q
 | [], bs => List.suffix_refl _
 | j :: q, bs => by
  by_cases hd : j.done ≤ now
  ·rw [Bk.pollL_yes hd]; exact (poll_suf q).trans (List.suffix_cons j q)
  ·rw [Bk.pollL_no (by omega)]; exact List.suffix_refl _
theorem poll_old {now : Int} : ∀ (old new : List Jb) {bs : B}, (∀ j ∈ old, j.done ≤ now) → (Bk.pollL now bs (old ++ new)).2.2 <:+ new
 | [], new, bs, _ => poll_suf new
 | j :: old, new, bs, h => by
  rw [List.cons_append, Bk.pollL_yes (h j (List.mem_cons_self ..))]
  exact poll_old old new (fun i hi => h i (List.mem_cons_of_mem _ hi))
end Go.Proofs.YtphljkplokjonaaGreat.Io
namespace Go.Proofs.YtphljkplokjonaaGreat.Io
open Go Go.Sl Go.RowKit Go.Proofs Go.Proofs.YtphljkplokjonaaGreat.T Go.Proofs.YtphljkplokjonaaGreat.Sp
open Go.Proofs.YtphljkplokjonaaGreat.Hc (md md_range)
open Go.Proofs.YtphljkplokjonaaGreat.Vd (Ak Rq)
open Go.Proofs.YtphljkplokjonaaGreat.Bk (Jb)
/-! ### Requests go to the disk -/
theorem delay_le {l : List Int} {t : Int} (h : ∀ x ∈ l, x ≤ 8) : Bk.delayR l t ≤ 8 := by
 unfold Bk.delayR
 split
 ·decide
 ·rw [List.getD_eq_getElem?_getD]
  cases hq : l[(min t ((l.length : Int) - 1)).toNat]? with
  | none => decide
  | some x => exact h x (List.mem_of_getElem? hq)
def RqOK (r : Rq) : Prop := 0 ≤ r.sector ∧ r.sector < 32 ∧ (r.write = true → r.data.length = 64)
theorem subBE_ok {b : Bk.Bs} {w : Bool} {s now : Int} {n : Nat} (hb : b.bytes.length = 2048) (h : Bk.subBE b w s n now = 0) : 0 ≤ s ∧ s < 32 ∧ (w = true → n = 64) := by
 have hn : b.n = 32 := by unfold Bk.Bs.n; rw [hb]
 unfold Bk.subBE at h
 rw [hn] at h
 split at h
 ·omega
 ·split at h
  ·omega
  ·rename_i c1 c2
   refine ⟨by omega, by omega, fun hw => ?_⟩
   by_cases q : n = 64
   ·exact q
   ·exact absurd ⟨hw, q⟩ c2
theorem subBE_zero {b : Bk.Bs} {w : Bool} {s now : Int} {n : Nat} (hb : b.bytes.length = 2048) (h1 : 0 ≤ s ∧ s < 32 ∧ (w = true → n = 64)) (h2 : 0 ≤ now ∧ now ≤ 281474976710656) (h3 : b.q.length < 32) : Bk.subBE b w s n now = 0 := by
 have hn : b.n = 32 := by unfold Bk.Bs.n; rw [hb]
 obtain ⟨a1, a2, a3⟩ := h1
 unfold Bk.subBE
 rw [hn, if_neg (by omega), if_neg (fun c => c.2 (a3 c.1)), if_neg (by omega)]
theorem subs_many {now : Int} : ∀ (rs : List Rq) {F : Int} {b : Bk.Bs}, (∀ x ∈ b.delays, x ≤ 8) → b.bytes.length = 2048 → b.free ≤ F → now ≤ F →
 ∃ js, (rs.foldl (subB now) b).q = b.q ++ js ∧ (rs.foldl (subB now) b).bytes = b.bytes ∧ (rs.foldl (subB now) b).delays = b.delays ∧ (rs.foldl (subB now) b).free ≤ F + 8 * rs.length ∧
  (∀ j ∈ js, j.r ∈ rs ∧ RqOK j.r ∧ j.done ≤ F + 8 * rs.length) ∧ js.length ≤ rs.length ∧ (0 ≤ now → now ≤ 281474976710656 → b.q.length + rs.length ≤ 32 → (∀ r ∈ rs, RqOK r) → js.map Jb.r = rs)
 | [], F, b, _, _, hf, _ => ⟨[], by simp, rfl, rfl, by simpa using hf, fun j hj => absurd hj List.not_mem_nil, Nat.le_refl _, fun _ _ _ _ => rfl⟩
 | r :: rs, F, b, hd, hb, hf, hw => by
  have hdl := delay_le (t := b.taken) hd
  by_cases he : Bk.subBE b r.write r.sector r.data.length now = 0
  ·have e : subB now b r = Bk.subBR b r now := if_pos he
   have hfr : Bk.freeR b now ≤ F + 8 := by unfold Bk.freeR; omega
   obtain ⟨js, k1, k2, k3, k4, k5, k6, k7⟩ := subs_many (now := now) rs (F := F + 8) (b := Bk.subBR b r now) hd hb hfr (by omega)
   have hq : (Bk.subBR b r now).q = b.q ++ [⟨r, Bk.freeR b now⟩] := rfl
   have hlen : (((r :: rs).length : Nat) : Int) = rs.length + 1 := by simp
   refine ⟨⟨r, Bk.freeR b now⟩ :: js, ?_, ?_, ?_, ?_, ?_, ?_, ?_⟩
   ·show (rs.foldl (subB now) (subB now b r)).q = _
    rw [e, k1, hq]; simp
   ·show (rs.foldl (subB now) (subB now b r)).bytes = _
    rw [e, k2]; rfl
   ·show (rs.foldl (subB now) (subB now b r)).delays = _
    rw [e, k3]; rfl
   ·show (rs.foldl (subB now) (subB now b r)).free ≤ _
    rw [e, hlen]; omega
   ·intro j hj
    rcases List.mem_cons.1 hj with rfl | hj
    ·refine ⟨List.mem_cons_self .., subBE_ok hb he, ?_⟩
     rw [hlen]; show Bk.freeR b now ≤ _; omega
    ·obtain ⟨m1, m2, m3⟩ := k5 j hj
     exact ⟨List.mem_cons_of_mem _ m1, m2, by rw [hlen]; omega⟩
   ·simp only [List.length_cons]; omega
   ·intro h1 h2 h3 h4
    simp only [List.map_cons, List.cons.injEq, true_and]
    refine k7 h1 h2 ?_ (fun x hx => h4 x (List.mem_cons_of_mem _ hx))
    rw [hq, List.length_append]; simp only [List.length_cons, List.length_nil] at h3 ⊢; omega
  ·have e : subB now b r = b := if_neg he
   obtain ⟨js, k1, k2, k3, k4, k5, k6, k7⟩ := subs_many (now := now) rs (F := F) (b := b) hd hb hf hw
   have hlen : (((r :: rs).length : Nat) : Int) = rs.length + 1 := by simp
   refine ⟨js, ?_, ?_, ?_, ?_, ?_, ?_, ?_⟩
   ·show (rs.foldl (subB now) (subB now b r)).q = _
    rw [e, k1]
   ·show (rs.foldl (subB now) (subB now b r)).bytes = _
    rw [e, k2]
   ·show (rs.foldl (subB now) (subB now b r)).delays = _
    rw [e, k3]
   ·show (rs.foldl (subB now) (subB now b r)).free ≤ _
    rw [e, hlen]; omega
   ·intro j hj
    obtain ⟨m1, m2, m3⟩ := k5 j hj
    exact ⟨List.mem_cons_of_mem _ m1, m2, by rw [hlen]; omega⟩
   ·simp only [List.length_cons]; omega
   ·intro h1 h2 h3 h4
    exact absurd (subBE_zero hb (h4 r (List.mem_cons_self ..)) ⟨h1, h2⟩ (by simp only [List.length_cons] at h3; omega)) he
/-! ### How it stands within the major frame M -/
structure IV (M : Int) (S : IW) (y : PS) (A B' C : List Ak) : Prop where
 len : S.ys.length = 3
 sf : SFs S.ys
 y2 : S.ys[2]? = some y
 shp : Shp y S.bs.q A B' C
 jok : ∀ j ∈ S.bs.q, JOK j
 dn : ∀ j ∈ S.bs.q, j.done ≤ 100 * M + 99
 ql : S.bs.q.length ≤ 12
 free : S.bs.free ≤ 100 * M + 99
 dl : ∀ x ∈ S.bs.delays, x ≤ 8
 bl : S.bs.bytes.length = 2048
 db : ∀ a ∈ B', M < a.due
 dc : ∀ a ∈ C, M + 1 < a.due
def Sim (M : Int) (S : IW) (v : VA) : Prop := ∃ y A B' C, IV M S y A B' C ∧ viewY y S.bs.bytes (S.o.vw 2) = v
def va0 : VA := ⟨y0 2, reg (Bk.newB 32 disk0), (obM 3).vw 2⟩
theorem sim_new {ds : List Int} (h : ∀ x ∈ ds, x ≤ 8) : Sim 0 ⟨ysN 3, [], [], bs0 ds, chs.map Po.Cf.ac, obM 3⟩ va0 := by
 refine ⟨y0 2, [], [], [], ⟨rfl, ?_, rfl, ⟨rfl, ?_, ?_, ?_, rfl, ?_, ?_⟩, ?_, ?_, Nat.zero_le _, ?_, h, ?_, ?_, ?_⟩, rfl⟩
 ·intro k y hy
  match k, hy with
  | 0, hy => obtain rfl := Option.some.inj hy; exact ⟨rfl, rfl, rfl, rfl⟩
  | 1, hy => obtain rfl := Option.some.inj hy; exact ⟨rfl, rfl, rfl, rfl⟩
  | 2, hy => obtain rfl := Option.some.inj hy; exact ⟨rfl, rfl, rfl, rfl⟩
  | k + 3, hy => rw [List.getElem?_eq_none (by rw [ysN_len]; omega)] at hy; cases hy
 ·exact fun a ha => absurd ha List.not_mem_nil
 ·exact fun a ha => absurd ha List.not_mem_nil
 ·exact fun a ha => absurd ha List.not_mem_nil
 ·exact fun a ha => absurd ha List.not_mem_nil
 ·exact fun a ha => absurd ha List.not_mem_nil
 ·exact fun a ha => absurd ha List.not_mem_nil
 ·exact fun a ha => absurd ha List.not_mem_nil
 ·show (0 : Int) ≤ 100 * 0 + 99; decide
 ·show (Bk.newB 32 disk0).length = 2048
  unfold Bk.newB
  rw [List.length_append, List.length_replicate]; rfl
 ·exact fun a ha => absurd ha List.not_mem_nil
 ·exact fun a ha => absurd ha List.not_mem_nil
/-! ### Acts of partitions -/
theorem three_at {ys : List PS} (h : ys.length = 3) : ∃ a b c, ys = [a, b, c] := by
 match ys, h with
 | [a, b, c], _ => exact ⟨a, b, c, rfl⟩
theorem sim_mod {M : Int} {S : IW} {v : VA} {f : PS → PS} {k : Nat} (h : Sim M S v) (hf : ∀ y, (f y).d = y.d) (hv : ∀ y rg, absY rg (f y) = f (absY rg y)) : Sim M { S with ys := S.ys.modify k f } (if k = 2 then { v with y := f v.y } else v) := by
 obtain ⟨y, A, B', C, h, rfl⟩ := h
 refine ⟨if k = 2 then f y else y, A, B', C, ⟨by simpa using h.len, sf_mod h.sf (fun i z hz => by unfold SF at hz ⊢; rw [hf]; exact hz), ?_, ?_, h.jok, h.dn, h.ql, h.free, h.dl, h.bl, h.db, h.dc⟩, ?_⟩
 ·show (S.ys.modify k f)[2]? = _
  rw [List.getElem?_modify, h.y2]
  by_cases q : k = 2 <;> simp [q]
 ·by_cases q : k = 2
  ·rw [if_pos q]
   exact ⟨by rw [hf]; exact h.shp.asq, h.shp.a2, h.shp.b1, h.shp.c0, by rw [hf]; exact h.shp.js, h.shp.wl, h.shp.sc⟩
  ·rw [if_neg q]; exact h.shp
 ·by_cases q : k = 2
  ·rw [if_pos q, if_pos q]
   unfold viewY
   rw [hv, hf]
  ·rw [if_neg q, if_neg q]
def vSub (a : IAct) (v : VA) : VA :=
 if Vd.subE v.y.d a.Write a.Sector a.B.length a.N = 0 then
  { v with y := { v.y with d := { v.y.d with last := Vd.w32 (v.y.d.last + 1), asks := v.y.d.asks ++ [(stA v.rg ⟨Vd.w32 (v.y.d.last + 1), a.Write, a.Sector, a.Addr, if a.Write then a.B else [], a.N + v.y.d.latency, 0⟩).1] } }, rg := (stA v.rg ⟨Vd.w32 (v.y.d.last + 1), a.Write, a.Sector, a.Addr, if a.Write then a.B else [], a.N + v.y.d.latency, 0⟩).2 }
 else v
theorem subE_abs {rg : Nat → B} {y : PS} {w : Bool} {s n : Int} {l : Nat} : Vd.subE (absY rg y).d w s l n = Vd.subE y.d w s l n := by
 unfold Vd.subE absY
 dsimp only
 rw [absL_len]
theorem sim_sub {M : Int} {S : IW} {v : VA} {a : IAct} (h : Sim M S v) (hN : a.N = M) : Sim M { S with ys := S.ys.modify (ptI a) (subC a) } (if ptI a = 2 then vSub a v else v) := by
 obtain ⟨y, A, B', C, h, rfl⟩ := h
 have hsf : SFs (S.ys.modify (ptI a) (subC a)) := sf_mod h.sf sf_sub
 by_cases q : ptI a = 2
 ·rw [if_pos q]
  have hsf : SFs (S.ys.modify 2 (subC a)) := by rw [q] at hsf; exact hsf
  rw [q]
  have hy : (S.ys.modify 2 (subC a))[2]? = some (subC a y) := by rw [List.getElem?_modify, h.y2]; simp
  have hsy := h.sf 2 y h.y2
  unfold vSub
  rw [show (viewY y S.bs.bytes (S.o.vw 2)).y = absY (reg S.bs.bytes) y from J, subE_abs]
  by_cases he : Vd.subE y.d a.Write a.Sector a.B.length a.N = 0
  ·rw [if_pos he]
   have hc : subC a y = { y with d := Vd.subR y.d a.Write a.Sector a.Addr a.B a.N } := by unfold subC Hc.subP; rw [if_pos he]
   have hwl : (0 ≤ a.Sector ∧ a.Sector < 6) ∧ (a.Write = true → a.B.length = 64) := by
    have he' := he
    unfold Vd.subE at he'
    rw [hsy.2.2.1] at he'
    split at he'
    ·omega
    ·split at he'
     ·omega
     ·split at he'
      ·omega
      ·rename_i c1 c2 c3
       refine ⟨by omega, fun hw => ?_⟩
       by_cases q2 : a.B.length = 64
       ·exact q2
       ·exact absurd ⟨hw, q2⟩ c3
   obtain ⟨x, hx⟩ : ∃ x : Ak, x = ⟨Vd.w32 (y.d.last + 1), a.Write, a.Sector, a.Addr, if a.Write then a.B else [], a.N + y.d.latency, 0⟩ := ⟨_, rfl⟩
   have hd : (subC a y).d = { y.d with last := Vd.w32 (y.d.last + 1), asks := y.d.asks ++ [x] } := by rw [hc, hx]; rfl
   have hmem : ∀ b ∈ B' ++ (C ++ [x]), b ∈ B' ++ C ∨ b = x := fun b hb => by
    rw [← List.append_assoc] at hb
    rcases List.mem_append.1 hb with c | c
    ·exact Or.inl c
    ·exact Or.inr (by simpa using c)
   refine ⟨subC a y, A, B', C ++ [x], ⟨by simpa using h.len, hsf, hy, ⟨?_, h.shp.a2, h.shp.b1, ?_, ?_, ?_, ?_⟩, h.jok, h.dn, h.ql, h.free, h.dl, h.bl, h.db, ?_⟩, ?_⟩
   ·rw [hd]; show y.d.asks ++ [x] = _; rw [h.shp.asq]; simp
   ·intro b hb
    rcases List.mem_append.1 hb with c | c
    ·exact h.shp.c0 b c
    ·rw [show b = x by simpa using c, hx]
   ·rw [hd]; exact h.shp.js
   ·intro b hb
    rcases hmem b hb with c | rfl
    ·exact h.shp.wl b c
    ·rw [hx]; intro hw; dsimp only at hw ⊢; rw [if_pos hw]; exact hwl.2 hw
   ·intro b hb
    rcases hmem b hb with c | rfl
    ·exact h.shp.sc b c
    ·rw [hx]; exact hwl.1
   ·intro b hb
    rcases List.mem_append.1 hb with c | c
    ·exact h.dc b c
    ·rw [show b = x by simpa using c, hx, hsy.2.2.2]; show M + 1 < a.N + 2; omega
   ·have ha := absL_app y.d.asks [x] (rg := reg S.bs.bytes)
    have hone : ∀ rg, absL rg [x] = ([(stA rg x).1], (stA rg x).2) := fun _ => rfl
    rw [hone] at ha
    have hy2 : subC a y = { y with d := { y.d with last := Vd.w32 (y.d.last + 1), asks := y.d.asks ++ [x] } } := by rw [← hd]; rfl
    show viewY (subC a y) S.bs.bytes (S.o.vw 2) = _
    rw [hy2]
    unfold viewY absY
    dsimp only
    rw [ha, hx]
  ·rw [if_neg he]
   have hc : subC a y = y := by unfold subC Hc.subP; rw [if_neg he]
   refine ⟨y, A, B', C, ⟨by simpa using h.len, hsf, by rw [hc] at hy; exact hy, h.shp, h.jok, h.dn, h.ql, h.free, h.dl, h.bl, h.db, h.dc⟩, rfl⟩
 ·rw [if_neg q]
  exact ⟨y, A, B', C, ⟨by simpa using h.len, hsf, by show (S.ys.modify _ _)[2]? = _; rw [mod_ne q]; exact h.y2, h.shp, h.jok, h.dn, h.ql, h.free, h.dl, h.bl, h.db, h.dc⟩, rfl⟩
theorem sim_acs {M : Int} {S : IW} {v : VA} {l : List Po.AC} (h : Sim M S v) : Sim M { S with acs := l } v := by
 obtain ⟨y, A, B', C, h, e⟩ := h
 exact ⟨y, A, B', C, ⟨h.len, h.sf, h.y2, h.shp, h.jok, h.dn, h.ql, h.free, h.dl, h.bl, h.db, h.dc⟩, e⟩
def vAct (a : IAct) (v : VA) : VA :=
 if a.Kind = 2 then { v with y := wrC a.B v.y } else if a.Kind = 3 then { v with y := rdC a.N v.y } else if a.Kind = 4 then vSub a v else v
theorem sim_act {M : Int} {S : IW} {v : VA} {a : IAct} (h : Sim M S v) (hk : 2 ≤ a.Kind ∧ a.Kind ≤ 6) (hN : a.Kind = 4 → a.N = M) : Sim M (doW a [] S) (if ptI a = 2 then vAct a v else v) := by
 unfold doW vAct
 rw [if_neg (by omega), if_neg (by omega)]
 by_cases k2 : a.Kind = 2
 ·rw [if_pos k2, if_pos k2]; exact sim_mod h (fun _ => rfl) (fun _ _ => rfl)
 rw [if_neg k2, if_neg k2]
 by_cases k3 : a.Kind = 3
 ·rw [if_pos k3, if_pos k3]; exact sim_mod h (fun _ => rfl) (fun _ _ => rfl)
 rw [if_neg k3, if_neg k3]
 by_cases k4 : a.Kind = 4
 ·rw [if_pos k4, if_pos k4]; exact sim_sub h (hN k4)
 rw [if_neg k4, if_neg k4, ite_self]
 by_cases k5 : a.Kind = 5
 ·rw [if_pos k5]; exact sim_acs h
 rw [if_neg k5, if_pos (by omega)]
 exact sim_acs h
theorem sim_rel {M n : Int} {S : IW} {v : VA} (h : Sim M S v) {a : IAct} (ha : a.Kind = 7) (hp : ptI a = 2) : Sim M (doW a [] S) { v with y := relC a.N v.y } := by
 unfold doW
 rw [if_neg (by omega), if_neg (by omega), if_neg (by omega), if_neg (by omega), if_neg (by omega), if_neg (by omega), if_neg (by omega), if_pos ha, hp]
 exact sim_mod (k := 2) h (fun _ => rfl) (fun _ _ => rfl)
/-! ### The beginning of a major frame -/
def feedV (M : Int) (y : PS) (x : Inp) : PS := if x.Major = M ∧ 0 ≤ x.Part ∧ x.Part.toNat = 2 then fedP x.Bytes y else y
def obV (vw : Nat → Option (Nat × B)) : Ob := ⟨fun _ => vw, fun _ _ => false, 0⟩
def vBeg (M : Int) (ins : List Inp) (v : VA) : VA := ⟨rdY M (ins.foldl (feedV M) v.y), v.rg, (rdO 2 (obV v.vw) (Vd.rdyL (ins.foldl (feedV M) v.y).d M)).vw 2⟩
theorem outR_ne {o : Ob} {k k' ad : Nat} {b : B} (h : k ≠ k') : (outR o k ad b).2.vw k' = o.vw k' := by
 unfold outR
 split
 ·rfl
 ·split
  ·funext q
   show (o.vw k' q).map _ = _
   cases o.vw k' q with
   | none => rfl
   | some x => simp only [Option.map_some]; rw [if_neg (fun c => h c.symm)]
  ·rfl
theorem outR_same {o o' : Ob} {k ad : Nat} {b : B} (h : o.vw k = o'.vw k) : (outR o k ad b).2.vw k = (outR o' k ad b).2.vw k := by
 have hm : mayA o k 2 ad b.length = mayA o' k 2 ad b.length := by
  unfold mayA
  rw [show pmO o k = pmO o' k by funext q; unfold pmO; rw [h]]
 unfold outR
 rw [hm]
 split
 ·exact h
 ·split
  ·funext q
   show (o.vw k q).map _ = (o'.vw k q).map _
   rw [h]
  ·exact h
theorem rdO_ne {k k' : Nat} (h : k ≠ k') : ∀ (dns : List Vd.Dn) {o : Ob}, (rdO k o dns).vw k' = o.vw k'
 | [], o => rfl
 | dn :: dns, o => by
  show (rdO k (if dn.write then o else (outR o k dn.addr.toNat dn.data).2) dns).vw k' = _
  rw [rdO_ne h dns]
  split
  ·rfl
  ·exact outR_ne h
theorem rdO_same {k : Nat} : ∀ (dns : List Vd.Dn) {o o' : Ob}, o.vw k = o'.vw k → (rdO k o dns).vw k = (rdO k o' dns).vw k
 | [], o, o', h => h
 | dn :: dns, o, o', h => by
  show (rdO k (if dn.write then o else (outR o k dn.addr.toNat dn.data).2) dns).vw k = (rdO k (if dn.write then o' else (outR o' k dn.addr.toNat dn.data).2) dns).vw k
  refine rdO_same dns ?_
  split
  ·exact h
  ·exact outR_same h
theorem feedV_d {M : Int} {x : Inp} {y : PS} : (feedV M y x).d = y.d := by unfold feedV; split <;> rfl
theorem feedVs_d {M : Int} : ∀ (ins : List Inp) {y : PS}, (ins.foldl (feedV M) y).d = y.d
 | [], y => rfl
 | x :: ins, y => by show (ins.foldl (feedV M) (feedV M y x)).d = _; rw [feedVs_d ins, feedV_d]
theorem feedV_abs {M : Int} {x : Inp} {y : PS} {rg : Nat → B} : feedV M (absY rg y) x = absY rg (feedV M y x) := by unfold feedV; split <;> rfl
theorem feedVs_abs {M : Int} {rg : Nat → B} : ∀ (ins : List Inp) {y : PS}, ins.foldl (feedV M) (absY rg y) = absY rg (ins.foldl (feedV M) y)
 | [], y => rfl
 | x :: ins, y => by show ins.foldl (feedV M) (feedV M (absY rg y) x) = _; rw [feedV_abs, feedVs_abs ins]; rfl
theorem sf_d {k : Nat} {y z : PS} (h : SF k y) (e : z.d = y.d) : SF k z := by unfold SF at h ⊢; rw [e]; exact h
theorem tell_ne {ys : List PS} {p line : Int} (h : p ≠ 2) : (tellP ys p line)[2]? = ys[2]? := by
 unfold tellP; split
 ·exact mod_ne (by omega)
 ·rfl
theorem tel_sim {ys : List PS} {c : Int} (h : SFs ys) : SFs (telC chs ys c) ∧ (telC chs ys c)[2]? = ys[2]? := by
 unfold telC
 split
 ·rename_i f hf
  have hm := List.mem_of_getElem? hf
  have ht : f.To ≠ 2 := by
   simp only [chs, List.mem_cons, List.not_mem_nil, or_false] at hm
   rcases hm with rfl | rfl | rfl | rfl <;> decide
  refine ⟨?_, tell_ne ht⟩
  unfold tellP; split
  ·exact sf_mod h (fun k z hz => sf_d hz J)
  ·exact h
 ·exact ⟨h, rfl⟩
theorem tels_sim : ∀ (l : List Int) {ys : List PS}, SFs ys → SFs (l.foldl (telC chs) ys) ∧ (l.foldl (telC chs) ys)[2]? = ys[2]?
 | [], ys, h => ⟨h, rfl⟩
 | c :: l, ys, h => by
  have h1 := tel_sim (c := c) h
  have h2 := tels_sim l h1.1
  exact ⟨h2.1, h2.2.trans h1.2⟩
theorem feeds_sim {M : Int} : ∀ (ins : List Inp) {ys : List PS} {y : PS}, SFs ys → ys[2]? = some y → SFs (ins.foldl (feedI M) ys) ∧ (ins.foldl (feedI M) ys)[2]? = some (ins.foldl (feedV M) y)
 | [], ys, y, h, hy => ⟨h, hy⟩
 | x :: ins, ys, y, h, hy => by
  refine feeds_sim ins (ys := feedI M ys x) (y := feedV M y x) ?_ ?_
  ·unfold feedI; split
   ·exact sf_mod h (fun k z hz => sf_d hz J)
   ·exact h
  ·unfold feedI feedV
   by_cases c : x.Major = M ∧ 0 ≤ x.Part
   ·rw [if_pos c, List.getElem?_modify, hy]
    by_cases e : x.Part.toNat = 2
    ·rw [if_pos ⟨c.1, c.2, e⟩]; simp [e]
    ·rw [if_neg (fun q => e q.2.2)]; simp [e]
   ·rw [if_neg c, if_neg (fun q => c ⟨q.1, q.2.1⟩)]; exact hy
theorem rdN_vw {M : Int} {zs : List PS} {o : Ob} {y : PS} (hl : zs.length = 3) (hy : zs[2]? = some y) : (rdN M zs o 3).vw 2 = (rdO 2 (obV (o.vw 2)) (Vd.rdyL y.d M)).vw 2 := by
 obtain ⟨a, b, c, rfl⟩ := three_at hl
 obtain rfl := Option.some.inj hy
 rw [rdN_succ (i := 2) J, rdN_succ (i := 1) (y := b) J, rdN_succ (i := 0) (y := a) J]
 refine rdO_same _ ?_
 rw [rdO_ne (by decide), rdO_ne (by decide)]
 rfl
theorem filter_keep {M : Int} {l : List Ak} (h : ∀ a ∈ l, M < a.due) : l.filter (fun a => !Vd.over M a) = l := by
 rw [List.filter_eq_self]
 intro a ha
 rw [Vd.over_no2 (h a ha)]; rfl
theorem sim_beg {M : Int} {S : IW} {v : VA} {ins : List Inp} (h : Sim M S v) {a : IAct} (ha : a.Kind = 1) (hN : a.N = M) : Sim M (doW a ins S) (vBeg M ins v) := by
 unfold doW
 rw [if_neg (by omega), if_pos ha, hN]
 obtain ⟨y, A, B', C, h, rfl⟩ := h
 obtain ⟨zs, hzs⟩ : ∃ zs, zs = begZ M chs S.acs ins S.ys := ⟨_, rfl⟩
 obtain ⟨t1, t2⟩ := tels_sim (Po.wentI S.acs S.acs.length) h.sf
 obtain ⟨f1, f2⟩ := feeds_sim (M := M) ins t1 (t2.trans h.y2)
 obtain ⟨z, hz⟩ : ∃ z, z = ins.foldl (feedV M) y := ⟨_, rfl⟩
 have hzd : z.d = y.d := by rw [hz, feedVs_d]
 have e1 : SFs zs := by rw [hzs]; exact f1
 have e2 : zs[2]? = some z := by rw [hzs, hz]; exact f2
 have e3 : zs.length = 3 := by rw [hzs, begZ_len]; exact h.len
 have hY : begY M chs S.acs ins S.ys = zs.map (rdY M) := by unfold begY; rw [← hzs]
 have hO : (begO M chs S.acs ins S.ys S.o).vw 2 = (rdO 2 (obV (S.o.vw 2)) (Vd.rdyL z.d M)).vw 2 := by unfold begO; rw [← hzs, h.len]; exact rdN_vw e3 e2
 have hdue : ∀ b ∈ B' ++ C, M < b.due := fun b hb => by
  rcases List.mem_append.1 hb with c | c
  ·exact h.db b c
  ·have := h.dc b c; omega
 have has : z.d.asks = A ++ (B' ++ C) := by rw [hzd]; exact h.shp.asq
 have hwait : ∀ b ∈ z.d.asks, b.st = 2 ∨ M < b.due := fun b hb => by
  rw [has] at hb
  rcases List.mem_append.1 hb with c | c
  ·exact Or.inl (h.shp.a2 b c)
  ·exact Or.inr (hdue b c)
 obtain ⟨r1, r2⟩ := absL_ready (M := M) z.d.asks (rg := reg S.bs.bytes) hwait
 have hrd : (rdY M z).d.asks = A.filter (fun a => !Vd.over M a) ++ (B' ++ C) := by
  show z.d.asks.filter _ = _
  rw [has, List.filter_append, filter_keep hdue]
 have hL : Vd.rdyL (absY (reg S.bs.bytes) z).d M = Vd.rdyL z.d M := by unfold Vd.rdyL absY; dsimp only; rw [r1]
 refine ⟨rdY M z, A.filter (fun a => !Vd.over M a), B', C, ⟨?_, ?_, ?_, ⟨hrd, ?_, h.shp.b1, h.shp.c0, ?_, h.shp.wl, h.shp.sc⟩, h.jok, h.dn, h.ql, h.free, h.dl, h.bl, h.db, h.dc⟩, ?_⟩
 ·show (begY M chs S.acs ins S.ys).length = 3
  rw [begY_len]; exact h.len
 ·show SFs (begY M chs S.acs ins S.ys)
  rw [hY]
  exact sf_map e1 (fun k w hw => hw)
 ·show (begY M chs S.acs ins S.ys)[2]? = _
  rw [hY, List.getElem?_map, e2]; rfl
 ·intro b hb
  exact h.shp.a2 b (List.mem_filter.1 hb).1
 ·show _ = B'.map (Vd.req (Vd.rdyS z.d M))
  rw [hzd]; exact h.shp.js
 ·show (⟨absY (reg S.bs.bytes) (rdY M z), (absL (reg S.bs.bytes) (rdY M z).d.asks).2, (begO M chs S.acs ins S.ys S.o).vw 2⟩ : VA) = vBeg M ins ⟨absY (reg S.bs.bytes) y, (absL (reg S.bs.bytes) y.d.asks).2, S.o.vw 2⟩
  unfold vBeg
  dsimp only
  rw [feedVs_abs, ← hz, hL, ← hO]
  have e4 : (absL (reg S.bs.bytes) (rdY M z).d.asks) = ((absL (reg S.bs.bytes) z.d.asks).1.filter (fun a => !Vd.over M a), (absL (reg S.bs.bytes) z.d.asks).2) := r2
  have e5 : absY (reg S.bs.bytes) (rdY M z) = rdY M (absY (reg S.bs.bytes) z) := by
   unfold rdY rdJ
   rw [hL]
   unfold absY Vd.rdyS
   dsimp only
   rw [r2, r1]
  rw [e4, e5, hzd]
/-! ### The devices are served -/
def vSer (v : VA) : VA := { v with y := dr v.y }
theorem req_iss {s : Vd.Ds} (l : List Ak) : (l.map Vd.iss).map (Vd.req (Vd.issS s)) = l.map (Vd.req s) := by
 rw [List.map_map]
 refine List.map_congr_left fun a _ => ?_
 show Vd.req (Vd.issS s) (Vd.iss a) = _
 by_cases q : a.st = 0
 ·rw [Vd.iss_one q]; rfl
 ·rw [Vd.iss_no q]; rfl
theorem iss_id {l : List Ak} (h : ∀ a ∈ l, a.st ≠ 0) : l.map Vd.iss = l := by
 conv => rhs; rw [← List.map_id l]
 exact List.map_congr_left fun a ha => Vd.iss_no (h a ha)
theorem iss_keep {a : Ak} : (Vd.iss a).due = a.due ∧ (Vd.iss a).write = a.write ∧ (Vd.iss a).data = a.data ∧ (Vd.iss a).sector = a.sector := by
 by_cases q : a.st = 0
 ·rw [Vd.iss_one q]; exact ⟨rfl, rfl, rfl, rfl⟩
 ·rw [Vd.iss_no q]; exact ⟨rfl, rfl, rfl, rfl⟩
theorem no2 {js : List Jb} (h : ∀ j ∈ js, j.r.part ≠ 2) : js.filter p2 = [] := by
 rw [List.filter_eq_nil_iff]
 intro j hj
 unfold p2
 rw [decide_eq_false (h j hj)]; decide
theorem all2 {js : List Jb} (h : ∀ j ∈ js, j.r.part = 2) : js.filter p2 = js := by
 rw [List.filter_eq_self]
 intro j hj
 exact decide_eq_true (h j hj)
theorem issR_mem {y : PS} {k : Nat} (h : SF k y) (hd : y.d.OK) : ∀ r ∈ Vd.issR y.d, r.part = k ∧ 6 * (k : Int) ≤ r.sector ∧ r.sector < 6 * (k : Int) + 6 := fun r hr => by
 unfold Vd.issR at hr
 rw [List.mem_map] at hr
 obtain ⟨a, ha, rfl⟩ := hr
 have hs := hd.sec a (List.mem_filter.1 ha).1
 obtain ⟨h1, h2, h3, h4⟩ := h
 refine ⟨h1, ?_, ?_⟩
 ·show 6 * (k : Int) ≤ y.d.first + a.sector; omega
 ·show y.d.first + a.sector < _; omega
theorem sim_ser {M : Int} {S : IW} {v : VA} (h : Sim M S v) (hd : ∀ y ∈ S.ys, y.d.OK) (hM : 0 ≤ M ∧ M ≤ 1000) {a : IAct} (ha : a.Kind = 0) (hN : a.N = 100 * M + 99) : Sim (M + 1) (doW a [] S) (vSer v) := by
 unfold doW
 rw [if_pos ha, hN]
 obtain ⟨now, hnow⟩ : ∃ n : Int, n = 100 * M + 99 := ⟨_, rfl⟩
 rw [← hnow]
 obtain ⟨y, A, B', C, h, rfl⟩ := h
 obtain ⟨ya, yb, yc, hys⟩ := three_at h.len
 have hyc : yc = y := by have := h.y2; rw [hys] at this; exact Option.some.inj this
 rw [hyc] at hys
 have sa := h.sf 0 ya (by rw [hys]; rfl)
 have sb := h.sf 1 yb (by rw [hys]; rfl)
 have sc := h.sf 2 y h.y2
 have da := hd ya (by rw [hys]; simp)
 have db := hd yb (by rw [hys]; simp)
 have dc := hd y (by rw [hys]; simp)
 have ma := issR_mem sa da
 have mb := issR_mem sb db
 have mc := issR_mem sc dc
 have la := issR_len (s := ya.d)
 have lb := issR_len (s := yb.d)
 have lc := issR_len (s := y.d)
 have la' := da.asks
 have lb' := db.asks
 have lc' := dc.asks
 have hql := h.ql
 have hfr := h.free
 obtain ⟨j0, q0, b0, d0, f0, m0, n0, _⟩ := subs_many (now := now) (Vd.issR ya.d) (F := now) (b := S.bs) h.dl h.bl (by omega) (Int.le_refl _)
 obtain ⟨b1', hb1⟩ : ∃ b, b = (Vd.issR ya.d).foldl (subB now) S.bs := ⟨_, rfl⟩
 rw [← hb1] at q0 b0 d0 f0
 obtain ⟨j1, q1, b1, d1, f1, m1, n1, _⟩ := subs_many (now := now) (Vd.issR yb.d) (F := now + 32) (b := b1') (by rw [d0]; exact h.dl) (by rw [b0]; exact h.bl) (by omega) (by omega)
 obtain ⟨b2', hb2⟩ : ∃ b, b = (Vd.issR yb.d).foldl (subB now) b1' := ⟨_, rfl⟩
 rw [← hb2] at q1 b1 d1 f1
 obtain ⟨j2, q2, b2, d2, f2, m2, n2, g2⟩ := subs_many (now := now) (Vd.issR y.d) (F := now + 64) (b := b2') (by rw [d1, d0]; exact h.dl) (by rw [b1, b0]; exact h.bl) (by omega) (by omega)
 have hiB : issB now S.bs S.ys = (Vd.issR y.d).foldl (subB now) b2' := by rw [hys, hb2, hb1]; rfl
 rw [← hiB] at q2 b2 d2 f2
 have hRC : Vd.issR y.d = C.map (Vd.req y.d) := by
  unfold Vd.issR
  rw [h.shp.asq, List.filter_append, List.filter_append, List.filter_eq_nil_iff.2 (fun a ha => by rw [h.shp.a2 a ha]; decide), List.filter_eq_nil_iff.2 (fun a ha => by rw [h.shp.b1 a ha]; decide), List.filter_eq_self.2 (fun a ha => by rw [h.shp.c0 a ha]; rfl)]
  rfl
 have hgood : ∀ r ∈ Vd.issR y.d, RqOK r := fun r hr => by
  have hm := mc r hr
  rw [hRC, List.mem_map] at hr
  obtain ⟨c, hc, rfl⟩ := hr
  exact ⟨by omega, by omega, h.shp.wl c (List.mem_append_right _ hc)⟩
 have hj2 := g2 (by omega) (by omega) (by rw [q1, q0]; simp only [List.length_append]; omega) hgood
 obtain ⟨bb, hbb⟩ : ∃ b, b = issB now S.bs S.ys := ⟨_, rfl⟩
 rw [← hbb] at q2 b2 d2 f2
 have hq : bb.q = S.bs.q ++ (j0 ++ (j1 ++ j2)) := by rw [q2, q1, q0]; simp
 have hbl : bb.bytes = S.bs.bytes := by rw [b2, b1, b0]
 have hnew : ∀ j ∈ j0 ++ (j1 ++ j2), JOK j ∧ j.done ≤ 100 * (M + 1) + 99 := fun j hj => by
  rcases List.mem_append.1 hj with c | c
  ·obtain ⟨k1, k2, k3⟩ := m0 j c
   have k4 := ma _ k1
   obtain ⟨k5, k6, k7⟩ := k2
   exact ⟨⟨k5, k6, k7, fun _ => by omega⟩, by omega⟩
  ·rcases List.mem_append.1 c with c | c
   ·obtain ⟨k1, k2, k3⟩ := m1 j c
    have k4 := mb _ k1
    obtain ⟨k5, k6, k7⟩ := k2
    exact ⟨⟨k5, k6, k7, fun _ => by omega⟩, by omega⟩
   ·obtain ⟨k1, k2, k3⟩ := m2 j c
    have k4 := mc _ k1
    obtain ⟨k5, k6, k7⟩ := k2
    exact ⟨⟨k5, k6, k7, fun q => absurd (by omega) q⟩, by omega⟩
 have hjok : ∀ j ∈ bb.q, JOK j := fun j hj => by
  rw [hq] at hj
  rcases List.mem_append.1 hj with c | c
  ·exact h.jok j c
  ·exact (hnew j c).1
 have p0 : j0.filter p2 = [] := no2 fun j hj => by have := ma _ (m0 j hj).1; omega
 have p1 : j1.filter p2 = [] := no2 fun j hj => by have := mb _ (m1 j hj).1; omega
 have p2' : j2.filter p2 = j2 := all2 fun j hj => by have := mc _ (m2 j hj).1; omega
 obtain ⟨zs, hzs⟩ : ∃ zs, zs = (S.ys.map dr).map isu := ⟨_, rfl⟩
 have z2 : zs[2]? = some (isu (dr y)) := by rw [hzs, hys]; rfl
 have zsf : SFs zs := by rw [hzs]; exact sf_map (sf_map h.sf (fun k w hw => hw)) (fun k w hw => hw)
 have hshp : Shp (isu (dr y)) bb.q A (B' ++ C.map Vd.iss) [] := by
  refine ⟨?_, h.shp.a2, ?_, fun a ha => absurd ha List.not_mem_nil, ?_, ?_, ?_⟩
  ·show y.d.asks.map Vd.iss = _
   rw [h.shp.asq, List.map_append, List.map_append, iss_id (l := A) (fun a ha => by rw [h.shp.a2 a ha]; decide), iss_id (l := B') (fun a ha => by rw [h.shp.b1 a ha]; decide), List.append_nil]
  ·intro a ha
   rcases List.mem_append.1 ha with c | c
   ·exact h.shp.b1 a c
   ·rw [List.mem_map] at c
    obtain ⟨b, hb, rfl⟩ := c
    rw [Vd.iss_one (h.shp.c0 b hb)]
  ·show (bb.q.filter p2).map Jb.r = (B' ++ C.map Vd.iss).map (Vd.req (Vd.issS y.d))
   rw [hq, List.filter_append, List.filter_append, List.filter_append, p0, p1, p2', List.nil_append, List.nil_append, List.map_append, List.map_append, hj2, hRC, req_iss, h.shp.js]
   rfl
  ·intro a ha
   rw [List.append_nil] at ha
   rcases List.mem_append.1 ha with c | c
   ·exact h.shp.wl a (List.mem_append_left _ c)
   ·rw [List.mem_map] at c
    obtain ⟨b, hb, rfl⟩ := c
    rw [iss_keep.2.1, iss_keep.2.2.1]
    exact h.shp.wl b (List.mem_append_right _ hb)
  ·intro a ha
   rw [List.append_nil] at ha
   rcases List.mem_append.1 ha with c | c
   ·exact h.shp.sc a (List.mem_append_left _ c)
   ·rw [List.mem_map] at c
    obtain ⟨b, hb, rfl⟩ := c
    rw [iss_keep.2.2.2]
    exact h.shp.sc b (List.mem_append_right _ hb)
 obtain ⟨y', A1, B1, k1, k2, k3, k4, k5, k6⟩ := poll_sim (now := now) (S.o.vw 2) bb.q (bs := bb.bytes) (by rw [hbl]; exact h.bl) zsf z2 hshp hjok
 have hsuf : (Bk.pollL now bb.bytes bb.q).2.2 <:+ j0 ++ (j1 ++ j2) := by
  rw [hq]
  exact poll_old _ _ (fun j hj => by have := h.dn j hj; omega)
 have hserY : serY now S.ys S.bs = (Bk.pollL now bb.bytes bb.q).1.foldl comP zs := by unfold serY; rw [← hbb, ← hzs]
 have hserB : serB now S.ys S.bs = { bb with bytes := (Bk.pollL now bb.bytes bb.q).2.1, q := (Bk.pollL now bb.bytes bb.q).2.2 } := by unfold serB; rw [← hbb]; rfl
 have hB1 : B1 <:+ C.map Vd.iss := by
  refine List.suffix_of_suffix_length_le k5 (List.suffix_append _ _) ?_
  have e1 := congrArg List.length k4.js
  rw [List.length_map, List.length_map] at e1
  have e2 := (hsuf.filter p2).length_le
  rw [List.filter_append, List.filter_append, p0, p1, p2', List.nil_append, List.nil_append] at e2
  have e3 := congrArg List.length hj2
  rw [List.length_map, hRC, List.length_map] at e3
  rw [List.length_map]
  omega
 refine ⟨y', A1, B1, [], ⟨?_, ?_, ?_, ?_, ?_, ?_, ?_, ?_, ?_, ?_, ?_, fun a ha => absurd ha List.not_mem_nil⟩, ?_⟩
 ·show (serY now S.ys S.bs).length = 3
  rw [serY_len]; exact h.len
 ·show SFs (serY now S.ys S.bs)
  rw [hserY]; exact k2
 ·show (serY now S.ys S.bs)[2]? = _
  rw [hserY]; exact k3
 ·show Shp y' (serB now S.ys S.bs).q A1 B1 []
  rw [hserB]; exact k4
 ·show ∀ j ∈ (serB now S.ys S.bs).q, JOK j
  rw [hserB]
  exact fun j hj => (hnew j (hsuf.subset hj)).1
 ·show ∀ j ∈ (serB now S.ys S.bs).q, _
  rw [hserB]
  exact fun j hj => (hnew j (hsuf.subset hj)).2
 ·show (serB now S.ys S.bs).q.length ≤ 12
  rw [hserB]
  have := hsuf.length_le
  simp only [List.length_append] at this
  show (Bk.pollL now bb.bytes bb.q).2.2.length ≤ 12
  omega
 ·show (serB now S.ys S.bs).free ≤ _
  rw [hserB]
  show bb.free ≤ _
  omega
 ·show ∀ x ∈ (serB now S.ys S.bs).delays, x ≤ 8
  rw [hserB]
  show ∀ x ∈ bb.delays, x ≤ 8
  rw [d2, d1, d0]; exact h.dl
 ·show (serB now S.ys S.bs).bytes.length = 2048
  rw [hserB]; exact k1
 ·intro b hb
  have := hB1.subset hb
  rw [List.mem_map] at this
  obtain ⟨c, hc, rfl⟩ := this
  rw [iss_keep.1]
  exact h.dc c hc
 ·show viewY y' (serB now S.ys S.bs).bytes (S.o.vw 2) = _
  rw [hserB]
  show viewY y' (Bk.pollL now bb.bytes bb.q).2.1 (S.o.vw 2) = _
  rw [k6, hbl]
  show (⟨absY (reg S.bs.bytes) (isu (dr y)), (absL (reg S.bs.bytes) (y.d.asks.map Vd.iss)).2, S.o.vw 2⟩ : VA) = ⟨dr (absY (reg S.bs.bytes) y), (absL (reg S.bs.bytes) y.d.asks).2, S.o.vw 2⟩
  rw [absL_iss]
  congr 1
  show ({ dr y with d := { Vd.issS y.d with asks := (absL (reg S.bs.bytes) (y.d.asks.map Vd.iss)).1 } } : PS) = _
  rw [absL_iss]; rfl
end Go.Proofs.YtphljkplokjonaaGreat.Io
