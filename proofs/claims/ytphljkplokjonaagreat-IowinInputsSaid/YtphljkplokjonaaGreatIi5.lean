/- IowinInputs: an input comes to its console in the major frame for which it is meant: the law returns true at every input and changes nothing that was there. No conditions. -/
import Derived.Test.YtphljkplokjonaaGreatIi4
set_option linter.unusedSimpArgs false
set_option linter.unusedVariables false
/- iowin.Serve. -/
namespace Go.Proofs.YtphljkplokjonaaGreat.Io
open Go Go.Sl Go.RowKit Go.Proofs Go.Proofs.YtphljkplokjonaaGreat.T Go.Proofs.YtphljkplokjonaaGreat.Sp
set_option maxRecDepth 100000
section
variable (W0 : World) (Fr : List HProp)
theorem submit_any {b : Nat} {s : Bk.Bs} {r : Vd.CR} {now : Int} (hr : RdB W0 Fr r.m.a r.m.c r.m.b) (hd : r.m.b.length ≤ Bk.dmax) (ht2 : s.taken ≤ 1073741824) :
    Ctr Tryz.prog W0 78 [.pointer (some ⟨b, 0, none⟩), .agg r.cells.toArray, .int .i64 now] (Bk.Bl b s :: Fr) (fun _ : Unit => True) (fun _ => .int .i64 (Bk.subBE s r.write r.sector r.m.b.length now)) (fun _ => Bk.Bl b (subB now s r.abs) :: Fr) := by
  by_cases he : Bk.subBE s r.write r.sector r.m.b.length now = 0
  · have h := Bk.submit_ok W0 Fr (b := b) (s := s) (r := r) (now := now) hr hd ht2 he
    have e : subB now s r.abs = Bk.subBR s r.abs now := if_pos he
    rw [e, he]; exact h
  · have h := Bk.submit_bad W0 Fr (b := b) (s := s) (r := r) (now := now) he
    have e : subB now s r.abs = s := if_neg he
    rw [e]; exact h
/-- Where what is said is kept, and the line. -/
abbrev nG (c9 c5 sb n u : Nat) (ms : List Po.Msg) (sz : Nat) (uq us : B) (G : List HProp) : List HProp :=
  blk c9 [.slice (some ⟨sb, 0, none⟩) n n] 67 :: blk c5 [.pointer (some ⟨u, 0, none⟩)] 60 :: osl 32 1 (some ⟨sb, 0, none⟩) n n (ms.map Po.Msg.cell) :: Po.pool ms :: Ua.U u sz uq us :: G
theorem note_spec {c9 c5 sb n u sz i : Nat} {ms : List Po.Msg} {uq us : B} {m0 m : Po.Msg} (hi : ms[i]? = some m0) (hn : ms.length = n) (hml : m.b.length ≤ 1000) (huq : uq.length ≤ sz) (hz : sz ≤ 256) :
    Ctr Tryz.prog W0 75 [.int .i64 i, m.cell, .pointer (some ⟨c9, 0, none⟩), .pointer (some ⟨c5, 0, none⟩)] (m.own :: nG c9 c5 sb n u ms sz uq us Fr) (fun _ : Unit => True) (fun _ => .tuple #[]) (fun _ => nG c9 c5 sb n u (ms.set i m) sz (sndU sz uq m.b) us Fr) := by
  have hi' : i < n := by rcases List.getElem?_eq_some_iff.1 hi with ⟨h, _⟩; omega
  refine Ctr.of_body Tryz.func75 rfl Tryz.ntmps75 rfl ?_
  dsimp only [Po.Msg.cell]
  refine CG.seq ?_
  refine CG.region ?_
  refine OG.yield (Yield.load ti67 rfl (by first | exact Cel.of_blk eX rfl | exact (hrow eX) _ _ rfl)) rfl ?_
  refine OG.mv rfl rfl ?_
  refine OG.mv rfl rfl ?_
  refine OG.yield (Yield.index_slice Tryz.underlying67 ti32 rfl rfl (by omega) (by omega)) rfl ?_
  refine OG.eff (Eff.storeElem (b := sb) (o := 0) (i := i) (v := m.cell) ti32 (by show _ = some (Value.pointer (some ⟨sb, 0 + i, none⟩)); rw [show 0 + i = 0 + (i : Int).toNat * 1 by omega]; rfl) rfl fC rfl (by omega)) rfl ?_
  rintro ⟨⟩ -
  refine OG.nil ?_
  refine QG.then ?_
  refine CG.region ?_
  refine OG.yield (Yield.load ti60 rfl (by first | exact Cel.of_blk eX rfl | exact (hrow eX) _ _ rfl)) rfl ?_
  refine OG.mv rfl rfl ?_
  refine OG.callo call76 rfl (iM) (Ua.send_spec W0 _ (u := u) (sz := sz) (q := uq) (s := us) (ds := m.b) (a2 := m.a) (c2 := m.c) (by exact RdB.of_osl (E := 5) eX rfl rfl) (by omega) huq hz) rfl ?_
  rintro ⟨⟩ -
  refine OG.nil ?_
  refine QG.end0 rfl () trivial rfl ?_
  dsimp only [nG]
  rw [List.map_set]
  exact Imp.trans (B := m.own :: Po.pool ms :: blk c9 [.slice (some ⟨sb, 0, none⟩) n n] 67 :: blk c5 [.pointer (some ⟨u, 0, none⟩)] 60 :: osl 32 1 (some ⟨sb, 0, none⟩) n n ((ms.map Po.Msg.cell).set i m.cell) :: Ua.U u sz (sndU sz uq m.b) us :: Fr) iM (Imp.trans (pool_set hi) iM)
set_option maxHeartbeats 8000000 in
theorem serve_spec {u b lb lo lc sz : Nat} {xs : List PA} {ys : List PS} {uq us : B} {bs : Bk.Bs} {now : Int} (hl : SlR W0 Fr 4 (some ⟨lb, lo, none⟩) xs.length ((xs.map PA.cells).flatten)) (hxy : xs.length = ys.length) (hn : xs.length ≤ 1000) (huq : uq.length ≤ sz) (hz : sz ≤ 256) (hus : us.length ≤ 2 ^ 45)
    (ht : bs.taken + 4 * (xs.length : Int) ≤ 1073741824) :
    Ctr Tryz.prog W0 22 [.slice (some ⟨lb, lo, none⟩) xs.length lc, .pointer (some ⟨u, 0, none⟩), .pointer (some ⟨b, 0, none⟩), .int .i64 now] (PL xs ys :: Ua.U u sz uq us :: Bk.Bl b bs :: Fr) (fun y : Po.End => y.bs = ys.map PS.out) (fun y => y.cell)
      (fun y => Po.oend y :: Po.pool y.ms :: PL xs (serY now ys bs) :: Ua.U u sz [] (us ++ sndAll sz uq (ys.map PS.out)) :: Bk.Bl b (serB now ys bs) :: Fr) := by
  refine Ctr.pure (fun w hw => pl_facts hxy Ext.here w hw) fun hpf => ?_
  refine Ctr.of_body Tryz.func22 rfl Tryz.ntmps22 rfl ?_
  have hrow : ∀ {G : List HProp} {i : Nat} {x : PA}, Imp G Fr → xs[i]? = some x → Row W0 G lb (lo + i * 4) x.cells := fun hi hx => (hl.imp hi).elem PA.len hx
  refine CG.seq ?_
  refine CG.region ?_
  refine OG.effd (Eff.box rfl) rfl ?_
  rintro b5 -
  refine OG.sg rfl rfl ?_
  refine OG.nil ?_
  refine QG.then ?_
  refine CG.seq ?_
  refine CG.region ?_
  refine OG.mv rfl rfl ?_
  refine OG.yield (Yield.len_slice Tryz.underlying59 rfl rfl) rfl ?_
  refine OG.effd (Eff.makeSlice (n := (xs.length : Int)) Tryz.underlying67 ti32 rfl (by decide) rfl (by omega) (by omega) (by omega)) rfl ?_
  rintro b19 -
  rw [Int.toNat_natCast, show (List.replicate xs.length (Value.slice none 0 0).cells.toList).flatten = (List.replicate xs.length nilM).map Po.Msg.cell by rw [List.map_replicate]; exact nil_cells _]
  refine OG.effd (Eff.alloc ti67) rfl ?_
  rintro b9 -
  refine OG.eff (Eff.store1 ti67 rfl rfl fC rfl (by first | (simp; done) | decide)) rfl ?_
  rintro ⟨⟩ -
  refine OG.nil ?_
  refine QG.then ?_
  refine CG.seq ?_
  refine CG.region ?_
  refine OG.yield (Yield.makeFunc (first := []) (cap := [.tmp 9, .tmp 5]) rfl rfl) rfl ?_
  refine OG.sg rfl rfl ?_
  refine OG.nil ?_
  refine QG.then ?_
  refine CG.seq ?_
  refine CG.seq ?_
  refine CG.region ?_
  refine OG.mv rfl rfl ?_
  refine OG.yield (Yield.len_slice Tryz.underlying59 rfl rfl) rfl ?_
  refine OG.mv rfl rfl ?_
  refine OG.nil ?_
  refine QG.then ?_
  refine CG.block ?_
  refine CG.loop (fun z : Nat × List Po.Msg => z.1 ≤ xs.length ∧ z.2.length = xs.length ∧ z.2.map Po.Msg.b = tkd (ys.map PS.out) (List.replicate xs.length []) z.1) (fun z => [(0, .slice (some ⟨lb, lo, none⟩) xs.length lc), (2, .pointer (some ⟨b, 0, none⟩)), (3, .int .i64 now), (5, .pointer (some ⟨b5, 0, none⟩)), (9, .pointer (some ⟨b9, 0, none⟩)), (10, .func (.func 75) ([] : List Value).toArray [.pointer (some ⟨b9, 0, none⟩), .pointer (some ⟨b5, 0, none⟩)].toArray), (22, .int .i64 xs.length), (23, .int .i64 z.1)]) (fun z => PL xs (tkd (ys.map dr) ys z.1) :: Bk.Bl b bs :: nG b9 b5 b19 xs.length u z.2 sz (sndAll sz uq ((ys.map PS.out).take z.1)) us Fr) (fun z => xs.length - z.1) (0, List.replicate xs.length nilM) ⟨Nat.zero_le _, List.length_replicate, by rw [List.map_replicate]; rfl⟩ eS (Imp.trans (pool_nils xs.length) iM) ?_
  rintro ⟨i, ms⟩ ⟨hi, hml, hmb⟩
  dsimp only at hi hml hmb ⊢
  refine CG.seq ?_
  refine CG.region ?_
  refine OG.yield Yield.lssA rfl ?_
  refine OG.nil ?_
  refine QG.then ?_
  refine CG.seq ?_
  refine CG.cond rfl (fun hc => ?_) (fun hc => ?_)
  · try replace hc := of_decide_eq_true hc
    have hi' : i < xs.length := by omega
    obtain ⟨x, hx⟩ : ∃ x, xs[i]? = some x := ⟨xs[i], by simp⟩
    obtain ⟨y, hy⟩ : ∃ y, ys[i]? = some y := ⟨ys[i]'(by omega), by simp⟩
    have hyg := tkd_at (l := ys.map dr) (by simp) hy
    have hys := tkd_set (l := ys.map dr) (z := ys) (i := i) (x := dr y) (by simp) (by rw [List.getElem?_map, hy]; rfl)
    obtain ⟨m0, hm0⟩ : ∃ m, ms[i]? = some m := ⟨ms[i]'(by omega), by simp⟩
    refine CG.imp (pl_open hx hyg) ?_
    refine CG.pure (fun w hw => con_facts (g := x.k) (out := y.out) (inn := y.inn) eX w hw) ?_
    intro hcl
    refine CG.skip ?_
    refine QG.then ?_
    refine CG.seq ?_
    refine CG.block ?_
    refine CG.seq ?_
    refine CG.region ?_
    refine OG.mv rfl rfl ?_
    refine OG.sg rfl rfl ?_
    refine OG.nil ?_
    refine QG.then ?_
    refine CG.region ?_
    refine OG.mv rfl rfl ?_
    refine OG.mv rfl rfl ?_
    refine OG.mv rfl rfl ?_
    refine OG.mv rfl rfl ?_
    refine OG.yield (Yield.index_slice Tryz.underlying59 ti58 rfl rfl (by omega) (by omega)) rfl ?_
    refine OG.yield (Yield.fieldAddr fa58_2 rfl) rfl ?_
    refine OG.yield (Yield.load (v := .pointer (some ⟨x.k, 0, none⟩)) ti55 rfl (by rw [show lo + (i : Int).toNat * 4 = lo + i * 4 by omega]; exact hrow iM hx 2 _ rfl)) rfl ?_
    refine OG.callo call61 rfl (iM) (Vc.drain_spec W0 _ (g := x.k) (out := y.out) (inn := y.inn)) rfl ?_
    rintro ⟨oa, oc⟩ -
    refine OG.callv (fi := []) (ca := [.pointer (some ⟨b9, 0, none⟩), .pointer (some ⟨b5, 0, none⟩)]) call75 rfl rfl iM (note_spec W0 (PX xs (tkd (ys.map dr) ys i) i :: Vi.V x.v y.q y.p y.at' y.set :: Vc.Con x.k [] y.inn :: Vd.D x.d y.d :: Bk.Bl b bs :: Fr) (m := ⟨oa, oc, y.out⟩) hm0 hml (by show y.out.length ≤ _; omega) (sndAll_len _ huq) hz) rfl ?_
    rintro ⟨⟩ -
    refine OG.nil ?_
    refine QG.block_normal ?_
    refine QG.then ?_
    refine CG.region ?_
    refine OG.yield (Yield.add rfl rfl (w64 (by omega) (by omega))) rfl ?_
    refine OG.mv rfl rfl ?_
    refine OG.nil ?_
    refine QG.next (i + 1, ms.set i ⟨oa, oc, y.out⟩) ⟨by simp only; omega, by simp only [List.length_set]; omega, ?_⟩ (by simp only; omega) eS ?_
    · show (ms.set i ⟨oa, oc, y.out⟩).map Po.Msg.b = _
      rw [List.map_set, hmb]
      exact tkd_set (by simp; omega) (by rw [List.getElem?_map, hy]; rfl)
    · dsimp only [nG]
      rw [← hys, sndAll_succ (o := y.out) (by rw [List.getElem?_map, hy]; rfl)]
      exact Imp.trans iM (pl_shut (dr y) hx hyg)
  · try replace hc := of_decide_eq_false hc
    refine CG.exit ?_
    refine QG.pass_exit ?_
    refine QG.pass_exit ?_
    refine QG.block_exit ?_
    refine QG.then ?_
    refine CG.seq ?_
    obtain rfl : i = xs.length := by omega
    rw [tkd_all (by simp; omega) (by simp)] at hmb
    rw [tkd_all (by simp) (by omega)]
    have hul := sndAll_len (sz := sz) (ys.map PS.out) huq
    rw [show (ys.map PS.out).take xs.length = ys.map PS.out from List.take_of_length_le (by simp; omega)]
    refine CG.region ?_
    refine OG.yield (Yield.load (v := .pointer (some ⟨u, 0, none⟩)) ti60 rfl (Cel.of_blk eX rfl)) rfl ?_
    refine OG.callo call77 rfl (iM) (Ua.drain_spec W0 _ (u := u) (sz := sz) (q := sndAll sz uq (ys.map PS.out)) (s := us) 256 (by omega) (by omega)) rfl ?_
    rintro ⟨⟩ -
    rw [Ua.kOf_all (by omega), List.drop_length, List.take_length]
    refine OG.nil ?_
    refine QG.then ?_
    refine CG.seq ?_
    refine CG.seq ?_
    refine CG.region ?_
    refine OG.mv rfl rfl ?_
    refine OG.yield (Yield.len_slice Tryz.underlying59 rfl rfl) rfl ?_
    refine OG.mv rfl rfl ?_
    refine OG.nil ?_
    refine QG.then ?_
    refine CG.block ?_
    refine CG.loop (fun i : Nat => i ≤ xs.length) (fun i => [(0, .slice (some ⟨lb, lo, none⟩) xs.length lc), (2, .pointer (some ⟨b, 0, none⟩)), (3, .int .i64 now), (9, .pointer (some ⟨b9, 0, none⟩)), (39, .int .i64 xs.length), (40, .int .i64 i)]) (fun i => PL xs (tkd ((ys.map dr).map isu) (ys.map dr) i) :: Bk.Bl b (issB now bs ((ys.map dr).take i)) :: nG b9 b5 b19 xs.length u ms sz [] (us ++ sndAll sz uq (ys.map PS.out)) Fr) (fun i => xs.length - i) 0 (Nat.zero_le _) eS iM ?_
    rintro i hi
    have htk := issB_taken (now := now) ((ys.map dr).take i) (b := bs) (fun z hz => by
      obtain ⟨z0, hz0, rfl⟩ := List.mem_map.1 (List.mem_of_mem_take hz)
      have h1 := issR_len (s := z0.d)
      have h2 := (hpf z0 hz0).1.asks
      show (Vd.issR z0.d).length ≤ 4
      omega)
    have hlt : ((ys.map dr).take i).length = i := by simp; omega
    rw [hlt] at htk
    refine CG.seq ?_
    refine CG.region ?_
    refine OG.yield Yield.lssA rfl ?_
    refine OG.nil ?_
    refine QG.then ?_
    refine CG.seq ?_
    refine CG.cond rfl (fun hc => ?_) (fun hc => ?_)
    · try replace hc := of_decide_eq_true hc
      have hi' : i < xs.length := by omega
      obtain ⟨x, hx⟩ : ∃ x, xs[i]? = some x := ⟨xs[i], by simp⟩
      obtain ⟨y, hy⟩ : ∃ y, (ys.map dr)[i]? = some y := ⟨_, List.getElem?_eq_getElem (by simp; omega)⟩
      have hyg := tkd_at (l := (ys.map dr).map isu) (by simp) hy
      have hys := tkd_set (l := (ys.map dr).map isu) (z := ys.map dr) (i := i) (x := isu y) (by simp) (by rw [List.getElem?_map, hy]; rfl)
      refine CG.imp (pl_open hx hyg) ?_
      refine CG.pure (fun w hw => Vd.d_facts (d := x.d) (s := y.d) eX w hw) ?_
      intro hdk
      refine CG.skip ?_
      refine QG.then ?_
      refine CG.seq ?_
      refine CG.block ?_
      refine CG.seq ?_
      refine CG.region ?_
      refine OG.mv rfl rfl ?_
      refine OG.sg rfl rfl ?_
      refine OG.nil ?_
      refine QG.then ?_
      refine CG.seq ?_
      refine CG.region ?_
      refine OG.mv rfl rfl ?_
      refine OG.mv rfl rfl ?_
      refine OG.yield (Yield.index_slice Tryz.underlying59 ti58 rfl rfl (by omega) (by omega)) rfl ?_
      refine OG.yield (Yield.fieldAddr fa58_3 rfl) rfl ?_
      refine OG.yield (Yield.load (v := .pointer (some ⟨x.d, 0, none⟩)) ti56 rfl (by rw [show lo + (i : Int).toNat * 4 = lo + i * 4 by omega]; exact hrow iM hx 3 _ rfl)) rfl ?_
      refine OG.callo call42 rfl (iM) (Vd.issue_spec W0 _ (d := x.d) (s := y.d)) rfl ?_
      rintro ⟨l, la, lc2⟩ hrl
      dsimp only [Vd.Rqs.G, Vd.Rqs.ms, Vd.Rqs.cell, List.cons_append, List.nil_append] at hrl ⊢
      have hll : l.length ≤ 4 ∧ ∀ cr ∈ l, cr.m.b.length ≤ 64 := iss_facts hdk hrl
      refine OG.yield (Yield.len_slice Tryz.underlying98 rfl rfl) rfl ?_
      refine OG.mv rfl rfl ?_
      refine OG.nil ?_
      refine QG.then ?_
      refine CG.block ?_
      refine CG.loop (fun j : Nat => j ≤ l.length) (fun j => [(0, .slice (some ⟨lb, lo, none⟩) xs.length lc), (2, .pointer (some ⟨b, 0, none⟩)), (3, .int .i64 now), (9, .pointer (some ⟨b9, 0, none⟩)), (39, .int .i64 xs.length), (40, .int .i64 i), (48, .slice la l.length lc2), (49, .int .i64 l.length), (50, .int .i64 j)]) (fun j => Bk.Bl b (((Vd.issR y.d).take j).foldl (subB now) (issB now bs ((ys.map dr).take i))) :: Vd.oreqs la lc2 l :: Ms.pool (l.map Vd.CR.m) :: Vi.V x.v y.q y.p y.at' y.set :: Vc.Con x.k y.out y.inn :: Vd.D x.d (Vd.issS y.d) :: PX xs (tkd ((ys.map dr).map isu) (ys.map dr) i) i :: nG b9 b5 b19 xs.length u ms sz [] (us ++ sndAll sz uq (ys.map PS.out)) Fr) (fun j => l.length - j) 0 (Nat.zero_le _) eS iM ?_
      rintro j hj
      have htj := subs_taken (now := now) ((Vd.issR y.d).take j) (b := issB now bs ((ys.map dr).take i))
      have hlj : ((Vd.issR y.d).take j).length ≤ j := by simp; omega
      refine CG.seq ?_
      refine CG.region ?_
      refine OG.yield Yield.lssA rfl ?_
      refine OG.nil ?_
      refine QG.then ?_
      refine CG.seq ?_
      refine CG.cond rfl (fun hc => ?_) (fun hc => ?_)
      · try replace hc := of_decide_eq_true hc
        have hj' : j < l.length := by omega
        obtain ⟨cr, hcr⟩ : ∃ cr, l[j]? = some cr := ⟨l[j], by simp⟩
        have hra : (Vd.issR y.d)[j]? = some cr.abs := by rw [← hrl, List.getElem?_map, hcr]; rfl
        have hcm : cr.m.b.length ≤ 64 := hll.2 cr (List.mem_of_getElem? hcr)
        refine CG.pure (fun w hw => SlR.elem_shape (i := j) (SlR.of_osl (W0 := W0) (E := 101) (a := la) (c := lc2) eX) Vd.CR.len (by decide) hj' w hw) ?_
        rintro ⟨bl, ol, rfl⟩
        refine CG.skip ?_
        refine QG.then ?_
        refine CG.seq ?_
        refine CG.block ?_
        refine CG.seq ?_
        refine CG.region ?_
        refine OG.yield (Yield.index_slice Tryz.underlying98 ti101 rfl rfl (by omega) (by omega)) rfl ?_
        refine OG.yield (Yield.load_agg (vs := Vd.CR.cells cr) ti101 rfl rfl (by rw [show ol + (j : Int).toNat * 5 = ol + j * 5 by omega]; exact SlR.elem (SlR.of_osl (E := 101) (a := some ⟨bl, ol, none⟩) (c := lc2) eX) Vd.CR.len hcr)) rfl ?_
        refine OG.effd (Eff.alloc ti101) rfl ?_
        rintro b14 -
        refine OG.eff (Eff.storeAll ti101 rfl rfl fC rfl (by simp [Vd.CR.cells, one, Ms.Msg.cell]) rfl) rfl ?_
        rintro ⟨⟩ -
        refine OG.nil ?_
        refine QG.then ?_
        refine CG.region ?_
        refine OG.mv rfl rfl ?_
        refine OG.yield (Yield.load_agg (vs := Vd.CR.cells cr) ti101 rfl rfl (Row.of_blk (b := b14) eX (by simp [Vd.CR.cells]))) rfl ?_
        refine OG.mv rfl rfl ?_
        refine OG.callo call78 rfl (iM) (submit_any W0 _ (b := b) (s := ((Vd.issR y.d).take j).foldl (subB now) (issB now bs ((ys.map dr).take i))) (r := cr) (now := now) (Ms.pool_rd (ms := l.map Vd.CR.m) eX (List.mem_map_of_mem (List.mem_of_getElem? hcr))) (by unfold Bk.dmax; omega) (by omega)) rfl ?_
        rintro ⟨⟩ -
        rw [← fold_succ (f := subB now) hra]
        refine OG.nil ?_
        refine QG.block_normal ?_
        refine QG.then ?_
        refine CG.region ?_
        refine OG.yield (Yield.add rfl rfl (w64 (by omega) (by omega))) rfl ?_
        refine OG.mv rfl rfl ?_
        refine OG.nil ?_
        exact QG.next (j + 1) (by omega) (by omega) eS iM
      · try replace hc := of_decide_eq_false hc
        refine CG.exit ?_
        refine QG.pass_exit ?_
        refine QG.pass_exit ?_
        refine QG.block_exit ?_
        refine QG.block_normal ?_
        refine QG.then ?_
        refine CG.region ?_
        refine OG.yield (Yield.add rfl rfl (w64 (by omega) (by omega))) rfl ?_
        refine OG.mv rfl rfl ?_
        refine OG.nil ?_
        obtain rfl : j = l.length := by omega
        rw [show (Vd.issR y.d).take l.length = Vd.issR y.d by rw [← hrl, ← List.length_map (f := Vd.CR.abs), List.take_length], ← issB_succ hy]
        refine QG.next (i + 1) (by omega) (by omega) eS ?_
        rw [← hys]
        exact Imp.trans iM (pl_shut (isu y) hx hyg)
    · try replace hc := of_decide_eq_false hc
      refine CG.exit ?_
      refine QG.pass_exit ?_
      refine QG.pass_exit ?_
      refine QG.block_exit ?_
      refine QG.then ?_
      refine CG.seq ?_
      refine CG.seq ?_
      obtain rfl : i = xs.length := by omega
      rw [tkd_all (by simp) (by simp; omega), show (ys.map dr).take xs.length = ys.map dr from List.take_of_length_le (by simp; omega), issB_dr]
      refine CG.pure (fun w hw => Bk.bl_facts (b := b) eX w hw) ?_
      intro hbk
      refine CG.region ?_
      refine OG.mv rfl rfl ?_
      refine OG.mv rfl rfl ?_
      refine OG.callo call79 rfl (iM) (Bk.poll_spec W0 _ (b := b) (s := issB now bs ys) now) rfl ?_
      rintro ⟨l, la, lc2⟩ hrl
      dsimp only [Vd.Rqs.G, Vd.Rqs.ms, Vd.Rqs.cell, List.cons_append, List.nil_append] at hrl ⊢
      have hpd := poll_dat (now := now) (m := Bk.dmax) (by unfold Bk.dmax; decide) (issB now bs ys).q (issB now bs ys).bytes (fun j hj => (hbk.dat j hj).1)
      have hpl := pollL_len (now := now) (issB now bs ys).q (issB now bs ys).bytes
      rw [← hrl] at hpd hpl
      rw [List.length_map] at hpl
      have hql := hbk.ql
      have hlc : ∀ cr ∈ l, cr.m.b.length ≤ Bk.dmax := fun cr h => hpd cr.abs (List.mem_map_of_mem h)
      refine OG.yield (Yield.len_slice Tryz.underlying98 rfl rfl) rfl ?_
      refine OG.mv rfl rfl ?_
      refine OG.nil ?_
      refine QG.then ?_
      refine CG.block ?_
      refine CG.loop (fun j : Nat => j ≤ l.length) (fun j => [(0, .slice (some ⟨lb, lo, none⟩) xs.length lc), (9, .pointer (some ⟨b9, 0, none⟩)), (62, .slice la l.length lc2), (63, .int .i64 l.length), (64, .int .i64 j)]) (fun j => PL xs (((l.map Vd.CR.abs).take j).foldl comP ((ys.map dr).map isu)) :: Bk.Bl b (Bk.pollR (issB now bs ys) now) :: Vd.oreqs la lc2 l :: Ms.pool (l.map Vd.CR.m) :: nG b9 b5 b19 xs.length u ms sz [] (us ++ sndAll sz uq (ys.map PS.out)) Fr) (fun j => l.length - j) 0 (Nat.zero_le _) eS iM ?_
      rintro j hj
      refine CG.seq ?_
      refine CG.region ?_
      refine OG.yield Yield.lssA rfl ?_
      refine OG.nil ?_
      refine QG.then ?_
      refine CG.seq ?_
      refine CG.cond rfl (fun hc => ?_) (fun hc => ?_)
      · try replace hc := of_decide_eq_true hc
        have hj' : j < l.length := by omega
        obtain ⟨cr, hcr⟩ : ∃ cr, l[j]? = some cr := ⟨l[j], by simp⟩
        have hra : (l.map Vd.CR.abs)[j]? = some cr.abs := by rw [List.getElem?_map, hcr]; rfl
        have hcm : cr.m.b.length ≤ Bk.dmax := hlc cr (List.mem_of_getElem? hcr)
        unfold Bk.dmax at hcm
        have hln : (((l.map Vd.CR.abs).take j).foldl comP ((ys.map dr).map isu)).length = xs.length := by rw [coms_len]; simp; omega
        have hfs := fold_succ (f := comP) (b := (ys.map dr).map isu) hra
        generalize ((l.map Vd.CR.abs).take j).foldl comP ((ys.map dr).map isu) = zs at hln hfs
        refine CG.pure (fun w hw => SlR.elem_shape (i := j) (SlR.of_osl (W0 := W0) (E := 101) (a := la) (c := lc2) eX) Vd.CR.len (by decide) hj' w hw) ?_
        rintro ⟨bl, ol, rfl⟩
        refine CG.skip ?_
        refine QG.then ?_
        refine CG.seq ?_
        refine CG.block ?_
        refine CG.seq ?_
        refine CG.region ?_
        refine OG.yield (Yield.index_slice Tryz.underlying98 ti101 rfl rfl (by omega) (by omega)) rfl ?_
        refine OG.yield (Yield.load_agg (vs := Vd.CR.cells cr) ti101 rfl rfl (by rw [show ol + (j : Int).toNat * 5 = ol + j * 5 by omega]; exact SlR.elem (SlR.of_osl (E := 101) (a := some ⟨bl, ol, none⟩) (c := lc2) eX) Vd.CR.len hcr)) rfl ?_
        refine OG.effd (Eff.alloc ti101) rfl ?_
        rintro b16 -
        refine OG.eff (Eff.storeAll ti101 rfl rfl fC rfl (by simp [Vd.CR.cells, one, Ms.Msg.cell]) rfl) rfl ?_
        rintro ⟨⟩ -
        refine OG.nil ?_
        refine QG.then ?_
        refine CG.seq ?_
        rcases (show cr.part < 0 ∨ (0 ≤ cr.part ∧ cr.part < xs.length) ∨ (0 ≤ cr.part ∧ (xs.length : Int) ≤ cr.part) by omega) with q | q | q
        · skip
          rw [show comP zs cr.abs = zs from if_neg (by show ¬ 0 ≤ cr.part; omega)] at hfs
          refine CG.region ?_
          refine OG.yield (Yield.fieldAddr fa101_0 rfl) rfl ?_
          refine OG.yield (Yield.load (v := .int .i64 cr.part) ti3 rfl (Cel.of_blk (b := b16) eX rfl)) rfl ?_
          refine OG.yield (Yield.as (Yield.geq rfl rfl) (v' := .bool false) (bF (by omega))) rfl ?_
          refine OG.mv rfl rfl ?_
          refine OG.gn rfl rfl rfl rfl rfl ?_
          refine OG.gn rfl rfl rfl rfl rfl ?_
          refine OG.gn rfl rfl rfl rfl rfl ?_
          refine OG.gn rfl rfl rfl rfl rfl ?_
          refine OG.gn rfl rfl rfl rfl rfl ?_
          refine OG.yield Yield.pickA rfl ?_
          refine OG.nil ?_
          refine QG.then ?_
          refine CG.cond_f rfl ?_
          refine CG.skip ?_
          refine QG.block_normal ?_
          refine QG.then ?_
          refine CG.region ?_
          refine OG.yield (Yield.add rfl rfl (w64 (by omega) (by omega))) rfl ?_
          refine OG.mv rfl rfl ?_
          refine OG.nil ?_
          exact QG.next (j + 1) (by omega) (by omega) eS (by rw [hfs]; exact iM)
        · skip
          obtain ⟨pn, hpn⟩ : ∃ pn : Nat, cr.part = pn := ⟨cr.part.toNat, by omega⟩
          obtain ⟨x, hx⟩ : ∃ x, xs[pn]? = some x := ⟨xs[pn]'(by omega), List.getElem?_eq_getElem (by omega)⟩
          obtain ⟨y, hy⟩ : ∃ y, zs[pn]? = some y := ⟨zs[pn]'(by omega), List.getElem?_eq_getElem (by omega)⟩
          rw [show comP zs cr.abs = zs.set pn (comY cr.abs y) by unfold comP; rw [if_pos (by show 0 ≤ cr.part; omega), show cr.abs.part.toNat = pn by show cr.part.toNat = pn; omega]; exact mod_at hy] at hfs
          refine CG.region ?_
          refine OG.yield (Yield.fieldAddr fa101_0 rfl) rfl ?_
          refine OG.yield (Yield.load (v := .int .i64 cr.part) ti3 rfl (Cel.of_blk (b := b16) eX rfl)) rfl ?_
          refine OG.yield (Yield.as (Yield.geq rfl rfl) (v' := .bool true) (bT (by omega))) rfl ?_
          refine OG.mv rfl rfl ?_
          refine OG.gy rfl rfl rfl ?_
          refine OG.yield (Yield.fieldAddr fa101_0 rfl) rfl ?_
          refine OG.gy rfl rfl rfl ?_
          refine OG.yield (Yield.load (v := .int .i64 cr.part) ti3 rfl (Cel.of_blk (b := b16) eX rfl)) rfl ?_
          refine OG.gy rfl rfl rfl ?_
          refine OG.mv rfl rfl ?_
          refine OG.gy rfl rfl rfl ?_
          refine OG.yield (Yield.len_slice Tryz.underlying59 rfl rfl) rfl ?_
          refine OG.gy rfl rfl rfl ?_
          refine OG.yield (Yield.as (Yield.lss rfl rfl) (v' := .bool true) (bT (by omega))) rfl ?_
          refine OG.yield Yield.pickA rfl ?_
          refine OG.nil ?_
          refine QG.then ?_
          refine CG.cond_t rfl ?_
          refine CG.imp (Imp.trans (B := PL xs zs :: _) iM (pl_open hx hy)) ?_
          refine CG.draw (.look 0 1 (.look 1 1 (.look 2 1 (.look 3 1 (.look 4 1 (.look 5 1 (.look 6 1 (.eff1 7 false (.done))))))))) [7] [] ([]) ([]) mixed (by kernel_rfl) (Imp.none _) (Imp.none _) ?_
          refine DG.look rfl rfl (Yield.move rfl) rfl ?_
          refine DG.look rfl rfl (Yield.fieldAddr fa101_0 rfl) rfl ?_
          refine DG.look rfl rfl (Yield.load (v := .int .i64 (pn : Int)) ti3 rfl (Cel.of_blk (b := b16) eX (by show some (Value.int .i64 cr.part) = _; rw [hpn]))) rfl ?_
          refine DG.look rfl rfl (Yield.index_slice Tryz.underlying59 ti58 rfl rfl (by omega) (by omega)) rfl ?_
          refine DG.look rfl rfl (Yield.fieldAddr fa58_3 rfl) rfl ?_
          refine DG.look rfl rfl (Yield.load (v := .pointer (some ⟨x.d, 0, none⟩)) ti56 rfl (by rw [show lo + (pn : Int).toNat * 4 = lo + pn * 4 by omega]; exact hrow iM hx 3 _ rfl)) rfl ?_
          refine DG.look rfl rfl (Yield.load_agg (vs := Vd.CR.cells cr) ti101 rfl rfl (Row.of_blk (b := b16) eX (by simp [Vd.CR.cells]))) rfl ?_
          refine DG.eff1 ?_
          refine Chg.callo rfl rfl call63 rfl (iM) (Vd.complete_spec W0 _ (d := x.d) (s := y.d) (r := cr) (Ms.pool_rd (ms := l.map Vd.CR.m) eX (List.mem_map_of_mem (List.mem_of_getElem? hcr))) (by omega)) rfl (fun _ => iM) (fun _ => Imp.refl _) (fun _ => iM) ?_
          rintro ⟨⟩ -
          refine DG.done ?_
          refine QG.block_normal ?_
          refine QG.then ?_
          refine CG.region ?_
          refine OG.yield (Yield.add rfl rfl (w64 (by omega) (by omega))) rfl ?_
          refine OG.mv rfl rfl ?_
          refine OG.nil ?_
          exact QG.next (j + 1) (by omega) (by omega) eS (by rw [hfs]; exact Imp.trans iM (pl_shut (comY cr.abs y) hx hy))
        · skip
          rw [show comP zs cr.abs = zs by unfold comP; rw [if_pos (by show 0 ≤ cr.part; omega)]; exact mod_out (by show zs.length ≤ cr.part.toNat; omega)] at hfs
          refine CG.region ?_
          refine OG.yield (Yield.fieldAddr fa101_0 rfl) rfl ?_
          refine OG.yield (Yield.load (v := .int .i64 cr.part) ti3 rfl (Cel.of_blk (b := b16) eX rfl)) rfl ?_
          refine OG.yield (Yield.as (Yield.geq rfl rfl) (v' := .bool true) (bT (by omega))) rfl ?_
          refine OG.mv rfl rfl ?_
          refine OG.gy rfl rfl rfl ?_
          refine OG.yield (Yield.fieldAddr fa101_0 rfl) rfl ?_
          refine OG.gy rfl rfl rfl ?_
          refine OG.yield (Yield.load (v := .int .i64 cr.part) ti3 rfl (Cel.of_blk (b := b16) eX rfl)) rfl ?_
          refine OG.gy rfl rfl rfl ?_
          refine OG.mv rfl rfl ?_
          refine OG.gy rfl rfl rfl ?_
          refine OG.yield (Yield.len_slice Tryz.underlying59 rfl rfl) rfl ?_
          refine OG.gy rfl rfl rfl ?_
          refine OG.yield (Yield.as (Yield.lss rfl rfl) (v' := .bool false) (bF (by omega))) rfl ?_
          refine OG.yield Yield.pickA rfl ?_
          refine OG.nil ?_
          refine QG.then ?_
          refine CG.cond_f rfl ?_
          refine CG.skip ?_
          refine QG.block_normal ?_
          refine QG.then ?_
          refine CG.region ?_
          refine OG.yield (Yield.add rfl rfl (w64 (by omega) (by omega))) rfl ?_
          refine OG.mv rfl rfl ?_
          refine OG.nil ?_
          exact QG.next (j + 1) (by omega) (by omega) eS (by rw [hfs]; exact iM)
      · try replace hc := of_decide_eq_false hc
        refine CG.exit ?_
        refine QG.pass_exit ?_
        refine QG.pass_exit ?_
        refine QG.block_exit ?_
        refine QG.then ?_
        refine CG.seq ?_
        refine CG.region ?_
        refine OG.yield (Yield.load (v := .slice (some ⟨b19, 0, none⟩) xs.length xs.length) ti67 rfl (Cel.of_blk (b := b9) eX rfl)) rfl ?_
        refine OG.sg rfl rfl ?_
        refine OG.nil ?_
        refine QG.then ?_
        refine CG.ret ?_
        obtain rfl : j = l.length := by omega
        rw [← List.length_map (f := Vd.CR.abs), List.take_length, hrl]
        refine QG.ret1 rfl rfl (⟨some ⟨b19, 0, none⟩, xs.length, ms⟩ : Po.End) hmb (by show _ = Value.slice _ ms.length _; rw [hml]) ?_
        dsimp only [nG]
        rw [show Po.oend ⟨some ⟨b19, 0, none⟩, xs.length, ms⟩ = osl 32 1 (some ⟨b19, 0, none⟩) xs.length xs.length (ms.map Po.Msg.cell) by show osl _ 1 _ xs.length ms.length _ = _; rw [hml]]
        exact iM
end
end Go.Proofs.YtphljkplokjonaaGreat.Io
/- Iowin: what the beginning of a major frame does, plain. -/
namespace Go.Proofs.YtphljkplokjonaaGreat.Io
open Go Go.Sl Go.RowKit Go.Proofs Go.Proofs.YtphljkplokjonaaGreat.T Go.Proofs.YtphljkplokjonaaGreat.Sp
set_option maxRecDepth 100000
structure Inp where
  Major : Int
  Part : Int
  Bytesa : Option Go.Addr
  Bytesc : Nat
  Bytes : List UInt8
def Inp.cells (o : Inp) : List Value := [.int .i64 o.Major, .int .i64 o.Part, .slice o.Bytesa o.Bytes.length o.Bytesc]
structure Inp.OK (W : World) (o : Inp) : Prop where
  mk ::
  Major : (Lit.int .i64 o.Major).wf = true
  Part : (Lit.int .i64 o.Part).wf = true
  Bytesc : o.Bytes.length ≤ o.Bytesc
  Bytes : SlAt W 1 o.Bytesa o.Bytes.length (bytesV o.Bytes)
  Bytesm : o.Bytes.length ≤ reachBytes
theorem Inp.opn (W : World) : Opn Tryz.prog W 75 (fun cs => ∃ o : Inp, cs = o.cells ∧ o.OK W) := (Opn.of_fields Tryz.underlying75 (by kernel_rfl) (by kernel_rfl) (.cons (s := 1) (Opn.int Tryz.underlying3) (.cons (s := 1) (Opn.int Tryz.underlying3) (.cons (s := 1) (Opn.bytes Tryz.underlying32 Tryz.underlying5 (by kernel_rfl) (by kernel_rfl)) .nil)))).mono fun cs h => by
  obtain ⟨_, _, rfl, _, ⟨xMajor, rfl, wMajor⟩, ⟨_, _, rfl, _, ⟨xPart, rfl, wPart⟩, ⟨_, _, rfl, _, ⟨xBytesa, xBytesc, xBytes, rfl, wBytesc, wBytes, wBytesm⟩, rfl⟩⟩⟩ := h
  exact ⟨⟨xMajor, xPart, xBytesa, xBytesc, xBytes⟩, rfl, ⟨wMajor, wPart, wBytesc, wBytes, wBytesm⟩⟩
theorem Inp.len (o : Inp) : o.cells.length = 3 := rfl
theorem Inp.ones (o : Inp) : ∀ v ∈ o.cells, one v = true := by simp [Inp.cells, one]
theorem Inp.list (W : World) : Opn Tryz.prog W 70 (fun cs => ∃ a c, ∃ xs : List Inp, cs = [.slice a xs.length c] ∧ xs.length ≤ c ∧ (∀ x ∈ xs, Inp.OK W x) ∧ SlAt W 3 a xs.length ((xs.map Inp.cells).flatten) ∧ xs.length * 40 ≤ reachBytes) :=
  Opn.recs (sz := 3) (by' := 40) Tryz.underlying70 (by kernel_rfl) (by decide) (by kernel_rfl) (Inp.opn W)
def quP (line : Int) (y : PS) : PS := { y with q := if 0 ≤ line ∧ line < 8 then Vi.setBit y.q line.toNat true else y.q }
def tellP (ys : List PS) (part line : Int) : List PS := if 0 ≤ part then ys.modify part.toNat (quP line) else ys
def telC (cfs : List Po.Cf) (ys : List PS) (c : Int) : List PS := match cfs[c.toNat]? with | some f => tellP ys f.To 3 | none => ys
def fedP (b : B) (y : PS) : PS := { y with inn := y.inn ++ b.take (64 - y.inn.length), q := if 0 < min b.length (64 - y.inn.length) then Vi.setBit y.q 1 true else y.q }
def feedI (major : Int) (ys : List PS) (x : Inp) : List PS := if x.Major = major ∧ 0 ≤ x.Part then ys.modify x.Part.toNat (fedP x.Bytes) else ys
def rdJ (major : Int) (y : PS) (j : Nat) : PS := { y with d := Vd.rdyS y.d major, q := if j = 0 then y.q else Vi.setBit y.q 2 true }
def rdY (major : Int) (y : PS) : PS := rdJ major y (Vd.rdyL y.d major).length
def rdO (i : Nat) (o : Ob) (dns : List Vd.Dn) : Ob := dns.foldl (fun o dn => if dn.write then o else (outR o i dn.addr.toNat dn.data).2) o
def rdN (major : Int) (ys : List PS) (o : Ob) : Nat → Ob
  | 0 => o
  | i + 1 => match ys[i]? with | some y => rdO i (rdN major ys o i) (Vd.rdyL y.d major) | none => rdN major ys o i
theorem rdN_succ {major : Int} {ys : List PS} {o : Ob} {i : Nat} {y : PS} (h : ys[i]? = some y) : rdN major ys o (i + 1) = rdO i (rdN major ys o i) (Vd.rdyL y.d major) := by
  show (match ys[i]? with | some y => _ | none => _) = _
  rw [h]
theorem setBit_two (q i : Nat) : Vi.setBit (Vi.setBit q i true) i true = Vi.setBit q i true := by
  apply Nat.eq_of_testBit_eq
  intro j
  rw [Vi.setBit_test, Vi.setBit_test]; split <;> rfl
theorem tellP_len {ys : List PS} {part line : Int} : (tellP ys part line).length = ys.length := by unfold tellP; split <;> simp
theorem tellP_at {ys : List PS} {pn : Nat} {line : Int} {y : PS} (h : ys[pn]? = some y) : tellP ys (pn : Int) line = ys.set pn (quP line y) := by
  unfold tellP; rw [if_pos (by omega), Int.toNat_natCast]; exact mod_at h
theorem telC_len {cfs : List Po.Cf} {ys : List PS} {c : Int} : (telC cfs ys c).length = ys.length := by unfold telC; split <;> first | exact tellP_len | rfl
theorem telCs_len {cfs : List Po.Cf} : ∀ (l : List Int) {ys : List PS}, (l.foldl (telC cfs) ys).length = ys.length
  | [], _ => rfl
  | c :: l, ys => by show (l.foldl (telC cfs) (telC cfs ys c)).length = _; rw [telCs_len l, telC_len]
theorem feedI_len {major : Int} {ys : List PS} {x : Inp} : (feedI major ys x).length = ys.length := by unfold feedI; split <;> simp
theorem feeds_len {major : Int} : ∀ (l : List Inp) {ys : List PS}, (l.foldl (feedI major) ys).length = ys.length
  | [], _ => rfl
  | x :: l, ys => by show (l.foldl (feedI major) (feedI major ys x)).length = _; rw [feeds_len l, feedI_len]
/-- What holds of each stays so. -/
theorem mod_all {α : Type} {P : α → Prop} {f : α → α} {l : List α} {i : Nat} (h : ∀ y ∈ l, P y) (hf : ∀ y, P y → P (f y)) : ∀ y ∈ l.modify i f, P y := fun y hy => by
  obtain ⟨j, hj⟩ := List.getElem?_of_mem hy
  rw [List.getElem?_modify] at hj
  cases hl : l[j]? with
  | none => rw [hl] at hj; simp at hj
  | some z =>
    rw [hl] at hj
    have hz := h z (List.mem_of_getElem? hl)
    have hj' : (if i = j then f z else z) = y := by simpa using hj
    subst hj'
    split
    · exact hf z hz
    · exact hz
def AdOK (y : PS) : Prop := ∀ a ∈ y.d.asks, 0 ≤ a.addr ∧ a.addr < 4294967296
theorem telC_all {P : PS → Prop} {cfs : List Po.Cf} {ys : List PS} {c : Int} (h : ∀ y ∈ ys, P y) (hf : ∀ y, P y → P (quP 3 y)) : ∀ y ∈ telC cfs ys c, P y := by
  unfold telC; split
  · unfold tellP; split
    · exact mod_all h hf
    · exact h
  · exact h
theorem telCs_all {P : PS → Prop} {cfs : List Po.Cf} (hf : ∀ y, P y → P (quP 3 y)) : ∀ (l : List Int) {ys : List PS}, (∀ y ∈ ys, P y) → ∀ y ∈ l.foldl (telC cfs) ys, P y
  | [], _, h => h
  | c :: l, ys, h => telCs_all hf l (telC_all (c := c) h hf)
theorem feedI_all {P : PS → Prop} {major : Int} {ys : List PS} {x : Inp} (h : ∀ y ∈ ys, P y) (hf : ∀ y b, P y → P (fedP b y)) : ∀ y ∈ feedI major ys x, P y := by
  unfold feedI; split
  · exact mod_all h (fun y hy => hf y _ hy)
  · exact h
theorem feeds_all {P : PS → Prop} {major : Int} (hf : ∀ y b, P y → P (fedP b y)) : ∀ (l : List Inp) {ys : List PS}, (∀ y ∈ ys, P y) → ∀ y ∈ l.foldl (feedI major) ys, P y
  | [], _, h => h
  | x :: l, ys, h => feeds_all hf l (feedI_all (x := x) h hf)
theorem rdyL_addr {y : PS} {major : Int} (h : AdOK y) : ∀ dn ∈ Vd.rdyL y.d major, 0 ≤ dn.addr ∧ dn.addr < 4294967296 := fun dn hdn => by
  unfold Vd.rdyL at hdn
  rw [List.mem_map] at hdn
  obtain ⟨a, ha, rfl⟩ := hdn
  exact h a (List.mem_filter.1 ha).1
theorem rdyL_len {s : Vd.Ds} {major : Int} : (Vd.rdyL s major).length ≤ s.asks.length := by unfold Vd.rdyL; rw [List.length_map]; exact List.length_filter_le _ _
/-- The spaces' heads. -/
def SL (m f t : Nat) (xs : List PA) : HProp := Star (xs.mapIdx fun i x => sb x.s i x.r m f t)
def SX (m f t : Nat) (xs : List PA) (i : Nat) : HProp := Star ((xs.mapIdx fun i x => sb x.s i x.r m f t).eraseIdx i)
theorem sl_get {m f t : Nat} {xs : List PA} {i : Nat} {x : PA} (h : xs[i]? = some x) : (xs.mapIdx fun i x => sb x.s i x.r m f t)[i]? = some (sb x.s i x.r m f t) := by rw [List.getElem?_mapIdx, h]; rfl
theorem sl_open {m f t : Nat} {xs : List PA} {i : Nat} {x : PA} {G : List HProp} (h : xs[i]? = some x) : Imp (SL m f t xs :: G) (sb x.s i x.r m f t :: SX m f t xs i :: G) := star_take (sl_get h)
theorem sl_shut {m f t : Nat} {xs : List PA} {i : Nat} {x : PA} {G : List HProp} (h : xs[i]? = some x) : Imp (sb x.s i x.r m f t :: SX m f t xs i :: G) (SL m f t xs :: G) := by
  have := star_put (L := xs.mapIdx fun i x => sb x.s i x.r m f t) (i := i) (A := sb x.s i x.r m f t) (B := sb x.s i x.r m f t) (G := G) (sl_get h)
  rw [Po.set_self (sl_get h)] at this; exact this
def begZ (major : Int) (cfs : List Po.Cf) (acs : List Po.AC) (ins : List Inp) (ys : List PS) : List PS := ins.foldl (feedI major) ((Po.wentI acs acs.length).foldl (telC cfs) ys)
def begY (major : Int) (cfs : List Po.Cf) (acs : List Po.AC) (ins : List Inp) (ys : List PS) : List PS := (begZ major cfs acs ins ys).map (rdY major)
def begO (major : Int) (cfs : List Po.Cf) (acs : List Po.AC) (ins : List Inp) (ys : List PS) (o : Ob) : Ob := rdN major (begZ major cfs acs ins ys) o ys.length
theorem rdJ_tell {zs : List PS} {major : Int} {y : PS} {i j : Nat} (h : i < zs.length) : tellP (zs.set i (rdJ major y j)) (i : Int) 2 = zs.set i (rdJ major y (j + 1)) := by
  rw [tellP_at (List.getElem?_set_self h), List.set_set]
  congr 1
  unfold quP rdJ
  rw [if_pos (by decide), if_neg (Nat.succ_ne_zero j), show (2 : Int).toNat = 2 from rfl]
  by_cases q : j = 0
  · simp [q]
  · simp [q, setBit_two]
theorem went_nat {acs : List Po.AC} {i : Nat} : ∀ c ∈ Po.wentI acs i, ∃ k : Nat, c = k := fun c hc => by
  unfold Po.wentI at hc
  rw [List.mem_map] at hc
  obtain ⟨k, _, rfl⟩ := hc
  exact ⟨k, rfl⟩
def rtX (xs : List PA) (k : Nat) : Option Nat := (xs[k]?).map PA.r
theorem rtX_at {xs : List PA} {i : Nat} {x : PA} (h : xs[i]? = some x) : rtX xs i = some x.r := by unfold rtX; rw [h]; rfl
end Go.Proofs.YtphljkplokjonaaGreat.Io
/- iowin.Begin. -/
namespace Go.Proofs.YtphljkplokjonaaGreat.Io
open Go Go.Sl Go.RowKit Go.Proofs Go.Proofs.YtphljkplokjonaaGreat.T Go.Proofs.YtphljkplokjonaaGreat.Sp
set_option maxRecDepth 100000
section
variable (W0 : World) (Fr : List HProp)
theorem tell_spec {c5 lb lo lc : Nat} {xs : List PA} {ys : List PS} (part line : Int) (hl : SlR W0 Fr 4 (some ⟨lb, lo, none⟩) xs.length ((xs.map PA.cells).flatten)) (hxy : xs.length = ys.length) (hn : xs.length ≤ 1000) :
    Ctr Tryz.prog W0 80 [.int .i64 part, .int .i64 line, .pointer (some ⟨c5, 0, none⟩)] (PL xs ys :: blk c5 [.slice (some ⟨lb, lo, none⟩) xs.length lc] 59 :: Fr) (fun _ : Unit => True) (fun _ => .tuple #[]) (fun _ => PL xs (tellP ys part line) :: blk c5 [.slice (some ⟨lb, lo, none⟩) xs.length lc] 59 :: Fr) := by
  have hrow : ∀ {G : List HProp} {i : Nat} {x : PA}, Imp G Fr → xs[i]? = some x → Row W0 G lb (lo + i * 4) x.cells := fun hi hx => (hl.imp hi).elem PA.len hx
  refine Ctr.of_body Tryz.func80 rfl Tryz.ntmps80 rfl ?_
  refine CG.seq ?_
  rcases (show part < 0 ∨ (0 ≤ part ∧ part < xs.length) ∨ (0 ≤ part ∧ (xs.length : Int) ≤ part) by omega) with q | q | q
  · skip
    rw [show tellP ys part line = ys from if_neg (by omega)]
    refine CG.region ?_
    refine OG.mv rfl rfl ?_
    refine OG.yield (Yield.as (Yield.geq rfl rfl) (v' := .bool false) (bF (by omega))) rfl ?_
    refine OG.mv rfl rfl ?_
    refine OG.gn rfl rfl rfl rfl rfl ?_
    refine OG.gn rfl rfl rfl rfl rfl ?_
    refine OG.gn rfl rfl rfl rfl rfl ?_
    refine OG.gn rfl rfl rfl rfl rfl ?_
    refine OG.yield Yield.pickA rfl ?_
    refine OG.nil ?_
    refine QG.then ?_
    refine CG.cond_f rfl ?_
    refine CG.skip ?_
    exact QG.end0 rfl () trivial rfl iM
  · skip
    obtain ⟨pn, rfl⟩ : ∃ pn : Nat, part = pn := ⟨part.toNat, by omega⟩
    obtain ⟨x, hx⟩ : ∃ x, xs[pn]? = some x := ⟨xs[pn]'(by omega), List.getElem?_eq_getElem (by omega)⟩
    obtain ⟨y, hy⟩ : ∃ y, ys[pn]? = some y := ⟨ys[pn]'(by omega), List.getElem?_eq_getElem (by omega)⟩
    rw [tellP_at hy]
    refine CG.region ?_
    refine OG.mv rfl rfl ?_
    refine OG.yield (Yield.as (Yield.geq rfl rfl) (v' := .bool true) (bT (by omega))) rfl ?_
    refine OG.mv rfl rfl ?_
    refine OG.gy rfl rfl rfl ?_
    refine OG.mv rfl rfl ?_
    refine OG.gy rfl rfl rfl ?_
    refine OG.yield (Yield.load (v := .slice (some ⟨lb, lo, none⟩) xs.length lc) ti59 rfl (Cel.of_blk eX rfl)) rfl ?_
    refine OG.gy rfl rfl rfl ?_
    refine OG.yield (Yield.len_slice Tryz.underlying59 rfl rfl) rfl ?_
    refine OG.gy rfl rfl rfl ?_
    refine OG.yield (Yield.as (Yield.lss rfl rfl) (v' := .bool true) (bT (by omega))) rfl ?_
    refine OG.yield Yield.pickA rfl ?_
    refine OG.nil ?_
    refine QG.then ?_
    refine CG.cond_t rfl ?_
    refine CG.imp (pl_open hx hy) ?_
    refine CG.region ?_
    refine OG.yield (Yield.load (v := .slice (some ⟨lb, lo, none⟩) xs.length lc) ti59 rfl (Cel.of_blk eX rfl)) rfl ?_
    refine OG.mv rfl rfl ?_
    refine OG.yield (Yield.index_slice Tryz.underlying59 ti58 rfl rfl (by omega) (by omega)) rfl ?_
    refine OG.yield (Yield.fieldAddr fa58_1 rfl) rfl ?_
    refine OG.yield (Yield.load (v := .pointer (some ⟨x.v, 0, none⟩)) ti54 rfl (by rw [show lo + (pn : Int).toNat * 4 = lo + pn * 4 by omega]; exact hrow iM hx 1 _ rfl)) rfl ?_
    refine OG.mv rfl rfl ?_
    refine OG.callo call62 rfl (iM) (Vi.queue_spec W0 _ (v := x.v) (q := y.q) (p := y.p) (a := y.at') (s := y.set) line) rfl ?_
    rintro ⟨⟩ -
    refine OG.nil ?_
    exact QG.end0 rfl () trivial rfl (Imp.trans iM (pl_shut (quP line y) hx hy))
  · skip
    rw [show tellP ys part line = ys by unfold tellP; rw [if_pos q.1]; exact mod_out (by omega)]
    refine CG.region ?_
    refine OG.mv rfl rfl ?_
    refine OG.yield (Yield.as (Yield.geq rfl rfl) (v' := .bool true) (bT (by omega))) rfl ?_
    refine OG.mv rfl rfl ?_
    refine OG.gy rfl rfl rfl ?_
    refine OG.mv rfl rfl ?_
    refine OG.gy rfl rfl rfl ?_
    refine OG.yield (Yield.load (v := .slice (some ⟨lb, lo, none⟩) xs.length lc) ti59 rfl (Cel.of_blk eX rfl)) rfl ?_
    refine OG.gy rfl rfl rfl ?_
    refine OG.yield (Yield.len_slice Tryz.underlying59 rfl rfl) rfl ?_
    refine OG.gy rfl rfl rfl ?_
    refine OG.yield (Yield.as (Yield.lss rfl rfl) (v' := .bool false) (bF (by omega))) rfl ?_
    refine OG.yield Yield.pickA rfl ?_
    refine OG.nil ?_
    refine QG.then ?_
    refine CG.cond_f rfl ?_
    refine CG.skip ?_
    exact QG.end0 rfl () trivial rfl iM
set_option maxHeartbeats 8000000 in
theorem begin_spec {p lb lo lc cb co cc m f t n c ic : Nat} {ia : Option Addr} {xs : List PA} {ys : List PS} {cfs : List Po.Cf} {acs : List Po.AC} {ins : List Inp} {qs : List Int} {o : Ob} {σ : St} (major : Int)
    (hl : SlR W0 Fr 4 (some ⟨lb, lo, none⟩) xs.length ((xs.map PA.cells).flatten)) (hcf : SlR W0 Fr 5 (some ⟨cb, co, none⟩) cfs.length ((cfs.map Po.Cf.cells).flatten)) (his : SlR W0 Fr 3 ia ins.length ((ins.map Inp.cells).flatten))
    (hib : ∀ x ∈ ins, RdB W0 Fr x.Bytesa x.Bytesc x.Bytes ∧ x.Bytes.length ≤ 2 ^ 48) (hin : ins.length ≤ 2 ^ 60) (hxy : xs.length = ys.length) (hn : xs.length ≤ 1000) (hcl : cfs.length ≤ 1000) (hal : acs.length ≤ 1000) (had : ∀ y ∈ ys, AdOK y)
    (L : Lk n qs (rtX xs) o c σ) (hcc : c ≤ 100000000000000000) :
    Ctr Tryz.prog W0 24 [.slice (some ⟨lb, lo, none⟩) xs.length lc, .slice (some ⟨cb, co, none⟩) cfs.length cc, .pointer (some ⟨p, 0, none⟩), .slice ia ins.length ic, .int .i64 major] (PL xs ys :: Po.Po p acs :: SL m f t xs :: WG m f t n qs σ Fr)
      (fun σ' : St => Lk n qs (rtX xs) (begO major cfs acs ins ys o) (c + 32768 * xs.length) σ') (fun _ => .tuple #[]) (fun σ' => PL xs (begY major cfs acs ins ys) :: Po.Po p (acs.map Po.AC.tr) :: SL m f t xs :: WG m f t n qs σ' Fr) := by
  have hrow : ∀ {G : List HProp} {i : Nat} {x : PA}, Imp G Fr → xs[i]? = some x → Row W0 G lb (lo + i * 4) x.cells := fun hi hx => (hl.imp hi).elem PA.len hx
  have hwl := Po.wentI_len acs acs.length
  have hwn := went_nat (acs := acs) (i := acs.length)
  obtain ⟨went, hwent⟩ : ∃ w, w = Po.wentI acs acs.length := ⟨_, rfl⟩
  obtain ⟨z1, hz1⟩ : ∃ z, z = went.foldl (telC cfs) ys := ⟨_, rfl⟩
  obtain ⟨z2, hz2⟩ : ∃ z, z = ins.foldl (feedI major) z1 := ⟨_, rfl⟩
  have hzz : begZ major cfs acs ins ys = z2 := by rw [hz2, hz1, hwent]; rfl
  have h1l : z1.length = xs.length := by rw [hz1, telCs_len]; omega
  have h2l : z2.length = xs.length := by rw [hz2, feeds_len]; omega
  have had2 : ∀ y ∈ z2, AdOK y := by rw [hz2, hz1]; exact feeds_all (fun y b h => h) _ (telCs_all (fun y h => h) _ had)
  rw [← hwent] at hwl hwn
  unfold begY begO
  rw [hzz, ← hxy]
  refine Ctr.of_body Tryz.func24 rfl Tryz.ntmps24 rfl ?_
  dsimp only [WG]
  refine CG.seq ?_
  refine CG.region ?_
  refine OG.effd (Eff.box rfl) rfl ?_
  rintro b5 -
  refine OG.nil ?_
  refine QG.then ?_
  refine CG.seq ?_
  refine CG.region ?_
  refine OG.yield (Yield.makeFunc (first := []) (cap := [.tmp 5]) rfl rfl) rfl ?_
  refine OG.sg rfl rfl ?_
  refine OG.nil ?_
  refine QG.then ?_
  refine CG.seq ?_
  refine CG.seq ?_
  refine CG.region ?_
  refine OG.mv rfl rfl ?_
  refine OG.callo call45 rfl (iM) (Po.transfer_spec W0 _ (p := p) (acs := acs)) rfl ?_
  rintro ⟨ja, jc⟩ -
  rw [← hwent]
  refine OG.yield (Yield.len_slice Tryz.underlying80 rfl rfl) rfl ?_
  refine OG.mv rfl rfl ?_
  refine OG.nil ?_
  refine QG.then ?_
  refine CG.block ?_
  refine CG.loop (fun j : Nat => j ≤ went.length) (fun j => [(0, .slice (some ⟨lb, lo, none⟩) xs.length lc), (1, .slice (some ⟨cb, co, none⟩) cfs.length cc), (3, .slice ia ins.length ic), (4, .int .i64 major), (5, .pointer (some ⟨b5, 0, none⟩)), (10, .func (.func 80) ([] : List Value).toArray [.pointer (some ⟨b5, 0, none⟩)].toArray), (20, .slice ja went.length jc), (21, .int .i64 went.length), (22, .int .i64 j)]) (fun j => PL xs ((went.take j).foldl (telC cfs) ys) :: blk b5 [.slice (some ⟨lb, lo, none⟩) xs.length lc] 59 :: Po.oins ja jc went :: Po.Po p (acs.map Po.AC.tr) :: SL m f t xs :: WG m f t n qs σ Fr) (fun j => went.length - j) 0 (Nat.zero_le _) eS iM ?_
  rintro j hj
  dsimp only [WG]
  refine CG.seq ?_
  refine CG.region ?_
  refine OG.yield Yield.lssA rfl ?_
  refine OG.nil ?_
  refine QG.then ?_
  refine CG.seq ?_
  refine CG.cond rfl (fun hc => ?_) (fun hc => ?_)
  · try replace hc := of_decide_eq_true hc
    have hj' : j < went.length := by omega
    obtain ⟨w, hw⟩ : ∃ w, went[j]? = some w := ⟨went[j], by simp⟩
    obtain ⟨k, rfl⟩ := hwn w (List.mem_of_getElem? hw)
    have hln : ((went.take j).foldl (telC cfs) ys).length = xs.length := by rw [telCs_len]; omega
    have hfs := fold_succ (f := telC cfs) (b := ys) hw
    generalize (went.take j).foldl (telC cfs) ys = zs at hln hfs
    refine CG.pure (fun w' hw' => SlR.shape (SlR.of_osl (W0 := W0) (E := 3) (a := ja) (c := jc) (m := went.length) (xs := Po.oint went) eX) (fun q => by have := congrArg List.length q; simp [Po.oint] at this; rw [this] at hj'; simp at hj') w' hw') ?_
    rintro ⟨jb, jo, rfl⟩
    refine CG.skip ?_
    refine QG.then ?_
    refine CG.seq ?_
    refine CG.block ?_
    refine CG.seq ?_
    refine CG.region ?_
    refine OG.yield (Yield.index_slice Tryz.underlying80 ti3 rfl rfl (by omega) (by omega)) rfl ?_
    refine OG.yield (Yield.load (v := .int .i64 (k : Int)) ti3 rfl (by rw [show jo + (j : Int).toNat * 1 = jo + j by omega]; exact (SlR.of_osl (E := 3) (a := some ⟨jb, jo, none⟩) eX).cel (by unfold Po.oint; rw [List.getElem?_map, hw]; rfl))) rfl ?_
    refine OG.sg rfl rfl ?_
    refine OG.nil ?_
    refine QG.then ?_
    refine CG.seq ?_
    refine CG.region ?_
    refine OG.mv rfl rfl ?_
    refine OG.mv rfl rfl ?_
    refine OG.yield (Yield.len_slice Tryz.underlying72 rfl rfl) rfl ?_
    refine OG.yield Yield.lssA rfl ?_
    refine OG.nil ?_
    refine QG.then ?_
    refine CG.cond rfl (fun hc => ?_) (fun hc => ?_)
    · try replace hc := of_decide_eq_true hc
      have hk : k < cfs.length := by omega
      obtain ⟨cf, hcf1⟩ : ∃ q, cfs[k]? = some q := ⟨cfs[k], by simp⟩
      rw [show telC cfs zs (k : Int) = tellP zs cf.To 3 by unfold telC; rw [Int.toNat_natCast, hcf1]] at hfs
      refine CG.region ?_
      refine OG.mv rfl rfl ?_
      refine OG.mv rfl rfl ?_
      refine OG.mv rfl rfl ?_
      refine OG.yield (Yield.index_slice Tryz.underlying72 ti156 rfl rfl (by omega) (by omega)) rfl ?_
      refine OG.yield (Yield.fieldAddr fa156_2 rfl) rfl ?_
      refine OG.yield (Yield.load (v := .int .i64 cf.To) ti3 rfl (by rw [show co + (k : Int).toNat * 5 = co + k * 5 by omega]; exact ((hcf.imp iM).elem Po.Cf.len hcf1) 2 _ rfl)) rfl ?_
      refine OG.callv (fi := []) (ca := [.pointer (some ⟨b5, 0, none⟩)]) call80 rfl rfl iM (tell_spec W0 (Po.oins (some ⟨jb, jo, none⟩) jc went :: Po.Po p (acs.map Po.AC.tr) :: SL m f t xs :: WG m f t n qs σ Fr) (xs := xs) (ys := zs) (lc := lc) (c5 := b5) cf.To 3 (hl.imp iM) (by omega) hn) rfl ?_
      rintro ⟨⟩ -
      refine OG.nil ?_
      refine QG.block_normal ?_
      refine QG.then ?_
      refine CG.region ?_
      refine OG.yield (Yield.add rfl rfl (w64 (by omega) (by omega))) rfl ?_
      refine OG.mv rfl rfl ?_
      refine OG.nil ?_
      exact QG.next (j + 1) (by omega) (by omega) eS (by rw [hfs]; exact iM)
    · try replace hc := of_decide_eq_false hc
      have hk : cfs.length ≤ k := by omega
      rw [show telC cfs zs (k : Int) = zs by unfold telC; rw [Int.toNat_natCast, List.getElem?_eq_none hk]] at hfs
      refine CG.skip ?_
      refine QG.block_normal ?_
      refine QG.then ?_
      refine CG.region ?_
      refine OG.yield (Yield.add rfl rfl (w64 (by omega) (by omega))) rfl ?_
      refine OG.mv rfl rfl ?_
      refine OG.nil ?_
      exact QG.next (j + 1) (by omega) (by omega) eS (by rw [hfs]; exact iM)
  · try replace hc := of_decide_eq_false hc
    refine CG.exit ?_
    refine QG.pass_exit ?_
    refine QG.pass_exit ?_
    refine QG.block_exit ?_
    refine QG.then ?_
    refine CG.seq ?_
    refine CG.seq ?_
    obtain rfl : j = went.length := by omega
    rw [List.take_length, ← hz1]
    refine CG.region ?_
    refine OG.mv rfl rfl ?_
    refine OG.yield (Yield.len_slice Tryz.underlying70 rfl rfl) rfl ?_
    refine OG.mv rfl rfl ?_
    refine OG.nil ?_
    refine QG.then ?_
    refine CG.block ?_
    refine CG.loop (fun j : Nat => j ≤ ins.length) (fun j => [(0, .slice (some ⟨lb, lo, none⟩) xs.length lc), (4, .int .i64 major), (5, .pointer (some ⟨b5, 0, none⟩)), (10, .func (.func 80) ([] : List Value).toArray [.pointer (some ⟨b5, 0, none⟩)].toArray), (38, .slice ia ins.length ic), (39, .int .i64 ins.length), (40, .int .i64 j)]) (fun j => PL xs ((ins.take j).foldl (feedI major) z1) :: blk b5 [.slice (some ⟨lb, lo, none⟩) xs.length lc] 59 :: Po.Po p (acs.map Po.AC.tr) :: SL m f t xs :: WG m f t n qs σ Fr) (fun j => ins.length - j) 0 (Nat.zero_le _) eS iM ?_
    rintro j hj
    dsimp only [WG]
    refine CG.seq ?_
    refine CG.region ?_
    refine OG.yield Yield.lssA rfl ?_
    refine OG.nil ?_
    refine QG.then ?_
    refine CG.seq ?_
    refine CG.cond rfl (fun hc => ?_) (fun hc => ?_)
    · try replace hc := of_decide_eq_true hc
      have hj' : j < ins.length := by omega
      obtain ⟨xi, hxi⟩ : ∃ w, ins[j]? = some w := ⟨ins[j], by simp⟩
      obtain ⟨hxb, hxl⟩ := hib xi (List.mem_of_getElem? hxi)
      have hln : ((ins.take j).foldl (feedI major) z1).length = xs.length := by rw [feeds_len]; omega
      have hfs := fold_succ (f := feedI major) (b := z1) hxi
      generalize (ins.take j).foldl (feedI major) z1 = zs at hln hfs
      refine CG.pure (fun w' hw' => SlR.elem_shape (i := j) (his.imp (G := PL xs zs :: blk b5 [.slice (some ⟨lb, lo, none⟩) xs.length lc] 59 :: Po.Po p (acs.map Po.AC.tr) :: SL m f t xs :: WG m f t n qs σ Fr) iM) Inp.len (by decide) hj' w' hw') ?_
      rintro ⟨ib, io, rfl⟩
      refine CG.skip ?_
      refine QG.then ?_
      refine CG.seq ?_
      refine CG.block ?_
      refine CG.seq ?_
      refine CG.region ?_
      refine OG.yield (Yield.index_slice Tryz.underlying70 ti75 rfl rfl (by omega) (by omega)) rfl ?_
      refine OG.yield (Yield.load_agg (vs := Inp.cells xi) ti75 rfl rfl (by rw [show io + (j : Int).toNat * 3 = io + j * 3 by omega]; exact (his.imp iM).elem Inp.len hxi)) rfl ?_
      refine OG.effd (Eff.alloc ti75) rfl ?_
      rintro b14 -
      refine OG.eff (Eff.storeAll ti75 rfl rfl fC rfl (Inp.ones _) rfl) rfl ?_
      rintro ⟨⟩ -
      refine OG.nil ?_
      refine QG.then ?_
      refine CG.seq ?_
      rcases (show xi.Major ≠ major ∨ (xi.Major = major ∧ xi.Part < 0) ∨ (xi.Major = major ∧ 0 ≤ xi.Part ∧ (xs.length : Int) ≤ xi.Part) ∨ (xi.Major = major ∧ 0 ≤ xi.Part ∧ xi.Part < xs.length) by omega) with q | q | q | q
      · skip
        rw [show feedI major zs xi = zs from if_neg (fun h => q h.1)] at hfs
        refine CG.draw (.look 0 1 (.look 1 1 (.look 2 1 (.look 3 1 (.look 4 1 (.look 5 1 (.look 6 1 (.look 7 1 (.look 8 1 (.look 9 1 (.look 10 1 (.look 11 1 (.look 12 1 (.look 13 1 (.look 14 1 (.look 15 1 (.look 16 1 (.look 17 1 (.look 18 1 (.look 19 1 (.look 20 1 (.look 21 1 (.look 22 1 (.look 23 1 (.look 24 1 (.eff1 25 false (.look 26 1 (.look 27 1 (.done))))))))))))))))))))))))))))) [25] [] ([]) ([]) mixed (by kernel_rfl) (Imp.none _) (Imp.none _) ?_
        refine DG.look rfl rfl (Yield.fieldAddr fa75_0 rfl) rfl ?_
        refine DG.look rfl rfl (Yield.load (v := .int .i64 xi.Major) ti3 rfl (Cel.of_blk (b := b14) eX rfl)) rfl ?_
        refine DG.look rfl rfl (Yield.move rfl) rfl ?_
        refine DG.look rfl rfl (Yield.as (Yield.eql rfl rfl) (v' := .bool false) (bF q)) rfl ?_
        refine DG.look rfl rfl (Yield.move rfl) rfl ?_
        refine DG.pass rfl rfl rfl ?_
        refine DG.pass rfl rfl rfl ?_
        refine DG.pass rfl rfl rfl ?_
        refine DG.look rfl rfl Yield.pickA rfl ?_
        refine DG.look rfl rfl (Yield.move rfl) rfl ?_
        refine DG.pass rfl rfl rfl ?_
        refine DG.pass rfl rfl rfl ?_
        refine DG.pass rfl rfl rfl ?_
        refine DG.pass rfl rfl rfl ?_
        refine DG.pass rfl rfl rfl ?_
        refine DG.look rfl rfl Yield.pickA rfl ?_
        refine DG.look rfl rfl (Yield.move rfl) rfl ?_
        refine DG.pass rfl rfl rfl ?_
        refine DG.pass rfl rfl rfl ?_
        refine DG.pass rfl rfl rfl ?_
        refine DG.pass rfl rfl rfl ?_
        refine DG.pass rfl rfl rfl ?_
        refine DG.pass rfl rfl rfl ?_
        refine DG.pass rfl rfl rfl ?_
        refine DG.pass rfl rfl rfl ?_
        refine DG.eff1 ?_
        refine Chg.pass rfl rfl rfl ?_ iM iM
        refine DG.pass rfl rfl rfl ?_
        refine DG.look rfl rfl Yield.pickA rfl ?_
        refine DG.done ?_
        refine QG.then ?_
        refine CG.cond_f rfl ?_
        refine CG.skip ?_
        refine QG.block_normal ?_
        refine QG.then ?_
        refine CG.region ?_
        refine OG.yield (Yield.add rfl rfl (w64 (by omega) (by omega))) rfl ?_
        refine OG.mv rfl rfl ?_
        refine OG.nil ?_
        exact QG.next (j + 1) (by omega) (by omega) eS (by rw [hfs]; exact iM)
      · skip
        rw [show feedI major zs xi = zs from if_neg (fun h => by omega)] at hfs
        refine CG.draw (.look 0 1 (.look 1 1 (.look 2 1 (.look 3 1 (.look 4 1 (.look 5 1 (.look 6 1 (.look 7 1 (.look 8 1 (.look 9 1 (.look 10 1 (.look 11 1 (.look 12 1 (.look 13 1 (.look 14 1 (.look 15 1 (.look 16 1 (.look 17 1 (.look 18 1 (.look 19 1 (.look 20 1 (.look 21 1 (.look 22 1 (.look 23 1 (.look 24 1 (.eff1 25 false (.look 26 1 (.look 27 1 (.done))))))))))))))))))))))))))))) [25] [] ([]) ([]) mixed (by kernel_rfl) (Imp.none _) (Imp.none _) ?_
        refine DG.look rfl rfl (Yield.fieldAddr fa75_0 rfl) rfl ?_
        refine DG.look rfl rfl (Yield.load (v := .int .i64 xi.Major) ti3 rfl (Cel.of_blk (b := b14) eX rfl)) rfl ?_
        refine DG.look rfl rfl (Yield.move rfl) rfl ?_
        refine DG.look rfl rfl (Yield.as (Yield.eql rfl rfl) (v' := .bool true) (bT q.1)) rfl ?_
        refine DG.look rfl rfl (Yield.move rfl) rfl ?_
        refine DG.look rfl rfl (Yield.fieldAddr fa75_1 rfl) rfl ?_
        refine DG.look rfl rfl (Yield.load (v := .int .i64 xi.Part) ti3 rfl (Cel.of_blk (b := b14) eX rfl)) rfl ?_
        refine DG.look rfl rfl (Yield.as (Yield.geq rfl rfl) (v' := .bool false) (bF (by omega))) rfl ?_
        refine DG.look rfl rfl Yield.pickA rfl ?_
        refine DG.look rfl rfl (Yield.move rfl) rfl ?_
        refine DG.pass rfl rfl rfl ?_
        refine DG.pass rfl rfl rfl ?_
        refine DG.pass rfl rfl rfl ?_
        refine DG.pass rfl rfl rfl ?_
        refine DG.pass rfl rfl rfl ?_
        refine DG.look rfl rfl Yield.pickA rfl ?_
        refine DG.look rfl rfl (Yield.move rfl) rfl ?_
        refine DG.pass rfl rfl rfl ?_
        refine DG.pass rfl rfl rfl ?_
        refine DG.pass rfl rfl rfl ?_
        refine DG.pass rfl rfl rfl ?_
        refine DG.pass rfl rfl rfl ?_
        refine DG.pass rfl rfl rfl ?_
        refine DG.pass rfl rfl rfl ?_
        refine DG.pass rfl rfl rfl ?_
        refine DG.eff1 ?_
        refine Chg.pass rfl rfl rfl ?_ iM iM
        refine DG.pass rfl rfl rfl ?_
        refine DG.look rfl rfl Yield.pickA rfl ?_
        refine DG.done ?_
        refine QG.then ?_
        refine CG.cond_f rfl ?_
        refine CG.skip ?_
        refine QG.block_normal ?_
        refine QG.then ?_
        refine CG.region ?_
        refine OG.yield (Yield.add rfl rfl (w64 (by omega) (by omega))) rfl ?_
        refine OG.mv rfl rfl ?_
        refine OG.nil ?_
        exact QG.next (j + 1) (by omega) (by omega) eS (by rw [hfs]; exact iM)
      · skip
        rw [show feedI major zs xi = zs by unfold feedI; rw [if_pos ⟨q.1, q.2.1⟩]; exact mod_out (by omega)] at hfs
        refine CG.draw (.look 0 1 (.look 1 1 (.look 2 1 (.look 3 1 (.look 4 1 (.look 5 1 (.look 6 1 (.look 7 1 (.look 8 1 (.look 9 1 (.look 10 1 (.look 11 1 (.look 12 1 (.look 13 1 (.look 14 1 (.look 15 1 (.look 16 1 (.look 17 1 (.look 18 1 (.look 19 1 (.look 20 1 (.look 21 1 (.look 22 1 (.look 23 1 (.look 24 1 (.eff1 25 false (.look 26 1 (.look 27 1 (.done))))))))))))))))))))))))))))) [25] [] ([]) ([]) mixed (by kernel_rfl) (Imp.none _) (Imp.none _) ?_
        refine DG.look rfl rfl (Yield.fieldAddr fa75_0 rfl) rfl ?_
        refine DG.look rfl rfl (Yield.load (v := .int .i64 xi.Major) ti3 rfl (Cel.of_blk (b := b14) eX rfl)) rfl ?_
        refine DG.look rfl rfl (Yield.move rfl) rfl ?_
        refine DG.look rfl rfl (Yield.as (Yield.eql rfl rfl) (v' := .bool true) (bT q.1)) rfl ?_
        refine DG.look rfl rfl (Yield.move rfl) rfl ?_
        refine DG.look rfl rfl (Yield.fieldAddr fa75_1 rfl) rfl ?_
        refine DG.look rfl rfl (Yield.load (v := .int .i64 xi.Part) ti3 rfl (Cel.of_blk (b := b14) eX rfl)) rfl ?_
        refine DG.look rfl rfl (Yield.as (Yield.geq rfl rfl) (v' := .bool true) (bT (by omega))) rfl ?_
        refine DG.look rfl rfl Yield.pickA rfl ?_
        refine DG.look rfl rfl (Yield.move rfl) rfl ?_
        refine DG.look rfl rfl (Yield.fieldAddr fa75_1 rfl) rfl ?_
        refine DG.look rfl rfl (Yield.load (v := .int .i64 xi.Part) ti3 rfl (Cel.of_blk (b := b14) eX rfl)) rfl ?_
        refine DG.look rfl rfl (Yield.load (v := .slice (some ⟨lb, lo, none⟩) xs.length lc) ti59 rfl (Cel.of_blk (b := b5) eX rfl)) rfl ?_
        refine DG.look rfl rfl (Yield.len_slice Tryz.underlying59 rfl rfl) rfl ?_
        refine DG.look rfl rfl (Yield.as (Yield.lss rfl rfl) (v' := .bool false) (bF (by omega))) rfl ?_
        refine DG.look rfl rfl Yield.pickA rfl ?_
        refine DG.look rfl rfl (Yield.move rfl) rfl ?_
        refine DG.pass rfl rfl rfl ?_
        refine DG.pass rfl rfl rfl ?_
        refine DG.pass rfl rfl rfl ?_
        refine DG.pass rfl rfl rfl ?_
        refine DG.pass rfl rfl rfl ?_
        refine DG.pass rfl rfl rfl ?_
        refine DG.pass rfl rfl rfl ?_
        refine DG.pass rfl rfl rfl ?_
        refine DG.eff1 ?_
        refine Chg.pass rfl rfl rfl ?_ iM iM
        refine DG.pass rfl rfl rfl ?_
        refine DG.look rfl rfl Yield.pickA rfl ?_
        refine DG.done ?_
        refine QG.then ?_
        refine CG.cond_f rfl ?_
        refine CG.skip ?_
        refine QG.block_normal ?_
        refine QG.then ?_
        refine CG.region ?_
        refine OG.yield (Yield.add rfl rfl (w64 (by omega) (by omega))) rfl ?_
        refine OG.mv rfl rfl ?_
        refine OG.nil ?_
        exact QG.next (j + 1) (by omega) (by omega) eS (by rw [hfs]; exact iM)
      · skip
        obtain ⟨pn, hpn⟩ : ∃ pn : Nat, xi.Part = pn := ⟨xi.Part.toNat, by omega⟩
        obtain ⟨x, hx⟩ : ∃ x, xs[pn]? = some x := ⟨xs[pn]'(by omega), List.getElem?_eq_getElem (by omega)⟩
        obtain ⟨y, hy⟩ : ∃ y, zs[pn]? = some y := ⟨zs[pn]'(by omega), List.getElem?_eq_getElem (by omega)⟩
        rw [show feedI major zs xi = zs.set pn (fedP xi.Bytes y) by unfold feedI; rw [if_pos ⟨q.1, q.2.1⟩, hpn, Int.toNat_natCast]; exact mod_at hy] at hfs
        refine CG.imp (Imp.trans (B := PL xs zs :: _) iM (pl_open hx hy)) ?_
        refine CG.draw (.look 0 1 (.look 1 1 (.look 2 1 (.look 3 1 (.look 4 1 (.look 5 1 (.look 6 1 (.look 7 1 (.look 8 1 (.look 9 1 (.look 10 1 (.look 11 1 (.look 12 1 (.look 13 1 (.look 14 1 (.look 15 1 (.look 16 1 (.look 17 1 (.look 18 1 (.look 19 1 (.look 20 1 (.look 21 1 (.look 22 1 (.look 23 1 (.look 24 1 (.eff1 25 false (.look 26 1 (.look 27 1 (.done))))))))))))))))))))))))))))) [25] [] ([]) ([]) mixed (by kernel_rfl) (Imp.none _) (Imp.none _) ?_
        refine DG.look rfl rfl (Yield.fieldAddr fa75_0 rfl) rfl ?_
        refine DG.look rfl rfl (Yield.load (v := .int .i64 xi.Major) ti3 rfl (Cel.of_blk (b := b14) eX rfl)) rfl ?_
        refine DG.look rfl rfl (Yield.move rfl) rfl ?_
        refine DG.look rfl rfl (Yield.as (Yield.eql rfl rfl) (v' := .bool true) (bT q.1)) rfl ?_
        refine DG.look rfl rfl (Yield.move rfl) rfl ?_
        refine DG.look rfl rfl (Yield.fieldAddr fa75_1 rfl) rfl ?_
        refine DG.look rfl rfl (Yield.load (v := .int .i64 xi.Part) ti3 rfl (Cel.of_blk (b := b14) eX rfl)) rfl ?_
        refine DG.look rfl rfl (Yield.as (Yield.geq rfl rfl) (v' := .bool true) (bT (by omega))) rfl ?_
        refine DG.look rfl rfl Yield.pickA rfl ?_
        refine DG.look rfl rfl (Yield.move rfl) rfl ?_
        refine DG.look rfl rfl (Yield.fieldAddr fa75_1 rfl) rfl ?_
        refine DG.look rfl rfl (Yield.load (v := .int .i64 xi.Part) ti3 rfl (Cel.of_blk (b := b14) eX rfl)) rfl ?_
        refine DG.look rfl rfl (Yield.load (v := .slice (some ⟨lb, lo, none⟩) xs.length lc) ti59 rfl (Cel.of_blk (b := b5) eX rfl)) rfl ?_
        refine DG.look rfl rfl (Yield.len_slice Tryz.underlying59 rfl rfl) rfl ?_
        refine DG.look rfl rfl (Yield.as (Yield.lss rfl rfl) (v' := .bool true) (bT (by omega))) rfl ?_
        refine DG.look rfl rfl Yield.pickA rfl ?_
        refine DG.look rfl rfl (Yield.move rfl) rfl ?_
        refine DG.look rfl rfl (Yield.load (v := .slice (some ⟨lb, lo, none⟩) xs.length lc) ti59 rfl (Cel.of_blk (b := b5) eX rfl)) rfl ?_
        refine DG.look rfl rfl (Yield.fieldAddr fa75_1 rfl) rfl ?_
        refine DG.look rfl rfl (Yield.load (v := .int .i64 (pn : Int)) ti3 rfl (Cel.of_blk (b := b14) eX (by show some (Value.int .i64 xi.Part) = _; rw [hpn]))) rfl ?_
        refine DG.look rfl rfl (Yield.index_slice Tryz.underlying59 ti58 rfl rfl (by omega) (by omega)) rfl ?_
        refine DG.look rfl rfl (Yield.fieldAddr fa58_2 rfl) rfl ?_
        refine DG.look rfl rfl (Yield.load (v := .pointer (some ⟨x.k, 0, none⟩)) ti55 rfl (by rw [show lo + (pn : Int).toNat * 4 = lo + pn * 4 by omega]; exact hrow iM hx 2 _ rfl)) rfl ?_
        refine DG.look rfl rfl (Yield.fieldAddr fa75_2 rfl) rfl ?_
        refine DG.look rfl rfl (Yield.load (v := .slice xi.Bytesa xi.Bytes.length xi.Bytesc) ti32 rfl (Cel.of_blk (b := b14) eX rfl)) rfl ?_
        refine DG.eff1 ?_
        refine Chg.callo rfl rfl call60 rfl (iM) (Vc.feedB W0 _ (g := x.k) (out := y.out) (inn := y.inn) (ds := xi.Bytes) (a2 := xi.Bytesa) (c2 := xi.Bytesc) (hxb.imp iM) (by omega)) rfl (fun _ => iM) (fun _ => Imp.refl _) (fun _ => iM) ?_
        rintro ⟨⟩ -
        refine DG.look rfl rfl (Yield.gtr rfl rfl) rfl ?_
        refine DG.look rfl rfl Yield.pickA rfl ?_
        refine DG.done ?_
        refine QG.then ?_
        refine CG.cond rfl (fun hc => ?_) (fun hc => ?_)
        · try replace hc := of_decide_eq_true hc
          have hm : 0 < min xi.Bytes.length (64 - y.inn.length) := by omega
          refine CG.imp (Imp.trans iM (pl_shut { y with inn := y.inn ++ xi.Bytes.take (64 - y.inn.length) } hx hy)) ?_
          refine CG.region ?_
          refine OG.mv rfl rfl ?_
          refine OG.yield (Yield.fieldAddr fa75_1 rfl) rfl ?_
          refine OG.yield (Yield.load (v := .int .i64 (pn : Int)) ti3 rfl (Cel.of_blk (b := b14) eX (by show some (Value.int .i64 xi.Part) = _; rw [hpn]))) rfl ?_
          refine OG.callv (fi := []) (ca := [.pointer (some ⟨b5, 0, none⟩)]) call80 rfl rfl iM (tell_spec W0 (Po.Po p (acs.map Po.AC.tr) :: SL m f t xs :: WG m f t n qs σ Fr) (xs := xs) (ys := zs.set pn { y with inn := y.inn ++ xi.Bytes.take (64 - y.inn.length) }) (lc := lc) (c5 := b5) (pn : Int) 1 (hl.imp iM) (by rw [List.length_set]; omega) hn) rfl ?_
          rintro ⟨⟩ -
          rw [tellP_at (List.getElem?_set_self (by omega)), List.set_set, show quP 1 { y with inn := y.inn ++ xi.Bytes.take (64 - y.inn.length) } = fedP xi.Bytes y by unfold quP fedP; rw [if_pos (by decide), if_pos hm]; rfl]
          refine OG.nil ?_
          refine QG.block_normal ?_
          refine QG.then ?_
          refine CG.region ?_
          refine OG.yield (Yield.add rfl rfl (w64 (by omega) (by omega))) rfl ?_
          refine OG.mv rfl rfl ?_
          refine OG.nil ?_
          exact QG.next (j + 1) (by omega) (by omega) eS (by rw [hfs]; exact iM)
        · try replace hc := of_decide_eq_false hc
          have hm : ¬ 0 < min xi.Bytes.length (64 - y.inn.length) := by omega
          refine CG.skip ?_
          refine QG.block_normal ?_
          refine QG.then ?_
          refine CG.region ?_
          refine OG.yield (Yield.add rfl rfl (w64 (by omega) (by omega))) rfl ?_
          refine OG.mv rfl rfl ?_
          refine OG.nil ?_
          exact QG.next (j + 1) (by omega) (by omega) eS (by rw [hfs, show fedP xi.Bytes y = { y with inn := y.inn ++ xi.Bytes.take (64 - y.inn.length) } by unfold fedP; rw [if_neg hm]]; exact Imp.trans iM (pl_shut { y with inn := y.inn ++ xi.Bytes.take (64 - y.inn.length) } hx hy))
    · try replace hc := of_decide_eq_false hc
      refine CG.exit ?_
      refine QG.pass_exit ?_
      refine QG.pass_exit ?_
      refine QG.block_exit ?_
      refine QG.then ?_
      refine CG.seq ?_
      obtain rfl : j = ins.length := by omega
      rw [List.take_length, ← hz2]
      refine CG.region ?_
      refine OG.yield (Yield.load (v := .slice (some ⟨lb, lo, none⟩) xs.length lc) ti59 rfl (Cel.of_blk (b := b5) eX rfl)) rfl ?_
      refine OG.yield (Yield.len_slice Tryz.underlying59 rfl rfl) rfl ?_
      refine OG.mv rfl rfl ?_
      refine OG.nil ?_
      refine QG.then ?_
      refine CG.block ?_
      refine CG.loop (fun z : Nat × St => z.1 ≤ xs.length ∧ Lk n qs (rtX xs) (rdN major z2 o z.1) (c + 32768 * z.1) z.2) (fun z => [(4, .int .i64 major), (5, .pointer (some ⟨b5, 0, none⟩)), (10, .func (.func 80) ([] : List Value).toArray [.pointer (some ⟨b5, 0, none⟩)].toArray), (78, .int .i64 xs.length), (79, .int .i64 z.1)]) (fun z => PL xs (tkd (z2.map (rdY major)) z2 z.1) :: blk b5 [.slice (some ⟨lb, lo, none⟩) xs.length lc] 59 :: Po.Po p (acs.map Po.AC.tr) :: SL m f t xs :: WG m f t n qs z.2 Fr) (fun z => xs.length - z.1) (0, σ) ⟨Nat.zero_le _, L⟩ eS iM ?_
      rintro ⟨i, σi⟩ ⟨hi, Li⟩
      dsimp only [WG] at hi Li ⊢
      refine CG.seq ?_
      refine CG.region ?_
      refine OG.yield Yield.lssA rfl ?_
      refine OG.nil ?_
      refine QG.then ?_
      refine CG.seq ?_
      refine CG.cond rfl (fun hc => ?_) (fun hc => ?_)
      · try replace hc := of_decide_eq_true hc
        have hi' : i < xs.length := by omega
        obtain ⟨x, hx⟩ : ∃ x, xs[i]? = some x := ⟨xs[i], by simp⟩
        obtain ⟨y, hy⟩ : ∃ y, z2[i]? = some y := ⟨_, List.getElem?_eq_getElem (by omega)⟩
        have hyg := tkd_at (l := z2.map (rdY major)) (by simp) hy
        have hys := tkd_set (l := z2.map (rdY major)) (z := z2) (i := i) (x := rdY major y) (by simp) (by rw [List.getElem?_map, hy]; rfl)
        have hln : (tkd (z2.map (rdY major)) z2 i).length = xs.length := by rw [tkd_len (by simp)]; omega
        have hadr := rdyL_addr (major := major) (had2 y (List.mem_of_getElem? hy))
        generalize tkd (z2.map (rdY major)) z2 i = zs at hyg hys hln
        refine CG.imp (pl_open hx hyg) ?_
        refine CG.pure (fun w hw => Vd.d_facts (d := x.d) (s := y.d) eX w hw) ?_
        intro hdk
        have hdl := hdk.asks
        have hrl0 := rdyL_len (s := y.d) (major := major)
        refine CG.skip ?_
        refine QG.then ?_
        refine CG.seq ?_
        refine CG.block ?_
        refine CG.seq ?_
        refine CG.region ?_
        refine OG.mv rfl rfl ?_
        refine OG.sg rfl rfl ?_
        refine OG.nil ?_
        refine QG.then ?_
        refine CG.seq ?_
        refine CG.region ?_
        refine OG.yield (Yield.load (v := .slice (some ⟨lb, lo, none⟩) xs.length lc) ti59 rfl (Cel.of_blk (b := b5) eX rfl)) rfl ?_
        refine OG.mv rfl rfl ?_
        refine OG.yield (Yield.index_slice Tryz.underlying59 ti58 rfl rfl (by omega) (by omega)) rfl ?_
        refine OG.yield (Yield.fieldAddr fa58_3 rfl) rfl ?_
        refine OG.yield (Yield.load (v := .pointer (some ⟨x.d, 0, none⟩)) ti56 rfl (by rw [show lo + (i : Int).toNat * 4 = lo + i * 4 by omega]; exact hrow iM hx 3 _ rfl)) rfl ?_
        refine OG.mv rfl rfl ?_
        refine OG.callo call64 rfl (iM) (Vd.ready_spec W0 _ (d := x.d) (s := y.d) major) rfl ?_
        rintro ⟨l, la, lc2⟩ hrl
        dsimp only [Vd.Dns.G, Vd.Dns.ms, Vd.Dns.cell, List.cons_append, List.nil_append] at hrl ⊢
        have hll : l.length = (Vd.rdyL y.d major).length := by rw [← hrl, List.length_map]
        refine OG.yield (Yield.len_slice Tryz.underlying130 rfl rfl) rfl ?_
        refine OG.mv rfl rfl ?_
        refine OG.nil ?_
        refine QG.then ?_
        refine CG.block ?_
        refine CG.loop (fun z : Nat × St => z.1 ≤ l.length ∧ Lk n qs (rtX xs) (rdO i (rdN major z2 o i) ((Vd.rdyL y.d major).take z.1)) (c + 32768 * i + 8192 * z.1) z.2) (fun z => [(4, .int .i64 major), (5, .pointer (some ⟨b5, 0, none⟩)), (10, .func (.func 80) ([] : List Value).toArray [.pointer (some ⟨b5, 0, none⟩)].toArray), (15, .int .i64 i), (78, .int .i64 xs.length), (79, .int .i64 i), (88, .slice la l.length lc2), (89, .int .i64 l.length), (90, .int .i64 z.1)]) (fun z => PL xs (zs.set i (rdJ major y z.1)) :: blk b5 [.slice (some ⟨lb, lo, none⟩) xs.length lc] 59 :: Vd.odone la lc2 l :: Ms.pool (l.map Vd.CD.m) :: Po.Po p (acs.map Po.AC.tr) :: SL m f t xs :: WG m f t n qs z.2 Fr) (fun z => l.length - z.1) (0, σi) ⟨Nat.zero_le _, Li⟩ eS (Imp.trans iM (pl_shut (rdJ major y 0) hx hyg)) ?_
        rintro ⟨j, σj⟩ ⟨hj, Lj⟩
        dsimp only [WG] at hj Lj ⊢
        refine CG.seq ?_
        refine CG.region ?_
        refine OG.yield Yield.lssA rfl ?_
        refine OG.nil ?_
        refine QG.then ?_
        refine CG.seq ?_
        refine CG.cond rfl (fun hc => ?_) (fun hc => ?_)
        · try replace hc := of_decide_eq_true hc
          have hj' : j < l.length := by omega
          obtain ⟨cd, hcd⟩ : ∃ cd, l[j]? = some cd := ⟨l[j], by simp⟩
          have hra : (Vd.rdyL y.d major)[j]? = some cd.abs := by rw [← hrl, List.getElem?_map, hcd]; rfl
          have hca := hadr cd.abs (List.mem_of_getElem? hra)
          obtain ⟨ad, hade⟩ : ∃ ad : Nat, cd.addr = ad := ⟨cd.addr.toNat, by have : 0 ≤ cd.addr := hca.1; omega⟩
          have had4 : ad < 4294967296 := by have : cd.addr < 4294967296 := hca.2; omega
          have hfs : rdO i (rdN major z2 o i) ((Vd.rdyL y.d major).take (j + 1)) = if cd.write then rdO i (rdN major z2 o i) ((Vd.rdyL y.d major).take j) else (outR (rdO i (rdN major z2 o i) ((Vd.rdyL y.d major).take j)) i ad cd.m.b).2 := by
            unfold rdO
            rw [fold_succ (f := fun (o : Ob) (dn : Vd.Dn) => if dn.write then o else (outR o i dn.addr.toNat dn.data).2) hra]
            show (if cd.write then _ else (outR _ i cd.addr.toNat cd.m.b).2) = _
            rw [hade, Int.toNat_natCast]
          refine CG.pure (fun w hw => SlR.elem_shape (i := j) (SlR.of_osl (W0 := W0) (E := 158) (a := la) (c := lc2) eX) Vd.CD.len (by decide) hj' w hw) ?_
          rintro ⟨bl, ol, rfl⟩
          refine CG.skip ?_
          refine QG.then ?_
          refine CG.seq ?_
          refine CG.block ?_
          refine CG.seq ?_
          refine CG.region ?_
          refine OG.yield (Yield.index_slice Tryz.underlying130 ti158 rfl rfl (by omega) (by omega)) rfl ?_
          refine OG.yield (Yield.load_agg (vs := Vd.CD.cells cd) ti158 rfl rfl (by rw [show ol + (j : Int).toNat * 4 = ol + j * 4 by omega]; exact SlR.elem (SlR.of_osl (E := 158) (a := some ⟨bl, ol, none⟩) (c := lc2) eX) Vd.CD.len hcd)) rfl ?_
          refine OG.effd (Eff.alloc ti158) rfl ?_
          rintro b17 -
          refine OG.eff (Eff.storeAll ti158 rfl rfl fC rfl (by simp [Vd.CD.cells, one, Ms.Msg.cell]) rfl) rfl ?_
          rintro ⟨⟩ -
          refine OG.nil ?_
          refine QG.then ?_
          refine CG.seq ?_
          refine CG.seq ?_
          rcases (show cd.write = true ∨ cd.write = false by cases cd.write <;> simp) with q | q
          · skip
            rw [q, if_pos rfl] at hfs
            refine CG.region ?_
            refine OG.yield (Yield.fieldAddr fa158_1 rfl) rfl ?_
            refine OG.yield (Yield.load (v := .bool cd.write) ti4 rfl (Cel.of_blk (b := b17) eX rfl)) rfl ?_
            refine OG.yield (Yield.as (Yield.not rfl) (v' := .bool false) (by rw [q]; rfl)) rfl ?_
            refine OG.nil ?_
            refine QG.then ?_
            refine CG.cond_f rfl ?_
            refine CG.skip ?_
            refine QG.then ?_
            refine CG.region ?_
            refine OG.mv rfl rfl ?_
            refine OG.mv rfl rfl ?_
            refine OG.callv (fi := []) (ca := [.pointer (some ⟨b5, 0, none⟩)]) call80 rfl rfl iM (tell_spec W0 (Vd.odone (some ⟨bl, ol, none⟩) lc2 l :: Ms.pool (l.map Vd.CD.m) :: Po.Po p (acs.map Po.AC.tr) :: SL m f t xs :: WG m f t n qs σj Fr) (xs := xs) (ys := zs.set i (rdJ major y j)) (lc := lc) (c5 := b5) (i : Int) 2 (hl.imp iM) (by rw [List.length_set]; omega) hn) rfl ?_
            rintro ⟨⟩ -
            rw [rdJ_tell (by omega)]
            refine OG.nil ?_
            refine QG.block_normal ?_
            refine QG.then ?_
            refine CG.region ?_
            refine OG.yield (Yield.add rfl rfl (w64 (by omega) (by omega))) rfl ?_
            refine OG.mv rfl rfl ?_
            refine OG.nil ?_
            exact QG.next (j + 1, σj) ⟨by simp only; omega, by rw [hfs]; exact Lj.mono (by simp only; omega)⟩ (by simp only; omega) eS iM
          · skip
            rw [q, if_neg (by decide)] at hfs
            refine CG.region ?_
            refine OG.yield (Yield.fieldAddr fa158_1 rfl) rfl ?_
            refine OG.yield (Yield.load (v := .bool cd.write) ti4 rfl (Cel.of_blk (b := b17) eX rfl)) rfl ?_
            refine OG.yield (Yield.as (Yield.not rfl) (v' := .bool true) (by rw [q]; rfl)) rfl ?_
            refine OG.nil ?_
            refine QG.then ?_
            refine CG.cond_t rfl ?_
            refine CG.imp (Imp.trans (B := SL m f t xs :: _) iM (sl_open hx)) ?_
            refine CG.draw (.look 0 1 (.look 1 1 (.look 2 1 (.look 3 1 (.look 4 1 (.look 5 1 (.look 6 1 (.look 7 1 (.look 8 1 (.eff1 9 false (.done))))))))))) [9] [] ([]) ([]) mixed (by kernel_rfl) (Imp.none _) (Imp.none _) ?_
            refine DG.look rfl rfl (Yield.load (v := .slice (some ⟨lb, lo, none⟩) xs.length lc) ti59 rfl (Cel.of_blk (b := b5) eX rfl)) rfl ?_
            refine DG.look rfl rfl (Yield.move rfl) rfl ?_
            refine DG.look rfl rfl (Yield.index_slice Tryz.underlying59 ti58 rfl rfl (by omega) (by omega)) rfl ?_
            refine DG.look rfl rfl (Yield.fieldAddr fa58_0 rfl) rfl ?_
            refine DG.look rfl rfl (Yield.load (v := .pointer (some ⟨x.s, 0, none⟩)) ti53 rfl (by rw [show lo + (i : Int).toNat * 4 = lo + i * 4 by omega]; exact hrow iM hx 0 _ rfl)) rfl ?_
            refine DG.look rfl rfl (Yield.fieldAddr fa158_2 rfl) rfl ?_
            refine DG.look rfl rfl (Yield.load (v := .int .u32 (ad : Int)) ti27 rfl (Cel.of_blk (b := b17) eX (by show some (Value.int .u32 cd.addr) = _; rw [hade]))) rfl ?_
            refine DG.look rfl rfl (Yield.fieldAddr fa158_3 rfl) rfl ?_
            refine DG.look rfl rfl (Yield.load (v := .slice cd.m.a cd.m.b.length cd.m.c) ti32 rfl (Cel.of_blk (b := b17) eX rfl)) rfl ?_
            refine DG.eff1 ?_
            refine Chg.callo rfl rfl call32 rfl (iM) (out_of W0 _ (s := x.s) (m := m) (f := f) (t := t) (k := i) (r := x.r) (ba := cd.m.a) (bc := cd.m.c) (b := cd.m.b) (Ms.pool_rd (ms := l.map Vd.CD.m) eX (List.mem_map_of_mem (List.mem_of_getElem? hcd))) Lj (rtX_at hx) (by omega) (ad := ad) had4) rfl (fun _ => iM) (fun _ => Imp.refl _) (fun _ => iM) ?_
            rintro σk Lk2
            dsimp only [WG] at Lk2 ⊢
            refine DG.done ?_
            refine QG.then ?_
            refine CG.imp (Imp.trans iM (sl_shut hx)) ?_
            refine CG.region ?_
            refine OG.mv rfl rfl ?_
            refine OG.mv rfl rfl ?_
            refine OG.callv (fi := []) (ca := [.pointer (some ⟨b5, 0, none⟩)]) call80 rfl rfl iM (tell_spec W0 (Vd.odone (some ⟨bl, ol, none⟩) lc2 l :: Ms.pool (l.map Vd.CD.m) :: Po.Po p (acs.map Po.AC.tr) :: SL m f t xs :: WG m f t n qs σk Fr) (xs := xs) (ys := zs.set i (rdJ major y j)) (lc := lc) (c5 := b5) (i : Int) 2 (hl.imp iM) (by rw [List.length_set]; omega) hn) rfl ?_
            rintro ⟨⟩ -
            rw [rdJ_tell (by omega)]
            refine OG.nil ?_
            refine QG.block_normal ?_
            refine QG.then ?_
            refine CG.region ?_
            refine OG.yield (Yield.add rfl rfl (w64 (by omega) (by omega))) rfl ?_
            refine OG.mv rfl rfl ?_
            refine OG.nil ?_
            exact QG.next (j + 1, σk) ⟨by simp only; omega, by rw [hfs]; exact Lk2.mono (by simp only; omega)⟩ (by simp only; omega) eS iM
        · try replace hc := of_decide_eq_false hc
          refine CG.exit ?_
          refine QG.pass_exit ?_
          refine QG.pass_exit ?_
          refine QG.block_exit ?_
          refine QG.block_normal ?_
          refine QG.then ?_
          refine CG.region ?_
          refine OG.yield (Yield.add rfl rfl (w64 (by omega) (by omega))) rfl ?_
          refine OG.mv rfl rfl ?_
          refine OG.nil ?_
          obtain rfl : j = l.length := by omega
          rw [show (Vd.rdyL y.d major).take l.length = Vd.rdyL y.d major by rw [hll, List.take_length], ← rdN_succ hy] at Lj
          exact QG.next (i + 1, σj) ⟨by simp only; omega, Lj.mono (by simp only; omega)⟩ (by simp only; omega) eS (by rw [← hys, show rdY major y = rdJ major y l.length by rw [hll]; rfl]; exact iM)
      · try replace hc := of_decide_eq_false hc
        refine CG.exit ?_
        refine QG.pass_exit ?_
        refine QG.pass_exit ?_
        refine QG.block_exit ?_
        obtain rfl : i = xs.length := by omega
        rw [tkd_all (by simp) (by omega)]
        exact QG.end0 rfl σi Li rfl iM
end
end Go.Proofs.YtphljkplokjonaaGreat.Io
/- Iowin: the laws' world, made. -/
namespace Go.Proofs.YtphljkplokjonaaGreat.Io
open Go Go.Sl Go.RowKit Go.Proofs Go.Proofs.YtphljkplokjonaaGreat.T Go.Proofs.YtphljkplokjonaaGreat.Sp
set_option maxRecDepth 100000
def chs : List Po.Cf := [⟨2, 0, 1, 16, 2⟩, ⟨1, 1, 0, 16, 1⟩, ⟨2, 2, 1, 16, 2⟩, ⟨1, 0, 7, 16, 1⟩]
/-- The spaces with the page 1 of the first i partitions. -/
def obM (i : Nat) : Ob := ⟨fun k p => if k < i ∧ p = 1 then some (3, zs) else none, fun k g => decide (k < i ∧ g = 0), 64 - 3 * i⟩
theorem Ob.eq {v v' : Nat → Nat → Option (Nat × List UInt8)} {t t' : Nat → Nat → Bool} {n n' : Nat} (h1 : ∀ k p, v k p = v' k p) (h2 : ∀ k g, t k g = t' k g) (h3 : n = n') : (⟨v, t, n⟩ : Ob) = ⟨v', t', n'⟩ := by
  rw [show v = v' from funext fun k => funext fun p => h1 k p, show t = t' from funext fun k => funext fun g => h2 k g, h3]
theorem obM_zero : (⟨fun _ _ => none, fun _ _ => false, 64⟩ : Ob) = obM 0 :=
  Ob.eq (fun k p => (if_neg (by omega)).symm) (fun k g => (decide_eq_false (by omega)).symm) rfl
theorem used_new {i : Nat} {fr : Nat} : used ⟨(obM i).vw, (obM i).ts, fr⟩ i = 1 := by
  unfold used
  have e1 : (fun p => ((obM i).vw i p).isSome) = fun _ : Nat => false := by
    funext p; show (if i < i ∧ p = 1 then some (3, zs) else none).isSome = false; rw [if_neg (by omega)]; rfl
  have e2 : (obM i).ts i = fun _ : Nat => false := by
    funext g; show decide (i < i ∧ g = 0) = false; exact decide_eq_false (by omega)
  show 1 + cN ((obM i).ts i) 64 + cN (fun p => ((obM i).vw i p).isSome) 4096 = 1
  rw [e1, e2, cN_zero, cN_zero]
theorem obM_map {i : Nat} (h : i < 3) : mapO 8 ⟨(obM i).vw, (obM i).ts, (obM i).fr - 1⟩ i 1 3 = (0, obM (i + 1)) := by
  have hu := used_new (i := i) (fr := (obM i).fr - 1)
  have hv : (obM i).vw i 1 = none := by show (if i < i ∧ 1 = 1 then some (3, zs) else none) = none; rw [if_neg (by omega)]
  have ht : (obM i).ts i 0 = false := by show decide (i < i ∧ 0 = 0) = false; exact decide_eq_false (by omega)
  unfold mapO
  rw [if_neg (by decide)]
  show (if ((obM i).vw i 1).isSome = true then _ else _) = _
  rw [hv, if_neg (by decide), hu]
  show (if (8 : Int) - ((1 : Nat) : Int) < ((if (obM i).ts i 0 = true then 1 else 2 : Nat) : Int) then _ else ((0 : Int), (⟨up2 (obM i).vw i 1 (some (3, zs)), up2 (obM i).ts i 0 true, (obM i).fr - 1 - (if (obM i).ts i 0 = true then 1 else 2)⟩ : Ob))) = _
  rw [ht, if_neg (by decide)]
  congr 1
  refine Ob.eq (fun k p => ?_) (fun k g => ?_) ?_
  · unfold up2
    by_cases q : k = i ∧ p = 1
    · rw [if_pos q, if_pos (by omega)]
    · rw [if_neg q]
      show (if k < i ∧ p = 1 then some (3, zs) else none) = _
      by_cases q2 : k < i ∧ p = 1
      · rw [if_pos q2, if_pos (by omega)]
      · rw [if_neg q2, if_neg (by omega)]
  · unfold up2
    by_cases q : k = i ∧ g = 0
    · rw [if_pos q, decide_eq_true (by omega)]
    · rw [if_neg q]
      show decide (k < i ∧ g = 0) = _
      by_cases q2 : k < i ∧ g = 0
      · rw [decide_eq_true q2, decide_eq_true (by omega)]
      · rw [decide_eq_false q2, decide_eq_false (by omega)]
  · show 64 - 3 * i - 1 - 2 = 64 - 3 * (i + 1); omega
def y0 (i : Nat) : PS := ⟨0, 0, 0, false, [], [], ⟨i, 6 * i, 6, 2, 0, [], []⟩⟩
def ysN (i : Nat) : List PS := (List.range i).map y0
theorem ysN_succ (i : Nat) : ysN (i + 1) = ysN i ++ [y0 i] := by unfold ysN; rw [List.range_succ, List.map_append]; rfl
theorem ysN_len (i : Nat) : (ysN i).length = i := by simp [ysN]
theorem rtX_snoc {xs : List PA} {x : PA} {i : Nat} (h : xs.length = i) : (fun k => if k = i then some x.r else rtX xs k) = rtX (xs ++ [x]) := by
  funext k
  unfold rtX
  by_cases q : k = i
  · subst q; rw [if_pos rfl, List.getElem?_append_right (by omega), h, Nat.sub_self]; rfl
  · rw [if_neg q]
    by_cases q2 : k < i
    · rw [List.getElem?_append_left (by omega)]
    · rw [List.getElem?_eq_none (by omega), List.getElem?_eq_none (by simp; omega)]
theorem pl_snoc {xs : List PA} {ys : List PS} {x : PA} {y : PS} {G : List HProp} (h : xs.length = ys.length) : Imp (Vi.V x.v y.q y.p y.at' y.set :: Vc.Con x.k y.out y.inn :: Vd.D x.d y.d :: PL xs ys :: G) (PL (xs ++ [x]) (ys ++ [y]) :: G) := by
  unfold PL
  rw [List.zipWith_append h]
  exact Imp.trans (star_close (D := [Vi.V x.v y.q y.p y.at' y.set, Vc.Con x.k y.out y.inn, Vd.D x.d y.d])) (star_add (A := Pt x y))
theorem sl_snoc {m f t i : Nat} {xs : List PA} {x : PA} {G : List HProp} (h : xs.length = i) : Imp (sb x.s i x.r m f t :: SL m f t xs :: G) (SL m f t (xs ++ [x]) :: G) := by
  subst h
  unfold SL
  rw [List.mapIdx_append, show List.mapIdx (fun i x => sb x.s (i + xs.length) x.r m f t) [x] = [sb x.s xs.length x.r m f t] by simp]
  exact star_add
theorem pl_nil {G : List HProp} : Imp G (PL [] [] :: G) := star_nil
theorem sl_nil {m f t : Nat} {G : List HProp} : Imp G (SL m f t [] :: G) := star_nil
theorem q8 {i : Nat} (h : i < 3) : ([8, 8, 8] : List Int)[i]? = some 8 := by
  match i, h with
  | 0, _ => rfl
  | 1, _ => rfl
  | 2, _ => rfl
theorem nb {i : Nat} (h : i < 3) : Vd.newBad (i : Int) (6 * (i : Int)) 6 2 = false := by
  match i, h with
  | 0, _ => rfl
  | 1, _ => rfl
  | 2, _ => rfl
theorem flat_app {l : List PA} {x : PA} : ((l ++ [x]).map PA.cells).flatten = (l.map PA.cells).flatten ++ x.cells := by simp
structure WA where
  e : Nat
  u : Nat
  b : Nat
  p : Nat
  m : Nat
  f : Nat
  t : Nat
  xs : List PA
  la : Option Addr
  lc : Nat
def disk0 : B := [116, 104, 101, 32, 100, 105, 115, 107]
def bs0 (ds : List Int) : Bk.Bs := ⟨Bk.newB 32 disk0, ds, 0, 0, []⟩
abbrev wldE (z : WA) : HProp := blk z.e [.slice z.la z.xs.length z.lc, .pointer (some ⟨z.u, 0, none⟩), .pointer (some ⟨z.b, 0, none⟩), .pointer (some ⟨z.p, 0, none⟩)] 64
abbrev wldL (z : WA) : HProp := osl 58 4 z.la z.lc z.xs.length ((z.xs.map PA.cells).flatten)
abbrev wldG (z : WA) (ys : List PS) (uq us : B) (bs : Bk.Bs) (acs : List Po.AC) (σ : St) (G : List HProp) : List HProp :=
  wldE z :: wldL z :: PL z.xs ys :: Ua.U z.u 40 uq us :: Bk.Bl z.b bs :: Po.Po z.p acs :: SL z.m z.f z.t z.xs :: WG z.m z.f z.t 64 [8, 8, 8] σ G
section
variable (W0 : World) (Fr : List HProp)
theorem num_spec (e : Int) : Ctr Tryz.prog W0 71 [.int .i64 e] Fr (fun _ : Unit => True) (fun _ => .int .i64 e) (fun _ => Fr) := by
  refine Ctr.of_body Tryz.func71 rfl Tryz.ntmps71 rfl ?_
  refine CG.seq ?_
  refine CG.region ?_
  refine OG.sg rfl rfl ?_
  refine OG.nil ?_
  refine QG.then ?_
  refine CG.seq ?_
  refine CG.region ?_
  refine OG.mv rfl rfl ?_
  refine OG.sg rfl rfl ?_
  refine OG.nil ?_
  refine QG.then ?_
  refine CG.ret ?_
  exact QG.ret1 rfl rfl () trivial rfl iM
theorem channels_spec : Ctr Tryz.prog W0 25 [] Fr (fun _ : Nat => True) (fun b => .slice (some ⟨b, 0, none⟩) 4 4) (fun b => osl 156 5 (some ⟨b, 0, none⟩) 4 4 ((chs.map Po.Cf.cells).flatten) :: Fr) := by
  refine Ctr.of_body Tryz.func25 rfl Tryz.ntmps25 rfl ?_
  refine CG.seq ?_
  refine CG.region ?_
  refine OG.sg rfl rfl ?_
  refine OG.nil ?_
  refine QG.then ?_
  refine CG.seq ?_
  refine CG.region ?_
  refine OG.yield (Yield.build bu156 ti156 rfl (cells := Po.Cf.cells ⟨2, 0, 1, 16, 2⟩) rfl) rfl ?_
  refine OG.yield (Yield.build bu156 ti156 rfl (cells := Po.Cf.cells ⟨1, 1, 0, 16, 1⟩) rfl) rfl ?_
  refine OG.yield (Yield.build bu156 ti156 rfl (cells := Po.Cf.cells ⟨2, 2, 1, 16, 2⟩) rfl) rfl ?_
  refine OG.yield (Yield.build bu156 ti156 rfl (cells := Po.Cf.cells ⟨1, 0, 7, 16, 1⟩) rfl) rfl ?_
  refine OG.effd (Eff.lit [.tmp 1, .tmp 2, .tmp 3, .tmp 4] (vs := chs.map fun x => .agg x.cells.toArray) (cells := (chs.map Po.Cf.cells).flatten) Tryz.underlying72 ti156 rfl rfl rfl rfl (by decide) (by simp [chs, Value.cells, Po.Cf.cells]) (by simp [chs, Value.cells, Po.Cf.cells])) rfl ?_
  rintro b5 -
  refine OG.sg rfl rfl ?_
  refine OG.nil ?_
  refine QG.then ?_
  refine CG.ret ?_
  exact QG.ret1 rfl rfl b5 trivial rfl iM
end
end Go.Proofs.YtphljkplokjonaaGreat.Io
/- Iowin: the laws' world, made. -/
namespace Go.Proofs.YtphljkplokjonaaGreat.Io
open Go Go.Sl Go.RowKit Go.Proofs Go.Proofs.YtphljkplokjonaaGreat.T Go.Proofs.YtphljkplokjonaaGreat.Sp
set_option maxRecDepth 100000
section
variable (W0 : World) (Fr : List HProp)
set_option maxHeartbeats 400000 in
theorem made_spec {ds : List Int} {da : Option Addr} {dc : Nat} (hds : SlR W0 Fr 1 da ds.length (Ms.intsV .i64 ds)) (hdl : ds.length ≤ 17592186043904 - 64) (hdb : Bk.newE ((32 : Nat) : Int) 8 ds = 0) :
    Ctr Tryz.prog W0 19 [.slice da ds.length dc] Fr (fun z : WA × St => z.1.xs.length = 3 ∧ Lk 64 [8, 8, 8] (rtX z.1.xs) (obM 3) 0 z.2) (fun z => .pointer (some ⟨z.1.e, 0, none⟩)) (fun z => wldG z.1 (ysN 3) [] [] (bs0 ds) (chs.map Po.Cf.ac) z.2 Fr) := by
  have hne : Fz.nerr (64 : Nat) [8, 8, 8] = 0 := by
    unfold Fz.nerr
    rw [if_neg (by decide), if_neg (by simp), if_neg, if_neg]
    · decide
    · rintro ⟨z, hz, h⟩
      simp only [List.mem_cons, List.not_mem_nil, or_false] at hz
      rcases hz with rfl | rfl | rfl <;> omega
  obtain ⟨hn, hql, hq, hsum⟩ := Fz.nerr_ok hne
  obtain ⟨G0, e0⟩ := Good.start (n := 64) (m := 8) (Fz.inv_new hne) (by decide)
  rw [obM_zero] at e0
  have L0 := Lk.intro (c := 0) G0 (rt := rtX []) rfl rfl e0 (Nat.le_refl 0)
  refine Ctr.of_body Tryz.func19 rfl Tryz.ntmps19 rfl ?_
  refine CG.seq ?_
  refine CG.region ?_
  refine OG.sg rfl rfl ?_
  refine OG.nil ?_
  refine QG.then ?_
  refine CG.seq ?_
  refine CG.region ?_
  refine OG.callo call50 rfl (Imp.refl _) (Me.new_spec W0 _ (n := 64) (by decide) (by decide)) rfl ?_
  rintro m -
  refine OG.mv rfl rfl ?_
  refine OG.yield (Yield.extract rfl rfl) rfl ?_
  refine OG.yield (Yield.extract rfl rfl) rfl ?_
  refine OG.sg rfl rfl ?_
  refine OG.sg rfl rfl ?_
  refine OG.nil ?_
  refine QG.then ?_
  refine CG.seq ?_
  refine CG.region ?_
  refine OG.effd (Eff.lit [.const (.int .i64 8), .const (.int .i64 8), .const (.int .i64 8)] (vs := Fz.iv [8, 8, 8]) (cells := Fz.iv [8, 8, 8]) Tryz.underlying80 ti3 rfl rfl rfl rfl (by decide) (by simp [Value.cells, Fz.iv]) (by simp [Value.cells, Fz.iv])) rfl ?_
  rintro b23 -
  refine OG.callo call51 rfl (Imp.refl _) (Fz.new_ok W0 _ (total := 64) (qs := [8, 8, 8]) (by exact SlR.of_osl (E := 3) (a := some ⟨b23, 0, none⟩) (c := 3) eX) hne) rfl ?_
  rintro f -
  refine OG.mv rfl rfl ?_
  refine OG.yield (Yield.extract rfl rfl) rfl ?_
  refine OG.yield (Yield.extract rfl rfl) rfl ?_
  refine OG.sg rfl rfl ?_
  refine OG.sg rfl rfl ?_
  refine OG.nil ?_
  refine QG.then ?_
  refine CG.seq ?_
  refine CG.region ?_
  refine OG.callo call52 rfl (Imp.refl _) (Tl.new_spec W0 _ (n := 8) (by decide) (by decide)) rfl ?_
  rintro t -
  refine OG.mv rfl rfl ?_
  refine OG.yield (Yield.extract rfl rfl) rfl ?_
  refine OG.yield (Yield.extract rfl rfl) rfl ?_
  refine OG.sg rfl rfl ?_
  refine OG.sg rfl rfl ?_
  refine OG.nil ?_
  refine QG.then ?_
  refine CG.seq ?_
  refine CG.region ?_
  refine OG.effd (Eff.lit [.const (.int .u8 116), .const (.int .u8 104), .const (.int .u8 101), .const (.int .u8 32), .const (.int .u8 100), .const (.int .u8 105), .const (.int .u8 115), .const (.int .u8 107)] (vs := [.int .u8 116, .int .u8 104, .int .u8 101, .int .u8 32, .int .u8 100, .int .u8 105, .int .u8 115, .int .u8 107]) (cells := bytesV disk0) Tryz.underlying32 ti5 rfl rfl rfl rfl (by decide) (by simp [Value.cells]) (by simp [Value.cells]; rfl)) rfl ?_
  rintro b32 -
  refine OG.effd (Eff.convBytes (b := b32) Tryz.underlying32 Tryz.underlying5 rfl fC) rfl ?_
  rintro ⟨⟩ -
  refine OG.effd (Eff.lit0 Tryz.underlying80 ti3 rfl) rfl ?_
  rintro b34 -
  refine OG.mv rfl rfl ?_
  refine OG.effd (Eff.append (a := some ⟨b34, 0, none⟩) (c := 0) (m := 0) (xs := []) (k := ds.length) (ys := Ms.intsV .i64 ds) rfl rfl rfl Tryz.underlying80 Tryz.underlying80 ti3 rfl (by decide) fC (hds.imp iM) (Ms.intsV_ones _ _) (by omega)) rfl ?_
  rintro ⟨a36, c36⟩ -
  rw [Nat.zero_add, List.nil_append]
  refine OG.callo call69 rfl (Imp.refl _) (Bk.bnew_ok W0 _ (a := some ⟨b32, 0, none⟩) (c := 8) (da := a36) (dc := c36) (n := 32) (delays := ds) (img := disk0) (by exact SlR.of_osl (E := 5) (a := some ⟨b32, 0, none⟩) (c := 8) eX) (by exact SlR.of_osl (E := 3) (a := a36) (c := c36) eX) (by omega) hdb) rfl ?_
  rintro b -
  refine OG.mv rfl rfl ?_
  refine OG.yield (Yield.extract rfl rfl) rfl ?_
  refine OG.yield (Yield.extract rfl rfl) rfl ?_
  refine OG.sg rfl rfl ?_
  refine OG.sg rfl rfl ?_
  refine OG.nil ?_
  refine QG.then ?_
  refine CG.seq ?_
  refine CG.region ?_
  refine OG.callo call70 rfl (Imp.refl _) (Ua.new_spec W0 _ 40) rfl ?_
  rintro u -
  refine OG.mv rfl rfl ?_
  refine OG.callo call25 rfl (Imp.refl _) (channels_spec W0 _) rfl ?_
  rintro b42 -
  refine OG.callo call56 rfl (Imp.refl _) (Po.new_spec W0 _ (l := chs) (by exact SlR.of_osl (E := 156) (a := some ⟨b42, 0, none⟩) (c := 4) eX) (by decide)) rfl ?_
  rintro p -
  refine OG.yield (Yield.build bu64 ti64 rfl (cells := [.slice none 0 0, .pointer (some ⟨u, 0, none⟩), .pointer (some ⟨b, 0, none⟩), .pointer (some ⟨p, 0, none⟩)]) rfl) rfl ?_
  refine OG.effd (Eff.box rfl) rfl ?_
  rintro b45 -
  refine OG.sg rfl rfl ?_
  refine OG.nil ?_
  refine QG.then ?_
  refine CG.seq ?_
  refine CG.seq ?_
  refine CG.region ?_
  refine OG.mv rfl rfl ?_
  refine OG.callo call71 rfl (Imp.refl _) (num_spec W0 _ 0) rfl ?_
  rintro ⟨⟩ -
  refine OG.yield Yield.neqA rfl ?_
  refine OG.mv rfl rfl ?_
  refine OG.gy rfl rfl rfl ?_
  refine OG.mv rfl rfl ?_
  refine OG.gy rfl rfl rfl ?_
  refine OG.callo call71 rfl (Imp.refl _) (num_spec W0 _ 0) rfl ?_
  rintro ⟨⟩ -
  refine OG.gy rfl rfl rfl ?_
  refine OG.yield Yield.neqA rfl ?_
  refine OG.yield Yield.pickA rfl ?_
  refine OG.mv rfl rfl ?_
  refine OG.gy rfl rfl rfl ?_
  refine OG.mv rfl rfl ?_
  refine OG.gy rfl rfl rfl ?_
  refine OG.callo call71 rfl (Imp.refl _) (num_spec W0 _ 0) rfl ?_
  rintro ⟨⟩ -
  refine OG.gy rfl rfl rfl ?_
  refine OG.yield Yield.neqA rfl ?_
  refine OG.yield Yield.pickA rfl ?_
  refine OG.mv rfl rfl ?_
  refine OG.gy rfl rfl rfl ?_
  refine OG.mv rfl rfl ?_
  refine OG.gy rfl rfl rfl ?_
  refine OG.callo call71 rfl (Imp.refl _) (num_spec W0 _ 0) rfl ?_
  rintro ⟨⟩ -
  refine OG.gy rfl rfl rfl ?_
  refine OG.yield Yield.neqA rfl ?_
  refine OG.yield Yield.pickA rfl ?_
  refine OG.mv rfl rfl ?_
  refine OG.gy rfl rfl rfl ?_
  refine OG.mv rfl rfl ?_
  refine OG.gy rfl rfl rfl ?_
  refine OG.yield (by first | exact Yield.ptr_nil Tryz.underlying111 rfl rfl | exact Yield.nil_nil Tryz.underlying111 rfl rfl) rfl ?_
  refine OG.yield Yield.pickA rfl ?_
  refine OG.mv rfl rfl ?_
  refine OG.gy rfl rfl rfl ?_
  refine OG.mv rfl rfl ?_
  refine OG.gy rfl rfl rfl ?_
  refine OG.yield (by first | exact Yield.ptr_nil Tryz.underlying114 rfl rfl | exact Yield.nil_nil Tryz.underlying114 rfl rfl) rfl ?_
  refine OG.yield Yield.pickA rfl ?_
  refine OG.mv rfl rfl ?_
  refine OG.gy rfl rfl rfl ?_
  refine OG.mv rfl rfl ?_
  refine OG.gy rfl rfl rfl ?_
  refine OG.yield (by first | exact Yield.ptr_nil Tryz.underlying117 rfl rfl | exact Yield.nil_nil Tryz.underlying117 rfl rfl) rfl ?_
  refine OG.yield Yield.pickA rfl ?_
  refine OG.mv rfl rfl ?_
  refine OG.gy rfl rfl rfl ?_
  refine OG.mv rfl rfl ?_
  refine OG.gy rfl rfl rfl ?_
  refine OG.yield (by first | exact Yield.ptr_nil Tryz.underlying61 rfl rfl | exact Yield.nil_nil Tryz.underlying61 rfl rfl) rfl ?_
  refine OG.yield Yield.pickA rfl ?_
  refine OG.mv rfl rfl ?_
  refine OG.gy rfl rfl rfl ?_
  refine OG.mv rfl rfl ?_
  refine OG.gy rfl rfl rfl ?_
  refine OG.yield (Yield.nilCheck rfl) rfl ?_
  refine OG.gy rfl rfl rfl ?_
  refine OG.yield (Yield.fieldAddr fa64_1 rfl) rfl ?_
  refine OG.gy rfl rfl rfl ?_
  refine OG.yield (Yield.load (v := .pointer (some ⟨u, 0, none⟩)) ti60 rfl (Cel.of_blk (b := b45) eX rfl)) rfl ?_
  refine OG.gy rfl rfl rfl ?_
  refine OG.yield (by first | exact Yield.ptr_nil Tryz.underlying60 rfl rfl | exact Yield.nil_nil Tryz.underlying60 rfl rfl) rfl ?_
  refine OG.yield Yield.pickA rfl ?_
  refine OG.mv rfl rfl ?_
  refine OG.gy rfl rfl rfl ?_
  refine OG.mv rfl rfl ?_
  refine OG.gy rfl rfl rfl ?_
  refine OG.yield (Yield.nilCheck rfl) rfl ?_
  refine OG.gy rfl rfl rfl ?_
  refine OG.yield (Yield.fieldAddr fa64_3 rfl) rfl ?_
  refine OG.gy rfl rfl rfl ?_
  refine OG.yield (Yield.load (v := .pointer (some ⟨p, 0, none⟩)) ti62 rfl (Cel.of_blk (b := b45) eX rfl)) rfl ?_
  refine OG.gy rfl rfl rfl ?_
  refine OG.yield (by first | exact Yield.ptr_nil Tryz.underlying62 rfl rfl | exact Yield.nil_nil Tryz.underlying62 rfl rfl) rfl ?_
  refine OG.yield Yield.pickA rfl ?_
  refine OG.nil ?_
  refine QG.then ?_
  refine CG.cond_f rfl ?_
  refine CG.skip ?_
  refine QG.then ?_
  refine CG.seq ?_
  refine CG.seq ?_
  refine CG.region ?_
  refine OG.sg rfl rfl ?_
  refine OG.nil ?_
  refine QG.then ?_
  refine CG.block ?_
  refine CG.loop (fun z : Nat × List PA × Option Addr × Nat × St => z.1 ≤ 3 ∧ z.2.1.length = z.1 ∧ Lk 64 [8, 8, 8] (rtX z.2.1) (obM z.1) 0 z.2.2.2.2) (fun z => [(3, .pointer (some ⟨m, 0, none⟩)), (5, .pointer (some ⟨f, 0, none⟩)), (7, .pointer (some ⟨t, 0, none⟩)), (11, .pointer (some ⟨b45, 0, none⟩)), (12, .int .i64 z.1)]) (fun z => wldG ⟨b45, u, b, p, m, f, t, z.2.1, z.2.2.1, z.2.2.2.1⟩ (ysN z.1) [] [] (bs0 ds) (chs.map Po.Cf.ac) z.2.2.2.2 Fr) (fun z => 3 - z.1) (0, [], none, 0, _) ⟨Nat.zero_le _, rfl, L0⟩ eS (Imp.trans (Imp.trans osl_nil (Imp.trans pl_nil (sl_nil (m := m) (f := f) (t := t)))) iM) ?_
  rintro ⟨i, xs, la, lc, σ⟩ ⟨hi, hxl, L⟩
  dsimp only [wldG, wldE, wldL, WG] at hi hxl L ⊢
  refine CG.seq ?_
  refine CG.seq ?_
  refine CG.region ?_
  refine OG.mv rfl rfl ?_
  refine OG.yield Yield.lssA rfl ?_
  refine OG.nil ?_
  refine QG.then ?_
  refine CG.cond rfl (fun hc => ?_) (fun hc => ?_)
  · try replace hc := of_decide_eq_true hc
    have hi' : i < 3 := by omega
    refine CG.skip ?_
    refine QG.then ?_
    refine CG.seq ?_
    refine CG.block ?_
    refine CG.seq ?_
    refine CG.region ?_
    refine OG.mv rfl rfl ?_
    refine OG.mv rfl rfl ?_
    refine OG.mv rfl rfl ?_
    refine OG.mv rfl rfl ?_
    refine OG.callo call53 rfl (iM) (new_ok W0 (SL m f t xs :: blk b45 [.slice la xs.length lc, .pointer (some ⟨u, 0, none⟩), .pointer (some ⟨b, 0, none⟩), .pointer (some ⟨p, 0, none⟩)] 64 :: osl 58 4 la lc xs.length ((xs.map PA.cells).flatten) :: PL xs (ysN i) :: Ua.U u 40 [] [] :: Bk.Bl b (bs0 ds) :: Po.Po p (chs.map Po.Cf.ac) :: Fr) (m := m) (f := f) (t := t) L hq (k := i) (qk := 8) (q8 hi') (by unfold rtX; rw [List.getElem?_eq_none (by omega)]; rfl) (by decide)) rfl ?_
    rintro ⟨s, r, σ1⟩ L1
    dsimp only [WG] at L1 ⊢
    refine OG.mv rfl rfl ?_
    refine OG.yield (Yield.extract rfl rfl) rfl ?_
    refine OG.yield (Yield.extract rfl rfl) rfl ?_
    refine OG.sg rfl rfl ?_
    refine OG.sg rfl rfl ?_
    refine OG.nil ?_
    refine QG.then ?_
    refine CG.seq ?_
    refine CG.region ?_
    refine OG.mv rfl rfl ?_
    refine OG.mv rfl rfl ?_
    refine OG.yield (Yield.mul (c := 6 * (i : Int)) rfl rfl (w64 (by omega) (by omega))) rfl ?_
    refine OG.callo call58 rfl (Imp.refl _) (Vd.new_ok W0 _ (part := i) (first := 6 * (i : Int)) (count := 6) (latency := 2) (nb hi')) rfl ?_
    rintro d -
    refine OG.mv rfl rfl ?_
    refine OG.yield (Yield.extract rfl rfl) rfl ?_
    refine OG.yield (Yield.extract rfl rfl) rfl ?_
    refine OG.sg rfl rfl ?_
    refine OG.sg rfl rfl ?_
    refine OG.nil ?_
    refine QG.then ?_
    refine CG.seq ?_
    refine CG.region ?_
    refine OG.mv rfl rfl ?_
    refine OG.callo call54 rfl (Imp.refl _) (Vi.new_spec W0 _) rfl ?_
    rintro v -
    refine OG.callo call55 rfl (Imp.refl _) (Vc.new_spec W0 _) rfl ?_
    rintro k -
    refine OG.mv rfl rfl ?_
    refine OG.yield (Yield.build bu58 ti58 rfl (cells := PA.cells ⟨s, v, k, d, r⟩) rfl) rfl ?_
    refine OG.effd (Eff.alloc ti58) rfl ?_
    rintro b17 -
    refine OG.eff (Eff.storeAll ti58 rfl rfl fC rfl (PA.ones _) rfl) rfl ?_
    rintro ⟨⟩ -
    refine OG.nil ?_
    refine QG.then ?_
    refine CG.seq ?_
    refine CG.seq ?_
    refine CG.region ?_
    refine OG.mv rfl rfl ?_
    refine OG.callo call71 rfl (Imp.refl _) (num_spec W0 _ 0) rfl ?_
    rintro ⟨⟩ -
    refine OG.yield Yield.neqA rfl ?_
    refine OG.mv rfl rfl ?_
    refine OG.gy rfl rfl rfl ?_
    refine OG.mv rfl rfl ?_
    refine OG.gy rfl rfl rfl ?_
    refine OG.callo call71 rfl (Imp.refl _) (num_spec W0 _ 0) rfl ?_
    rintro ⟨⟩ -
    refine OG.gy rfl rfl rfl ?_
    refine OG.yield Yield.neqA rfl ?_
    refine OG.yield Yield.pickA rfl ?_
    refine OG.mv rfl rfl ?_
    refine OG.gy rfl rfl rfl ?_
    refine OG.mv rfl rfl ?_
    refine OG.gy rfl rfl rfl ?_
    refine OG.yield (by first | exact Yield.ptr_nil Tryz.underlying53 rfl rfl | exact Yield.nil_nil Tryz.underlying53 rfl rfl) rfl ?_
    refine OG.yield Yield.pickA rfl ?_
    refine OG.mv rfl rfl ?_
    refine OG.gy rfl rfl rfl ?_
    refine OG.mv rfl rfl ?_
    refine OG.gy rfl rfl rfl ?_
    refine OG.yield (by first | exact Yield.ptr_nil Tryz.underlying56 rfl rfl | exact Yield.nil_nil Tryz.underlying56 rfl rfl) rfl ?_
    refine OG.yield Yield.pickA rfl ?_
    refine OG.mv rfl rfl ?_
    refine OG.gy rfl rfl rfl ?_
    refine OG.yield (Yield.fieldAddr fa58_1 rfl) rfl ?_
    refine OG.gy rfl rfl rfl ?_
    refine OG.yield (Yield.load (v := .pointer (some ⟨v, 0, none⟩)) ti54 rfl (Cel.of_blk (b := b17) eX rfl)) rfl ?_
    refine OG.gy rfl rfl rfl ?_
    refine OG.yield (by first | exact Yield.ptr_nil Tryz.underlying54 rfl rfl | exact Yield.nil_nil Tryz.underlying54 rfl rfl) rfl ?_
    refine OG.yield Yield.pickA rfl ?_
    refine OG.mv rfl rfl ?_
    refine OG.gy rfl rfl rfl ?_
    refine OG.yield (Yield.fieldAddr fa58_2 rfl) rfl ?_
    refine OG.gy rfl rfl rfl ?_
    refine OG.yield (Yield.load (v := .pointer (some ⟨k, 0, none⟩)) ti55 rfl (Cel.of_blk (b := b17) eX rfl)) rfl ?_
    refine OG.gy rfl rfl rfl ?_
    refine OG.yield (by first | exact Yield.ptr_nil Tryz.underlying55 rfl rfl | exact Yield.nil_nil Tryz.underlying55 rfl rfl) rfl ?_
    refine OG.yield Yield.pickA rfl ?_
    refine OG.mv rfl rfl ?_
    refine OG.gy rfl rfl rfl ?_
    refine OG.mv rfl rfl ?_
    refine OG.gy rfl rfl rfl ?_
    refine OG.callo call72 rfl (iM) (map_spec W0 _ (s := s) (m := m) (f := f) (t := t) (k := i) (r := r) (qk := 8) L1 hq (q8 hi') (if_pos rfl) 1 3) rfl ?_
    rintro σ2 L2
    rw [obM_map hi', rtX_snoc (x := ⟨s, v, k, d, r⟩) hxl] at L2
    rw [obM_map hi']
    dsimp only [WG] at L2 ⊢
    refine OG.gy rfl rfl rfl ?_
    refine OG.callo call71 rfl (Imp.refl _) (num_spec W0 _ 0) rfl ?_
    rintro ⟨⟩ -
    refine OG.gy rfl rfl rfl ?_
    refine OG.yield Yield.neqA rfl ?_
    refine OG.yield Yield.pickA rfl ?_
    refine OG.nil ?_
    refine QG.then ?_
    refine CG.cond_f rfl ?_
    refine CG.skip ?_
    refine QG.then ?_
    refine CG.draw (.look 0 0 (.look 1 0 (.look 2 0 (.look 3 0 (.look 4 2 (.look 5 1 (.eff1 6 false (.eff1 7 false (.look 8 1 (.look 9 1 (.eff1 10 true (.done)))))))))))) [6, 7, 10] [4] ([]) ([blk b45 [.slice la xs.length lc, .pointer (some ⟨u, 0, none⟩), .pointer (some ⟨b, 0, none⟩), .pointer (some ⟨p, 0, none⟩)] 64]) mixed (by kernel_rfl) (Imp.none _) (iM) ?_
    refine DG.look rfl rfl (Yield.move rfl) rfl ?_
    refine DG.look rfl rfl (Yield.move rfl) rfl ?_
    refine DG.look rfl rfl (Yield.nilCheck rfl) rfl ?_
    refine DG.look rfl rfl (Yield.fieldAddr fa64_0 rfl) rfl ?_
    refine DG.look rfl rfl (Yield.load (v := .slice la xs.length lc) ti59 rfl (Cel.of_blk (b := b45) eX rfl)) rfl ?_
    refine DG.look rfl rfl (Yield.load_agg (vs := PA.cells ⟨s, v, k, d, r⟩) ti58 rfl rfl (Row.of_blk (b := b17) eX rfl)) rfl ?_
    refine DG.eff1 ?_
    refine Chg.eff rfl rfl (Eff.lit [.tmp 155] (vs := [.agg (PA.cells ⟨s, v, k, d, r⟩).toArray]) (cells := PA.cells ⟨s, v, k, d, r⟩) Tryz.underlying59 ti58 rfl rfl rfl rfl (by decide) (by simp [Value.cells, PA.cells]) (by simp [Value.cells])) rfl (fun _ => iM) (fun _ => Imp.refl _) (fun _ => iM) ?_
    rintro b156 -
    refine DG.eff1 ?_
    refine Chg.eff rfl rfl (Eff.append (a := la) (c := lc) (m := xs.length) (xs := (xs.map PA.cells).flatten) (k := 1) (ys := PA.cells ⟨s, v, k, d, r⟩) rfl rfl rfl Tryz.underlying59 Tryz.underlying59 ti58 rfl (by decide) fC (SlR.of_osl (a := some ⟨b156, 0, none⟩) eX) (PA.ones _) (by omega)) rfl (fun _ => iM) (fun _ => Imp.refl _) (fun _ => iM) ?_
    rintro ⟨a157, c157⟩ -
    refine DG.look rfl rfl (Yield.nilCheck rfl) rfl ?_
    refine DG.look rfl rfl (Yield.fieldAddr fa64_0 rfl) rfl ?_
    refine DG.eff1 ?_
    refine Chg.eff rfl rfl (Eff.store1 ti59 rfl rfl fC rfl (by dsimp only [List.length]; decide)) rfl (fun _ => iM) (fun _ => Imp.refl _) (fun _ => iM) ?_
    rintro ⟨⟩ -
    refine DG.done ?_
    refine QG.block_normal ?_
    refine QG.then ?_
    refine CG.region ?_
    refine OG.mv rfl rfl ?_
    refine OG.yield (Yield.add rfl rfl (w64 (by omega) (by omega))) rfl ?_
    refine OG.sg rfl rfl ?_
    refine OG.nil ?_
    refine QG.next (i + 1, xs ++ [⟨s, v, k, d, r⟩], a157, c157, σ2) ⟨by simp only; omega, by simp only [List.length_append, List.length_cons, List.length_nil]; omega, L2⟩ (by simp only; omega) eS ?_
    dsimp only [wldG, wldE, wldL, WG]
    rw [List.length_append, flat_app, ysN_succ]
    refine Imp.trans (B := Vi.V v 0 0 0 false :: Vc.Con k [] [] :: Vd.D d ⟨i, 6 * i, 6, 2, 0, [], []⟩ :: PL xs (ysN i) :: sb s i r m f t :: SL m f t xs :: blk b45 [.slice a157 (xs.length + 1) c157, .pointer (some ⟨u, 0, none⟩), .pointer (some ⟨b, 0, none⟩), .pointer (some ⟨p, 0, none⟩)] 64 :: osl 58 4 a157 c157 (xs.length + 1) ((xs.map PA.cells).flatten ++ PA.cells ⟨s, v, k, d, r⟩) :: Ua.U u 40 [] [] :: Bk.Bl b (bs0 ds) :: Po.Po p (chs.map Po.Cf.ac) :: WG m f t 64 [8, 8, 8] σ2 Fr) iM ?_
    refine Imp.trans (pl_snoc (x := ⟨s, v, k, d, r⟩) (y := y0 i) (xs := xs) (ys := ysN i) (by rw [ysN_len]; exact hxl)) ?_
    refine Imp.trans (B := sb s i r m f t :: SL m f t xs :: PL (xs ++ [⟨s, v, k, d, r⟩]) (ysN i ++ [y0 i]) :: blk b45 [.slice a157 (xs.length + 1) c157, .pointer (some ⟨u, 0, none⟩), .pointer (some ⟨b, 0, none⟩), .pointer (some ⟨p, 0, none⟩)] 64 :: osl 58 4 a157 c157 (xs.length + 1) ((xs.map PA.cells).flatten ++ PA.cells ⟨s, v, k, d, r⟩) :: Ua.U u 40 [] [] :: Bk.Bl b (bs0 ds) :: Po.Po p (chs.map Po.Cf.ac) :: WG m f t 64 [8, 8, 8] σ2 Fr) iM ?_
    exact Imp.trans (sl_snoc (m := m) (f := f) (t := t) (x := ⟨s, v, k, d, r⟩) hxl) iM
  · try replace hc := of_decide_eq_false hc
    refine CG.exit ?_
    refine QG.pass_exit ?_
    refine QG.pass_exit ?_
    refine QG.block_exit ?_
    refine QG.then ?_
    refine CG.seq ?_
    refine CG.region ?_
    refine OG.mv rfl rfl ?_
    refine OG.sg rfl rfl ?_
    refine OG.nil ?_
    refine QG.then ?_
    refine CG.ret ?_
    obtain rfl : i = 3 := by omega
    exact QG.ret1 rfl rfl (⟨b45, u, b, p, m, f, t, xs, la, lc⟩, σ) ⟨hxl, L⟩ rfl iM
end
end Go.Proofs.YtphljkplokjonaaGreat.Io
/- A piece of a string. -/
namespace Go.Sl
open Go Go.RowKit
theorem strOf_extract (bs : List UInt8) (l h : Nat) : (strOf bs).extract l h = strOf ((bs.take h).drop l) := by
  apply ByteArray.ext
  unfold strOf
  rw [ByteArray.data_extract]
  apply Array.toList_inj.1
  simp [List.drop_take]
section
variable {P : Program} {W0 : World} {e : Env} {G : List HProp} {ty : TypeId}
theorem Yield.slice_str {t : TypeId} {x : Operand} {hi : Option Operand} {bs : List UInt8} {h : Int} (hu : P.underlying t = some .string) (hx : e.ev x = some (.string (strOf bs))) (hh : Bound e hi bs.length h) (h1 : 0 ≤ h) (h2 : h ≤ bs.length) :
    Yield P W0 (.slice t x none hi none) ty e G (.string (strOf (bs.take h.toNat))) := fun ρ hρ w _ _ _ _ _ => by
  have hsz : (strOf bs).size = bs.length := by unfold strOf; rfl
  have hs : (Instr.sliceAt t (.string (strOf bs)) ((none : Option Operand).map ρ) (hi.map ρ) none).run P w = .ok (.string (strOf (bs.take h.toNat))) w := by
    unfold Instr.sliceAt
    show ((underlying t).bind _).run P w = _
    rw [run_bind_ok (run_underlying hu w)]
    simp only []
    unfold Instr.slice
    show ((underlying t).bind _).run P w = _
    rw [run_bind_ok (run_underlying hu w)]
    simp only []
    show ((Instr.sliceBounds _ _ _ _ _ _).bind _).run P w = _
    rw [hsz, run_bind_ok (run_sliceBounds (lo := none) hρ Bound.none hh (by omega) h1 h2 w)]
    simp only [pure, Sem.run]
    rw [strOf_extract]; rfl
  have hs' : (Instr.sliceAt t (.string (strOf bs)) none (hi.map ρ) none).run P w = .ok (.string (strOf (bs.take h.toNat))) w := hs
  show ((Instr.sliceAt t (ρ x) none (hi.map ρ) none).bind _).run P w = _
  rw [hρ x _ hx, run_bind_ok hs']; rfl
end
end Go.Sl
/- Iowin: the chapter's example. -/
namespace Go.Proofs.YtphljkplokjonaaGreat.Io
open Go Go.Sl Go.RowKit Go.Proofs Go.Proofs.YtphljkplokjonaaGreat.T Go.Proofs.YtphljkplokjonaaGreat.Sp
set_option maxRecDepth 100000
/-- Bytes written by one partition. -/
def ysW (p : Nat) (bs : B) : List PS := (ysN 3).set p { y0 p with out := bs }
theorem ysW_len (p : Nat) (bs : B) : (ysW p bs).length = 3 := by unfold ysW; rw [List.length_set, ysN_len]
theorem ser_W {p : Nat} (h : p < 3) (bs : B) (now : Int) : serY now (ysW p bs) (bs0 []) = ysN 3 ∧ serB now (ysW p bs) (bs0 []) = bs0 [] := by
  match p, h with
  | 0, _ => exact ⟨rfl, rfl⟩
  | 1, _ => exact ⟨rfl, rfl⟩
  | 2, _ => exact ⟨rfl, rfl⟩
theorem adN {i : Nat} : ∀ y ∈ ysN i, AdOK y := fun y hy => by
  unfold ysN at hy
  rw [List.mem_map] at hy
  obtain ⟨i, _, rfl⟩ := hy
  exact fun a ha => absurd ha List.not_mem_nil
theorem xs_three {xs : List PA} (h : xs.length = 3) : ∃ x0 x1 x2, xs = [x0, x1, x2] := by
  match xs, h with
  | [a, b, c], _ => exact ⟨a, b, c, rfl⟩
theorem pl_three {x0 x1 x2 : PA} {a b c : PS} {G : List HProp} : Imp (PL [x0, x1, x2] [a, b, c] :: G) (Vi.V x0.v a.q a.p a.at' a.set :: Vc.Con x0.k a.out a.inn :: Vd.D x0.d a.d :: Vi.V x1.v b.q b.p b.at' b.set :: Vc.Con x1.k b.out b.inn :: Vd.D x1.d b.d :: Vi.V x2.v c.q c.p c.at' c.set :: Vc.Con x2.k c.out c.inn :: Vd.D x2.d c.d :: G) :=
  Imp.trans (star_open (D := [Pt x0 a, Pt x1 b, Pt x2 c])) (Imp.trans (star_open (D := [Vi.V x0.v a.q a.p a.at' a.set, Vc.Con x0.k a.out a.inn, Vd.D x0.d a.d])) (Imp.cons (Imp.cons (Imp.cons (Imp.trans (star_open (D := [Vi.V x1.v b.q b.p b.at' b.set, Vc.Con x1.k b.out b.inn, Vd.D x1.d b.d])) (Imp.cons (Imp.cons (Imp.cons (star_open (D := [Vi.V x2.v c.q c.p c.at' c.set, Vc.Con x2.k c.out c.inn, Vd.D x2.d c.d]))))))))))
def acsM : List Po.AC := [⟨2, 0, 1, 16, 2, [[109]], []⟩, ⟨1, 1, 0, 16, 1, [], []⟩, ⟨2, 2, 1, 16, 2, [], []⟩, ⟨1, 0, 7, 16, 1, [], []⟩]
theorem snd_M : Hc.sndP (chs.map Po.Cf.ac) 0 0 [109] = (0, acsM) := rfl
theorem beg_M {a : Option Addr} {c : Nat} : begY 3 chs acsM [⟨3, 2, a, c, [120]⟩] (ysN 3) = [y0 0, { y0 1 with q := 8 }, { y0 2 with q := 2, inn := [120] }] := rfl
section
variable (W0 : World) (Fr : List HProp)
set_option maxHeartbeats 1000000 in
theorem works_spec : Ctr Tryz.prog W0 18 [] Fr (fun _ : Unit => True) (fun _ => .bool true) (fun _ => Fr) := by
  refine Ctr.of_body Tryz.func18 rfl Tryz.ntmps18 rfl ?_
  refine CG.seq ?_
  refine CG.region ?_
  refine OG.sg rfl rfl ?_
  refine OG.nil ?_
  refine QG.then ?_
  refine CG.seq ?_
  refine CG.region ?_
  refine OG.callo call19 rfl (Imp.refl _) (made_spec W0 Fr (ds := []) (da := none) (dc := 0) SlR.nil (by decide) rfl) rfl ?_
  rintro ⟨⟨we, u, b, p, m, f, t, xs, la, lc⟩, σ⟩ ⟨hxl, L⟩
  dsimp only [wldG, wldE, wldL, WG] at hxl L ⊢
  obtain ⟨x0, x1, x2, rfl⟩ := xs_three hxl
  refine OG.sg rfl rfl ?_
  refine OG.nil ?_
  refine QG.then ?_
  refine CG.seq ?_
  refine CG.seq ?_
  refine CG.region ?_
  refine OG.mv rfl rfl ?_
  refine OG.yield (by first | exact Yield.ptr_nil Tryz.underlying48 rfl rfl | exact Yield.nil_nil Tryz.underlying48 rfl rfl) rfl ?_
  refine OG.nil ?_
  refine QG.then ?_
  refine CG.cond_f rfl ?_
  refine CG.skip ?_
  refine QG.then ?_
  refine CG.seq ?_
  refine CG.pure (fun w hw => SlR.elem_shape (xs := [x0, x1, x2]) (i := 0) (SlR.of_osl (W0 := W0) (E := 58) (a := la) (c := lc) eX) PA.len (by decide) (Nat.succ_pos _) w hw) ?_
  rintro ⟨lb, lo, rfl⟩
  refine CG.imp (Imp.trans (B := PL [x0, x1, x2] (ysN 3) :: _) iM (pl_open (i := 0) (x := x0) (y := y0 0) rfl rfl)) ?_
  refine CG.region ?_
  refine OG.mv rfl rfl ?_
  refine OG.yield (Yield.nilCheck rfl) rfl ?_
  refine OG.yield (Yield.fieldAddr fa64_0 rfl) rfl ?_
  refine OG.yield (Yield.load (v := .slice (some ⟨lb, lo, none⟩) 3 lc) ti59 rfl (Cel.of_blk (b := we) eX rfl)) rfl ?_
  refine OG.yield (Yield.index_slice Tryz.underlying59 ti58 rfl rfl (by omega) (by omega)) rfl ?_
  refine OG.yield (Yield.fieldAddr fa58_2 rfl) rfl ?_
  refine OG.yield (Yield.load (v := .pointer (some ⟨x0.k, 0, none⟩)) ti55 rfl (((SlR.of_osl (E := 58) (a := some ⟨lb, lo, none⟩) (c := lc) eX).elem (i := 0) (x := x0) PA.len rfl) 2 _ rfl)) rfl ?_
  refine OG.effd (Eff.lit [.const (.int .u8 104), .const (.int .u8 105)] (vs := [.int .u8 104, .int .u8 105]) (cells := bytesV [104, 105]) Tryz.underlying32 ti5 rfl rfl rfl rfl (by decide) (by simp [Value.cells]) (by simp [Value.cells]; rfl)) rfl ?_
  rintro b13 -
  refine OG.effd (Eff.convBytes (b := b13) Tryz.underlying32 Tryz.underlying5 rfl fC) rfl ?_
  rintro ⟨⟩ -
  refine OG.callo call20 rfl (iM) (Vc.writeB W0 _ (g := x0.k) (out := []) (inn := []) (ds := [104, 105]) (a2 := some ⟨b13, 0, none⟩) (c2 := 2) (by exact RdB.of_osl (E := 5) eX rfl rfl) (by decide)) rfl ?_
  rintro ⟨⟩ -
  refine OG.nil ?_
  refine QG.then ?_
  refine CG.seq ?_
  refine CG.region ?_
  refine OG.mv rfl rfl ?_
  refine OG.yield (Yield.nilCheck rfl) rfl ?_
  refine OG.yield (Yield.fieldAddr fa64_3 rfl) rfl ?_
  refine OG.yield (Yield.load (v := .pointer (some ⟨p, 0, none⟩)) ti62 rfl (Cel.of_blk (b := we) eX rfl)) rfl ?_
  refine OG.effd (Eff.lit [.const (.int .u8 109)] (vs := [.int .u8 109]) (cells := bytesV [109]) Tryz.underlying32 ti5 rfl rfl rfl rfl (by decide) (by simp [Value.cells]) (by simp [Value.cells]; rfl)) rfl ?_
  rintro b20 -
  refine OG.effd (Eff.convBytes (b := b20) Tryz.underlying32 Tryz.underlying5 rfl fC) rfl ?_
  rintro ⟨⟩ -
  refine OG.callo call44 rfl (iM) (Hc.snd_spec W0 _ (p := p) (acs := chs.map Po.Cf.ac) 0 0 (a := some ⟨b20, 0, none⟩) (c := 1) (bs := [109]) (SlR.of_osl (E := 5) (a := some ⟨b20, 0, none⟩) eX) (by decide)) rfl ?_
  rintro ⟨⟩ -
  rw [snd_M]
  refine OG.nil ?_
  refine QG.then ?_
  refine CG.seq ?_
  refine CG.imp (Imp.trans iM (pl_shut (xs := [x0, x1, x2]) (ys := ysN 3) (i := 0) (x := x0) (y := y0 0) { y0 0 with out := [104, 105] } rfl rfl)) ?_
  rw [show (ysN 3).set 0 { y0 0 with out := [104, 105] } = ysW 0 [104, 105] from rfl]
  refine CG.draw (.look 0 1 (.look 1 1 (.look 2 1 (.look 3 1 (.look 4 1 (.look 5 1 (.look 6 1 (.look 7 1 (.look 8 1 (.look 9 1 (.look 10 1 (.look 11 1 (.eff1 12 false (.look 13 1 (.done))))))))))))))) [12] [] ([]) ([]) mixed (by kernel_rfl) (Imp.none _) (Imp.none _) ?_
  refine DG.look rfl rfl (Yield.move rfl) rfl ?_
  refine DG.look rfl rfl (Yield.nilCheck rfl) rfl ?_
  refine DG.look rfl rfl (Yield.fieldAddr fa64_0 rfl) rfl ?_
  refine DG.look rfl rfl (Yield.load (v := .slice (some ⟨lb, lo, none⟩) 3 lc) ti59 rfl (Cel.of_blk (b := we) eX rfl)) rfl ?_
  refine DG.look rfl rfl (Yield.move rfl) rfl ?_
  refine DG.look rfl rfl (Yield.nilCheck rfl) rfl ?_
  refine DG.look rfl rfl (Yield.fieldAddr fa64_1 rfl) rfl ?_
  refine DG.look rfl rfl (Yield.load (v := .pointer (some ⟨u, 0, none⟩)) ti60 rfl (Cel.of_blk (b := we) eX rfl)) rfl ?_
  refine DG.look rfl rfl (Yield.move rfl) rfl ?_
  refine DG.look rfl rfl (Yield.nilCheck rfl) rfl ?_
  refine DG.look rfl rfl (Yield.fieldAddr fa64_2 rfl) rfl ?_
  refine DG.look rfl rfl (Yield.load (v := .pointer (some ⟨b, 0, none⟩)) ti61 rfl (Cel.of_blk (b := we) eX rfl)) rfl ?_
  refine DG.eff1 ?_
  refine Chg.callo rfl rfl call22 rfl (iM) (serve_spec W0 (osl 58 4 (some ⟨lb, lo, none⟩) lc 3 (([x0, x1, x2].map PA.cells).flatten) :: blk we [.slice (some ⟨lb, lo, none⟩) 3 lc, .pointer (some ⟨u, 0, none⟩), .pointer (some ⟨b, 0, none⟩), .pointer (some ⟨p, 0, none⟩)] 64 :: Po.Po p acsM :: SL m f t [x0, x1, x2] :: WG m f t 64 [8, 8, 8] σ Fr) (u := u) (b := b) (lc := lc) (sz := 40) (xs := [x0, x1, x2]) (ys := ysW 0 [104, 105]) (uq := []) (us := []) (bs := bs0 []) (now := 5) (SlR.of_osl (E := 58) (a := some ⟨lb, lo, none⟩) (c := lc) Ext.here) rfl (show 3 ≤ 1000 by decide) (by decide) (by decide) (by decide) (show (0 : Int) + 4 * ((3 : Nat) : Int) ≤ 1073741824 by decide)) rfl (fun _ => iM) (fun _ => Imp.refl _) (fun _ => iM) ?_
  rintro ⟨ya, yc, yms⟩ hy
  rw [(ser_W (p := 0) (by decide) [104, 105] 5).1, (ser_W (p := 0) (by decide) [104, 105] 5).2]
  dsimp only [WG, Po.End.cell] at hy ⊢
  obtain ⟨m0, m1, m2, rfl⟩ : ∃ m0 m1 m2, yms = [m0, m1, m2] := by
    have := congrArg List.length hy
    simp only [Po.End.bs, List.length_map, ysW_len] at this
    match yms, this with
    | [a, b, c], _ => exact ⟨a, b, c, rfl⟩
  obtain ⟨a0, c0, q0⟩ := m0
  obtain ⟨a1, c1, q1⟩ := m1
  obtain ⟨a2, c2, q2⟩ := m2
  have hy' : [q0, q1, q2] = ([[104, 105], [], []] : List B) := hy
  simp only [List.cons.injEq, and_true] at hy'
  obtain ⟨rfl, rfl, rfl⟩ := hy'
  refine DG.look rfl rfl (Yield.assign rfl) rfl ?_
  refine DG.done ?_
  refine QG.then ?_
  refine CG.seq ?_
  refine CG.pure (fun w hw => SlR.shape (SlR.of_osl (W0 := W0) (E := 32) (a := ya) (c := yc) eX) (fun q => by cases q) w hw) ?_
  rintro ⟨yb, yo, rfl⟩
  refine CG.draw (.look 0 0 (.look 1 0 (.look 2 0 (.look 3 0 (.look 5 0 (.look 6 0 (.look 7 0 (.look 8 0 (.eff2 4 false (.eff1 9 false (.eff1 10 false (.look 11 1 (.eff1 12 false (.eff1 13 false (.done)))))) 9 false (.eff2 4 false (.eff1 10 false (.look 11 1 (.eff1 12 false (.eff1 13 false (.done))))) 10 false (.look 11 0 (.eff2 4 false (.eff1 12 false (.eff1 13 false (.done))) 12 false (.eff1 4 false (.eff1 13 false (.done))))))))))))))) [4, 9, 10, 12, 13] [] ([blk we [.slice (some ⟨lb, lo, none⟩) 3 lc, .pointer (some ⟨u, 0, none⟩), .pointer (some ⟨b, 0, none⟩), .pointer (some ⟨p, 0, none⟩)] 64]) ([]) mixed (by kernel_rfl) iM (Imp.none _) ?_
  refine DG.look rfl rfl (Yield.move rfl) rfl ?_
  refine DG.look rfl rfl (Yield.nilCheck rfl) rfl ?_
  refine DG.look rfl rfl (Yield.fieldAddr fa64_0 rfl) rfl ?_
  refine DG.look rfl rfl (Yield.load (v := .slice (some ⟨lb, lo, none⟩) 3 lc) ti59 rfl (Cel.of_blk (b := we) eX rfl)) rfl ?_
  refine DG.look rfl rfl (Yield.move rfl) rfl ?_
  refine DG.look rfl rfl (Yield.nilCheck rfl) rfl ?_
  refine DG.look rfl rfl (Yield.fieldAddr fa64_3 rfl) rfl ?_
  refine DG.look rfl rfl (Yield.load (v := .pointer (some ⟨p, 0, none⟩)) ti62 rfl (Cel.of_blk (b := we) eX rfl)) rfl ?_
  refine DG.eff2 ?_ ?_
  · skip
    refine Chg.callo rfl rfl call25 rfl (Imp.refl _) (channels_spec W0 _) rfl (fun _ => iM) (fun _ => Imp.refl _) (fun _ => iM) ?_
    rintro b40 -
    refine DG.eff1 ?_
    refine Chg.eff rfl rfl (Eff.lit [.const (.int .u8 120)] (vs := [.int .u8 120]) (cells := bytesV [120]) Tryz.underlying32 ti5 rfl rfl rfl rfl (by decide) (by simp [Value.cells]) (by simp [Value.cells]; rfl)) rfl (fun _ => iM) (fun _ => Imp.refl _) (fun _ => iM) ?_
    rintro b45 -
    refine DG.eff1 ?_
    refine Chg.eff rfl rfl (Eff.convBytes (b := b45) Tryz.underlying32 Tryz.underlying5 rfl fC) rfl (fun _ => iM) (fun _ => Imp.refl _) (fun _ => iM) ?_
    rintro ⟨⟩ -
    refine DG.look rfl rfl (Yield.build bu75 ti75 rfl (cells := Inp.cells ⟨3, 2, some ⟨b45, 0, none⟩, 1, [120]⟩) rfl) rfl ?_
    refine DG.eff1 ?_
    refine Chg.eff rfl rfl (Eff.lit [.tmp 47] (vs := [.agg (Inp.cells ⟨3, 2, some ⟨b45, 0, none⟩, 1, [120]⟩).toArray]) (cells := (([(⟨3, 2, some ⟨b45, 0, none⟩, 1, [120]⟩ : Inp)].map Inp.cells).flatten)) Tryz.underlying70 ti75 rfl rfl rfl rfl (by decide) (by simp [Value.cells, Inp.cells]) (by simp [Value.cells])) rfl (fun _ => iM) (fun _ => Imp.refl _) (fun _ => iM) ?_
    rintro b48 -
    refine DG.eff1 ?_
    refine Chg.callo rfl rfl call24 rfl (iM) (begin_spec W0 (osl 58 4 (some ⟨lb, lo, none⟩) lc 3 (([x0, x1, x2].map PA.cells).flatten) :: osl 156 5 (some ⟨b40, 0, none⟩) 4 4 ((chs.map Po.Cf.cells).flatten) :: osl 75 3 (some ⟨b48, 0, none⟩) 1 1 (([(⟨3, 2, some ⟨b45, 0, none⟩, 1, [120]⟩ : Inp)].map Inp.cells).flatten) :: oby 5 (some ⟨b45, 0, none⟩) 1 [120] :: blk we [.slice (some ⟨lb, lo, none⟩) 3 lc, .pointer (some ⟨u, 0, none⟩), .pointer (some ⟨b, 0, none⟩), .pointer (some ⟨p, 0, none⟩)] 64 :: Po.oend ⟨some ⟨yb, yo, none⟩, yc, [⟨a0, c0, [104, 105]⟩, ⟨a1, c1, []⟩, ⟨a2, c2, []⟩]⟩ :: Po.pool [⟨a0, c0, [104, 105]⟩, ⟨a1, c1, []⟩, ⟨a2, c2, []⟩] :: Ua.U u 40 [] ([] ++ sndAll 40 [] ((ysW 0 [104, 105]).map PS.out)) :: Fr) (p := p) (lc := lc) (cc := 4) (m := m) (f := f) (t := t) (n := 64) (c := 0) (ic := 1) (ia := some ⟨b48, 0, none⟩) (xs := [x0, x1, x2]) (ys := ysN 3) (cfs := chs) (acs := acsM) (ins := [⟨3, 2, some ⟨b45, 0, none⟩, 1, [120]⟩]) (qs := [8, 8, 8]) (o := obM 3) (σ := σ) 3 (SlR.of_osl (E := 58) (a := some ⟨lb, lo, none⟩) (c := lc) eX) (SlR.of_osl (E := 156) (a := some ⟨b40, 0, none⟩) (c := 4) eX) (SlR.of_osl (E := 75) (a := some ⟨b48, 0, none⟩) (c := 1) eX) (fun x hx => by simp only [List.mem_cons, List.not_mem_nil, or_false] at hx; subst hx; exact ⟨RdB.of_osl (E := 5) eX rfl rfl, show 1 ≤ 2 ^ 48 by decide⟩) (show 1 ≤ 2 ^ 60 by decide) rfl (show 3 ≤ 1000 by decide) (by decide) (by decide) adN L (by decide)) rfl (fun _ => iM) (fun _ => Imp.refl _) (fun _ => iM) ?_
    rintro σ2 -
    rw [beg_M]
    dsimp only [WG]
    refine DG.done ?_
    refine QG.then ?_
    refine CG.seq ?_
    refine CG.imp (Imp.trans (B := PL [x0, x1, x2] [y0 0, { y0 1 with q := 8 }, { y0 2 with q := 2, inn := [120] }] :: _) iM pl_three) ?_
    refine CG.region ?_
    refine OG.mv rfl rfl ?_
    refine OG.yield (Yield.len_slice Tryz.underlying67 rfl rfl) rfl ?_
    refine OG.yield (Yield.as (Yield.eql rfl rfl) (v' := .bool true) (bT rfl)) rfl ?_
    refine OG.mv rfl rfl ?_
    refine OG.gy rfl rfl rfl ?_
    refine OG.mv rfl rfl ?_
    refine OG.gy rfl rfl rfl ?_
    refine OG.yield (Yield.index_slice Tryz.underlying67 ti32 rfl rfl (by omega) (by show (0 : Int) < ((3 : Nat) : Int); decide)) rfl ?_
    refine OG.gy rfl rfl rfl ?_
    refine OG.yield (Yield.load (v := .slice a0 2 c0) ti32 rfl ((SlR.of_osl (E := 32) (a := some ⟨yb, yo, none⟩) (c := yc) eX).cel (i := 0) rfl)) rfl ?_
    refine OG.gy rfl rfl rfl ?_
    refine OG.yield (Yield.toStr (bs := [104, 105]) Tryz.underlying32 Tryz.underlying9 Tryz.underlying5 rfl ((Po.pool_rd (ms := [(⟨a0, c0, [104, 105]⟩ : Po.Msg), ⟨a1, c1, []⟩, ⟨a2, c2, []⟩]) (m := ⟨a0, c0, [104, 105]⟩) eX (by simp)).slR)) rfl ?_
    refine OG.gy rfl rfl rfl ?_
    refine OG.yield (Yield.str_same rfl rfl) rfl ?_
    refine OG.yield Yield.pickA rfl ?_
    refine OG.mv rfl rfl ?_
    refine OG.gy rfl rfl rfl ?_
    refine OG.mv rfl rfl ?_
    refine OG.gy rfl rfl rfl ?_
    refine OG.yield (Yield.index_slice Tryz.underlying67 ti32 rfl rfl (by omega) (by show (1 : Int) < ((3 : Nat) : Int); decide)) rfl ?_
    refine OG.gy rfl rfl rfl ?_
    refine OG.yield (Yield.load (v := .slice a1 0 c1) ti32 rfl ((SlR.of_osl (E := 32) (a := some ⟨yb, yo, none⟩) (c := yc) eX).cel (i := 1) rfl)) rfl ?_
    refine OG.gy rfl rfl rfl ?_
    refine OG.yield (Yield.len_slice Tryz.underlying32 rfl rfl) rfl ?_
    refine OG.gy rfl rfl rfl ?_
    refine OG.yield (Yield.as (Yield.eql rfl rfl) (v' := .bool true) (bT rfl)) rfl ?_
    refine OG.yield Yield.pickA rfl ?_
    refine OG.mv rfl rfl ?_
    refine OG.gy rfl rfl rfl ?_
    refine OG.mv rfl rfl ?_
    refine OG.gy rfl rfl rfl ?_
    refine OG.yield (Yield.nilCheck rfl) rfl ?_
    refine OG.gy rfl rfl rfl ?_
    refine OG.yield (Yield.fieldAddr fa64_1 rfl) rfl ?_
    refine OG.gy rfl rfl rfl ?_
    refine OG.yield (Yield.load (v := .pointer (some ⟨u, 0, none⟩)) ti60 rfl (Cel.of_blk (b := we) eX rfl)) rfl ?_
    refine OG.gy rfl rfl rfl ?_
    refine OG.callo call23 rfl (iM) (Ua.sent_spec W0 _ (u := u) (sz := 40) (q := []) (s := [] ++ sndAll 40 [] ((ysW 0 [104, 105]).map PS.out)) (by decide)) rfl ?_
    rintro ⟨ja, jc⟩ -
    dsimp only
    refine OG.gy rfl rfl rfl ?_
    refine OG.yield (Yield.toStr (bs := [104, 105]) Tryz.underlying32 Tryz.underlying9 Tryz.underlying5 rfl (SlR.of_osl (E := 5) (a := ja) (c := jc) (m := 2) (xs := bytesV [104, 105]) eX)) rfl ?_
    refine OG.gy rfl rfl rfl ?_
    refine OG.yield (Yield.str_same rfl rfl) rfl ?_
    refine OG.yield Yield.pickA rfl ?_
    refine OG.mv rfl rfl ?_
    refine OG.gy rfl rfl rfl ?_
    refine OG.mv rfl rfl ?_
    refine OG.gy rfl rfl rfl ?_
    refine OG.yield (Yield.nilCheck rfl) rfl ?_
    refine OG.gy rfl rfl rfl ?_
    refine OG.yield (Yield.fieldAddr fa64_0 rfl) rfl ?_
    refine OG.gy rfl rfl rfl ?_
    refine OG.yield (Yield.load (v := .slice (some ⟨lb, lo, none⟩) 3 lc) ti59 rfl (Cel.of_blk (b := we) eX rfl)) rfl ?_
    refine OG.gy rfl rfl rfl ?_
    refine OG.yield (Yield.index_slice Tryz.underlying59 ti58 rfl rfl (by omega) (by omega)) rfl ?_
    refine OG.gy rfl rfl rfl ?_
    refine OG.yield (Yield.fieldAddr fa58_1 rfl) rfl ?_
    refine OG.gy rfl rfl rfl ?_
    refine OG.yield (Yield.load (v := .pointer (some ⟨x1.v, 0, none⟩)) ti54 rfl (((SlR.of_osl (E := 58) (a := some ⟨lb, lo, none⟩) (c := lc) eX).elem (i := 1) (x := x1) PA.len rfl) 1 _ rfl)) rfl ?_
    refine OG.gy rfl rfl rfl ?_
    refine OG.callo call35 rfl (iM) (Vi.queued_spec W0 _ (v := x1.v) (q := 8) (p := 0) (a := 0) (s := false) (by decide)) rfl ?_
    rintro ⟨⟩ -
    refine OG.gy rfl rfl rfl ?_
    refine OG.yield (Yield.as (Yield.eql rfl rfl) (v' := .bool true) (bT rfl)) rfl ?_
    refine OG.yield Yield.pickA rfl ?_
    refine OG.mv rfl rfl ?_
    refine OG.gy rfl rfl rfl ?_
    refine OG.mv rfl rfl ?_
    refine OG.gy rfl rfl rfl ?_
    refine OG.yield (Yield.nilCheck rfl) rfl ?_
    refine OG.gy rfl rfl rfl ?_
    refine OG.yield (Yield.fieldAddr fa64_0 rfl) rfl ?_
    refine OG.gy rfl rfl rfl ?_
    refine OG.yield (Yield.load (v := .slice (some ⟨lb, lo, none⟩) 3 lc) ti59 rfl (Cel.of_blk (b := we) eX rfl)) rfl ?_
    refine OG.gy rfl rfl rfl ?_
    refine OG.yield (Yield.index_slice Tryz.underlying59 ti58 rfl rfl (by omega) (by omega)) rfl ?_
    refine OG.gy rfl rfl rfl ?_
    refine OG.yield (Yield.fieldAddr fa58_1 rfl) rfl ?_
    refine OG.gy rfl rfl rfl ?_
    refine OG.yield (Yield.load (v := .pointer (some ⟨x2.v, 0, none⟩)) ti54 rfl (((SlR.of_osl (E := 58) (a := some ⟨lb, lo, none⟩) (c := lc) eX).elem (i := 2) (x := x2) PA.len rfl) 1 _ rfl)) rfl ?_
    refine OG.gy rfl rfl rfl ?_
    refine OG.callo call35 rfl (iM) (Vi.queued_spec W0 _ (v := x2.v) (q := 2) (p := 0) (a := 0) (s := false) (by decide)) rfl ?_
    rintro ⟨⟩ -
    refine OG.gy rfl rfl rfl ?_
    refine OG.yield (Yield.as (Yield.eql rfl rfl) (v' := .bool true) (bT rfl)) rfl ?_
    refine OG.yield Yield.pickA rfl ?_
    refine OG.mv rfl rfl ?_
    refine OG.gy rfl rfl rfl ?_
    refine OG.mv rfl rfl ?_
    refine OG.gy rfl rfl rfl ?_
    refine OG.yield (Yield.nilCheck rfl) rfl ?_
    refine OG.gy rfl rfl rfl ?_
    refine OG.yield (Yield.fieldAddr fa64_0 rfl) rfl ?_
    refine OG.gy rfl rfl rfl ?_
    refine OG.yield (Yield.load (v := .slice (some ⟨lb, lo, none⟩) 3 lc) ti59 rfl (Cel.of_blk (b := we) eX rfl)) rfl ?_
    refine OG.gy rfl rfl rfl ?_
    refine OG.yield (Yield.index_slice Tryz.underlying59 ti58 rfl rfl (by omega) (by omega)) rfl ?_
    refine OG.gy rfl rfl rfl ?_
    refine OG.yield (Yield.fieldAddr fa58_2 rfl) rfl ?_
    refine OG.gy rfl rfl rfl ?_
    refine OG.yield (Yield.load (v := .pointer (some ⟨x2.k, 0, none⟩)) ti55 rfl (((SlR.of_osl (E := 58) (a := some ⟨lb, lo, none⟩) (c := lc) eX).elem (i := 2) (x := x2) PA.len rfl) 2 _ rfl)) rfl ?_
    refine OG.gy rfl rfl rfl ?_
    refine OG.callo call36 rfl (iM) (Vc.in_spec W0 _ (g := x2.k) (out := []) (inn := [120])) rfl ?_
    rintro ⟨ja, jc⟩ -
    dsimp only
    refine OG.gy rfl rfl rfl ?_
    refine OG.yield (Yield.toStr (bs := [120]) Tryz.underlying32 Tryz.underlying9 Tryz.underlying5 rfl (SlR.of_osl (E := 5) (a := ja) (c := jc) (m := 1) (xs := bytesV [120]) eX)) rfl ?_
    refine OG.gy rfl rfl rfl ?_
    refine OG.yield (Yield.str_same rfl rfl) rfl ?_
    refine OG.yield Yield.pickA rfl ?_
    refine OG.sg rfl rfl ?_
    refine OG.nil ?_
    refine QG.then ?_
    refine CG.ret ?_
    exact QG.ret1 rfl rfl () trivial rfl iM
  · skip
    refine Chg.eff rfl rfl (Eff.lit [.const (.int .u8 120)] (vs := [.int .u8 120]) (cells := bytesV [120]) Tryz.underlying32 ti5 rfl rfl rfl rfl (by decide) (by simp [Value.cells]) (by simp [Value.cells]; rfl)) rfl (fun _ => iM) (fun _ => Imp.refl _) (fun _ => iM) ?_
    rintro b45 -
    refine DG.eff2 ?_ ?_
    · skip
      refine Chg.callo rfl rfl call25 rfl (Imp.refl _) (channels_spec W0 _) rfl (fun _ => iM) (fun _ => Imp.refl _) (fun _ => iM) ?_
      rintro b40 -
      refine DG.eff1 ?_
      refine Chg.eff rfl rfl (Eff.convBytes (b := b45) Tryz.underlying32 Tryz.underlying5 rfl fC) rfl (fun _ => iM) (fun _ => Imp.refl _) (fun _ => iM) ?_
      rintro ⟨⟩ -
      refine DG.look rfl rfl (Yield.build bu75 ti75 rfl (cells := Inp.cells ⟨3, 2, some ⟨b45, 0, none⟩, 1, [120]⟩) rfl) rfl ?_
      refine DG.eff1 ?_
      refine Chg.eff rfl rfl (Eff.lit [.tmp 47] (vs := [.agg (Inp.cells ⟨3, 2, some ⟨b45, 0, none⟩, 1, [120]⟩).toArray]) (cells := (([(⟨3, 2, some ⟨b45, 0, none⟩, 1, [120]⟩ : Inp)].map Inp.cells).flatten)) Tryz.underlying70 ti75 rfl rfl rfl rfl (by decide) (by simp [Value.cells, Inp.cells]) (by simp [Value.cells])) rfl (fun _ => iM) (fun _ => Imp.refl _) (fun _ => iM) ?_
      rintro b48 -
      refine DG.eff1 ?_
      refine Chg.callo rfl rfl call24 rfl (iM) (begin_spec W0 (osl 58 4 (some ⟨lb, lo, none⟩) lc 3 (([x0, x1, x2].map PA.cells).flatten) :: osl 156 5 (some ⟨b40, 0, none⟩) 4 4 ((chs.map Po.Cf.cells).flatten) :: osl 75 3 (some ⟨b48, 0, none⟩) 1 1 (([(⟨3, 2, some ⟨b45, 0, none⟩, 1, [120]⟩ : Inp)].map Inp.cells).flatten) :: oby 5 (some ⟨b45, 0, none⟩) 1 [120] :: blk we [.slice (some ⟨lb, lo, none⟩) 3 lc, .pointer (some ⟨u, 0, none⟩), .pointer (some ⟨b, 0, none⟩), .pointer (some ⟨p, 0, none⟩)] 64 :: Po.oend ⟨some ⟨yb, yo, none⟩, yc, [⟨a0, c0, [104, 105]⟩, ⟨a1, c1, []⟩, ⟨a2, c2, []⟩]⟩ :: Po.pool [⟨a0, c0, [104, 105]⟩, ⟨a1, c1, []⟩, ⟨a2, c2, []⟩] :: Ua.U u 40 [] ([] ++ sndAll 40 [] ((ysW 0 [104, 105]).map PS.out)) :: Fr) (p := p) (lc := lc) (cc := 4) (m := m) (f := f) (t := t) (n := 64) (c := 0) (ic := 1) (ia := some ⟨b48, 0, none⟩) (xs := [x0, x1, x2]) (ys := ysN 3) (cfs := chs) (acs := acsM) (ins := [⟨3, 2, some ⟨b45, 0, none⟩, 1, [120]⟩]) (qs := [8, 8, 8]) (o := obM 3) (σ := σ) 3 (SlR.of_osl (E := 58) (a := some ⟨lb, lo, none⟩) (c := lc) eX) (SlR.of_osl (E := 156) (a := some ⟨b40, 0, none⟩) (c := 4) eX) (SlR.of_osl (E := 75) (a := some ⟨b48, 0, none⟩) (c := 1) eX) (fun x hx => by simp only [List.mem_cons, List.not_mem_nil, or_false] at hx; subst hx; exact ⟨RdB.of_osl (E := 5) eX rfl rfl, show 1 ≤ 2 ^ 48 by decide⟩) (show 1 ≤ 2 ^ 60 by decide) rfl (show 3 ≤ 1000 by decide) (by decide) (by decide) adN L (by decide)) rfl (fun _ => iM) (fun _ => Imp.refl _) (fun _ => iM) ?_
      rintro σ2 -
      rw [beg_M]
      dsimp only [WG]
      refine DG.done ?_
      refine QG.then ?_
      refine CG.seq ?_
      refine CG.imp (Imp.trans (B := PL [x0, x1, x2] [y0 0, { y0 1 with q := 8 }, { y0 2 with q := 2, inn := [120] }] :: _) iM pl_three) ?_
      refine CG.region ?_
      refine OG.mv rfl rfl ?_
      refine OG.yield (Yield.len_slice Tryz.underlying67 rfl rfl) rfl ?_
      refine OG.yield (Yield.as (Yield.eql rfl rfl) (v' := .bool true) (bT rfl)) rfl ?_
      refine OG.mv rfl rfl ?_
      refine OG.gy rfl rfl rfl ?_
      refine OG.mv rfl rfl ?_
      refine OG.gy rfl rfl rfl ?_
      refine OG.yield (Yield.index_slice Tryz.underlying67 ti32 rfl rfl (by omega) (by show (0 : Int) < ((3 : Nat) : Int); decide)) rfl ?_
      refine OG.gy rfl rfl rfl ?_
      refine OG.yield (Yield.load (v := .slice a0 2 c0) ti32 rfl ((SlR.of_osl (E := 32) (a := some ⟨yb, yo, none⟩) (c := yc) eX).cel (i := 0) rfl)) rfl ?_
      refine OG.gy rfl rfl rfl ?_
      refine OG.yield (Yield.toStr (bs := [104, 105]) Tryz.underlying32 Tryz.underlying9 Tryz.underlying5 rfl ((Po.pool_rd (ms := [(⟨a0, c0, [104, 105]⟩ : Po.Msg), ⟨a1, c1, []⟩, ⟨a2, c2, []⟩]) (m := ⟨a0, c0, [104, 105]⟩) eX (by simp)).slR)) rfl ?_
      refine OG.gy rfl rfl rfl ?_
      refine OG.yield (Yield.str_same rfl rfl) rfl ?_
      refine OG.yield Yield.pickA rfl ?_
      refine OG.mv rfl rfl ?_
      refine OG.gy rfl rfl rfl ?_
      refine OG.mv rfl rfl ?_
      refine OG.gy rfl rfl rfl ?_
      refine OG.yield (Yield.index_slice Tryz.underlying67 ti32 rfl rfl (by omega) (by show (1 : Int) < ((3 : Nat) : Int); decide)) rfl ?_
      refine OG.gy rfl rfl rfl ?_
      refine OG.yield (Yield.load (v := .slice a1 0 c1) ti32 rfl ((SlR.of_osl (E := 32) (a := some ⟨yb, yo, none⟩) (c := yc) eX).cel (i := 1) rfl)) rfl ?_
      refine OG.gy rfl rfl rfl ?_
      refine OG.yield (Yield.len_slice Tryz.underlying32 rfl rfl) rfl ?_
      refine OG.gy rfl rfl rfl ?_
      refine OG.yield (Yield.as (Yield.eql rfl rfl) (v' := .bool true) (bT rfl)) rfl ?_
      refine OG.yield Yield.pickA rfl ?_
      refine OG.mv rfl rfl ?_
      refine OG.gy rfl rfl rfl ?_
      refine OG.mv rfl rfl ?_
      refine OG.gy rfl rfl rfl ?_
      refine OG.yield (Yield.nilCheck rfl) rfl ?_
      refine OG.gy rfl rfl rfl ?_
      refine OG.yield (Yield.fieldAddr fa64_1 rfl) rfl ?_
      refine OG.gy rfl rfl rfl ?_
      refine OG.yield (Yield.load (v := .pointer (some ⟨u, 0, none⟩)) ti60 rfl (Cel.of_blk (b := we) eX rfl)) rfl ?_
      refine OG.gy rfl rfl rfl ?_
      refine OG.callo call23 rfl (iM) (Ua.sent_spec W0 _ (u := u) (sz := 40) (q := []) (s := [] ++ sndAll 40 [] ((ysW 0 [104, 105]).map PS.out)) (by decide)) rfl ?_
      rintro ⟨ja, jc⟩ -
      dsimp only
      refine OG.gy rfl rfl rfl ?_
      refine OG.yield (Yield.toStr (bs := [104, 105]) Tryz.underlying32 Tryz.underlying9 Tryz.underlying5 rfl (SlR.of_osl (E := 5) (a := ja) (c := jc) (m := 2) (xs := bytesV [104, 105]) eX)) rfl ?_
      refine OG.gy rfl rfl rfl ?_
      refine OG.yield (Yield.str_same rfl rfl) rfl ?_
      refine OG.yield Yield.pickA rfl ?_
      refine OG.mv rfl rfl ?_
      refine OG.gy rfl rfl rfl ?_
      refine OG.mv rfl rfl ?_
      refine OG.gy rfl rfl rfl ?_
      refine OG.yield (Yield.nilCheck rfl) rfl ?_
      refine OG.gy rfl rfl rfl ?_
      refine OG.yield (Yield.fieldAddr fa64_0 rfl) rfl ?_
      refine OG.gy rfl rfl rfl ?_
      refine OG.yield (Yield.load (v := .slice (some ⟨lb, lo, none⟩) 3 lc) ti59 rfl (Cel.of_blk (b := we) eX rfl)) rfl ?_
      refine OG.gy rfl rfl rfl ?_
      refine OG.yield (Yield.index_slice Tryz.underlying59 ti58 rfl rfl (by omega) (by omega)) rfl ?_
      refine OG.gy rfl rfl rfl ?_
      refine OG.yield (Yield.fieldAddr fa58_1 rfl) rfl ?_
      refine OG.gy rfl rfl rfl ?_
      refine OG.yield (Yield.load (v := .pointer (some ⟨x1.v, 0, none⟩)) ti54 rfl (((SlR.of_osl (E := 58) (a := some ⟨lb, lo, none⟩) (c := lc) eX).elem (i := 1) (x := x1) PA.len rfl) 1 _ rfl)) rfl ?_
      refine OG.gy rfl rfl rfl ?_
      refine OG.callo call35 rfl (iM) (Vi.queued_spec W0 _ (v := x1.v) (q := 8) (p := 0) (a := 0) (s := false) (by decide)) rfl ?_
      rintro ⟨⟩ -
      refine OG.gy rfl rfl rfl ?_
      refine OG.yield (Yield.as (Yield.eql rfl rfl) (v' := .bool true) (bT rfl)) rfl ?_
      refine OG.yield Yield.pickA rfl ?_
      refine OG.mv rfl rfl ?_
      refine OG.gy rfl rfl rfl ?_
      refine OG.mv rfl rfl ?_
      refine OG.gy rfl rfl rfl ?_
      refine OG.yield (Yield.nilCheck rfl) rfl ?_
      refine OG.gy rfl rfl rfl ?_
      refine OG.yield (Yield.fieldAddr fa64_0 rfl) rfl ?_
      refine OG.gy rfl rfl rfl ?_
      refine OG.yield (Yield.load (v := .slice (some ⟨lb, lo, none⟩) 3 lc) ti59 rfl (Cel.of_blk (b := we) eX rfl)) rfl ?_
      refine OG.gy rfl rfl rfl ?_
      refine OG.yield (Yield.index_slice Tryz.underlying59 ti58 rfl rfl (by omega) (by omega)) rfl ?_
      refine OG.gy rfl rfl rfl ?_
      refine OG.yield (Yield.fieldAddr fa58_1 rfl) rfl ?_
      refine OG.gy rfl rfl rfl ?_
      refine OG.yield (Yield.load (v := .pointer (some ⟨x2.v, 0, none⟩)) ti54 rfl (((SlR.of_osl (E := 58) (a := some ⟨lb, lo, none⟩) (c := lc) eX).elem (i := 2) (x := x2) PA.len rfl) 1 _ rfl)) rfl ?_
      refine OG.gy rfl rfl rfl ?_
      refine OG.callo call35 rfl (iM) (Vi.queued_spec W0 _ (v := x2.v) (q := 2) (p := 0) (a := 0) (s := false) (by decide)) rfl ?_
      rintro ⟨⟩ -
      refine OG.gy rfl rfl rfl ?_
      refine OG.yield (Yield.as (Yield.eql rfl rfl) (v' := .bool true) (bT rfl)) rfl ?_
      refine OG.yield Yield.pickA rfl ?_
      refine OG.mv rfl rfl ?_
      refine OG.gy rfl rfl rfl ?_
      refine OG.mv rfl rfl ?_
      refine OG.gy rfl rfl rfl ?_
      refine OG.yield (Yield.nilCheck rfl) rfl ?_
      refine OG.gy rfl rfl rfl ?_
      refine OG.yield (Yield.fieldAddr fa64_0 rfl) rfl ?_
      refine OG.gy rfl rfl rfl ?_
      refine OG.yield (Yield.load (v := .slice (some ⟨lb, lo, none⟩) 3 lc) ti59 rfl (Cel.of_blk (b := we) eX rfl)) rfl ?_
      refine OG.gy rfl rfl rfl ?_
      refine OG.yield (Yield.index_slice Tryz.underlying59 ti58 rfl rfl (by omega) (by omega)) rfl ?_
      refine OG.gy rfl rfl rfl ?_
      refine OG.yield (Yield.fieldAddr fa58_2 rfl) rfl ?_
      refine OG.gy rfl rfl rfl ?_
      refine OG.yield (Yield.load (v := .pointer (some ⟨x2.k, 0, none⟩)) ti55 rfl (((SlR.of_osl (E := 58) (a := some ⟨lb, lo, none⟩) (c := lc) eX).elem (i := 2) (x := x2) PA.len rfl) 2 _ rfl)) rfl ?_
      refine OG.gy rfl rfl rfl ?_
      refine OG.callo call36 rfl (iM) (Vc.in_spec W0 _ (g := x2.k) (out := []) (inn := [120])) rfl ?_
      rintro ⟨ja, jc⟩ -
      dsimp only
      refine OG.gy rfl rfl rfl ?_
      refine OG.yield (Yield.toStr (bs := [120]) Tryz.underlying32 Tryz.underlying9 Tryz.underlying5 rfl (SlR.of_osl (E := 5) (a := ja) (c := jc) (m := 1) (xs := bytesV [120]) eX)) rfl ?_
      refine OG.gy rfl rfl rfl ?_
      refine OG.yield (Yield.str_same rfl rfl) rfl ?_
      refine OG.yield Yield.pickA rfl ?_
      refine OG.sg rfl rfl ?_
      refine OG.nil ?_
      refine QG.then ?_
      refine CG.ret ?_
      exact QG.ret1 rfl rfl () trivial rfl iM
    · skip
      refine Chg.eff rfl rfl (Eff.convBytes (b := b45) Tryz.underlying32 Tryz.underlying5 rfl fC) rfl (fun _ => iM) (fun _ => Imp.refl _) (fun _ => iM) ?_
      rintro ⟨⟩ -
      refine DG.look rfl rfl (Yield.build bu75 ti75 rfl (cells := Inp.cells ⟨3, 2, some ⟨b45, 0, none⟩, 1, [120]⟩) rfl) rfl ?_
      refine DG.eff2 ?_ ?_
      · skip
        refine Chg.callo rfl rfl call25 rfl (Imp.refl _) (channels_spec W0 _) rfl (fun _ => iM) (fun _ => Imp.refl _) (fun _ => iM) ?_
        rintro b40 -
        refine DG.eff1 ?_
        refine Chg.eff rfl rfl (Eff.lit [.tmp 47] (vs := [.agg (Inp.cells ⟨3, 2, some ⟨b45, 0, none⟩, 1, [120]⟩).toArray]) (cells := (([(⟨3, 2, some ⟨b45, 0, none⟩, 1, [120]⟩ : Inp)].map Inp.cells).flatten)) Tryz.underlying70 ti75 rfl rfl rfl rfl (by decide) (by simp [Value.cells, Inp.cells]) (by simp [Value.cells])) rfl (fun _ => iM) (fun _ => Imp.refl _) (fun _ => iM) ?_
        rintro b48 -
        refine DG.eff1 ?_
        refine Chg.callo rfl rfl call24 rfl (iM) (begin_spec W0 (osl 58 4 (some ⟨lb, lo, none⟩) lc 3 (([x0, x1, x2].map PA.cells).flatten) :: osl 156 5 (some ⟨b40, 0, none⟩) 4 4 ((chs.map Po.Cf.cells).flatten) :: osl 75 3 (some ⟨b48, 0, none⟩) 1 1 (([(⟨3, 2, some ⟨b45, 0, none⟩, 1, [120]⟩ : Inp)].map Inp.cells).flatten) :: oby 5 (some ⟨b45, 0, none⟩) 1 [120] :: blk we [.slice (some ⟨lb, lo, none⟩) 3 lc, .pointer (some ⟨u, 0, none⟩), .pointer (some ⟨b, 0, none⟩), .pointer (some ⟨p, 0, none⟩)] 64 :: Po.oend ⟨some ⟨yb, yo, none⟩, yc, [⟨a0, c0, [104, 105]⟩, ⟨a1, c1, []⟩, ⟨a2, c2, []⟩]⟩ :: Po.pool [⟨a0, c0, [104, 105]⟩, ⟨a1, c1, []⟩, ⟨a2, c2, []⟩] :: Ua.U u 40 [] ([] ++ sndAll 40 [] ((ysW 0 [104, 105]).map PS.out)) :: Fr) (p := p) (lc := lc) (cc := 4) (m := m) (f := f) (t := t) (n := 64) (c := 0) (ic := 1) (ia := some ⟨b48, 0, none⟩) (xs := [x0, x1, x2]) (ys := ysN 3) (cfs := chs) (acs := acsM) (ins := [⟨3, 2, some ⟨b45, 0, none⟩, 1, [120]⟩]) (qs := [8, 8, 8]) (o := obM 3) (σ := σ) 3 (SlR.of_osl (E := 58) (a := some ⟨lb, lo, none⟩) (c := lc) eX) (SlR.of_osl (E := 156) (a := some ⟨b40, 0, none⟩) (c := 4) eX) (SlR.of_osl (E := 75) (a := some ⟨b48, 0, none⟩) (c := 1) eX) (fun x hx => by simp only [List.mem_cons, List.not_mem_nil, or_false] at hx; subst hx; exact ⟨RdB.of_osl (E := 5) eX rfl rfl, show 1 ≤ 2 ^ 48 by decide⟩) (show 1 ≤ 2 ^ 60 by decide) rfl (show 3 ≤ 1000 by decide) (by decide) (by decide) adN L (by decide)) rfl (fun _ => iM) (fun _ => Imp.refl _) (fun _ => iM) ?_
        rintro σ2 -
        rw [beg_M]
        dsimp only [WG]
        refine DG.done ?_
        refine QG.then ?_
        refine CG.seq ?_
        refine CG.imp (Imp.trans (B := PL [x0, x1, x2] [y0 0, { y0 1 with q := 8 }, { y0 2 with q := 2, inn := [120] }] :: _) iM pl_three) ?_
        refine CG.region ?_
        refine OG.mv rfl rfl ?_
        refine OG.yield (Yield.len_slice Tryz.underlying67 rfl rfl) rfl ?_
        refine OG.yield (Yield.as (Yield.eql rfl rfl) (v' := .bool true) (bT rfl)) rfl ?_
        refine OG.mv rfl rfl ?_
        refine OG.gy rfl rfl rfl ?_
        refine OG.mv rfl rfl ?_
        refine OG.gy rfl rfl rfl ?_
        refine OG.yield (Yield.index_slice Tryz.underlying67 ti32 rfl rfl (by omega) (by show (0 : Int) < ((3 : Nat) : Int); decide)) rfl ?_
        refine OG.gy rfl rfl rfl ?_
        refine OG.yield (Yield.load (v := .slice a0 2 c0) ti32 rfl ((SlR.of_osl (E := 32) (a := some ⟨yb, yo, none⟩) (c := yc) eX).cel (i := 0) rfl)) rfl ?_
        refine OG.gy rfl rfl rfl ?_
        refine OG.yield (Yield.toStr (bs := [104, 105]) Tryz.underlying32 Tryz.underlying9 Tryz.underlying5 rfl ((Po.pool_rd (ms := [(⟨a0, c0, [104, 105]⟩ : Po.Msg), ⟨a1, c1, []⟩, ⟨a2, c2, []⟩]) (m := ⟨a0, c0, [104, 105]⟩) eX (by simp)).slR)) rfl ?_
        refine OG.gy rfl rfl rfl ?_
        refine OG.yield (Yield.str_same rfl rfl) rfl ?_
        refine OG.yield Yield.pickA rfl ?_
        refine OG.mv rfl rfl ?_
        refine OG.gy rfl rfl rfl ?_
        refine OG.mv rfl rfl ?_
        refine OG.gy rfl rfl rfl ?_
        refine OG.yield (Yield.index_slice Tryz.underlying67 ti32 rfl rfl (by omega) (by show (1 : Int) < ((3 : Nat) : Int); decide)) rfl ?_
        refine OG.gy rfl rfl rfl ?_
        refine OG.yield (Yield.load (v := .slice a1 0 c1) ti32 rfl ((SlR.of_osl (E := 32) (a := some ⟨yb, yo, none⟩) (c := yc) eX).cel (i := 1) rfl)) rfl ?_
        refine OG.gy rfl rfl rfl ?_
        refine OG.yield (Yield.len_slice Tryz.underlying32 rfl rfl) rfl ?_
        refine OG.gy rfl rfl rfl ?_
        refine OG.yield (Yield.as (Yield.eql rfl rfl) (v' := .bool true) (bT rfl)) rfl ?_
        refine OG.yield Yield.pickA rfl ?_
        refine OG.mv rfl rfl ?_
        refine OG.gy rfl rfl rfl ?_
        refine OG.mv rfl rfl ?_
        refine OG.gy rfl rfl rfl ?_
        refine OG.yield (Yield.nilCheck rfl) rfl ?_
        refine OG.gy rfl rfl rfl ?_
        refine OG.yield (Yield.fieldAddr fa64_1 rfl) rfl ?_
        refine OG.gy rfl rfl rfl ?_
        refine OG.yield (Yield.load (v := .pointer (some ⟨u, 0, none⟩)) ti60 rfl (Cel.of_blk (b := we) eX rfl)) rfl ?_
        refine OG.gy rfl rfl rfl ?_
        refine OG.callo call23 rfl (iM) (Ua.sent_spec W0 _ (u := u) (sz := 40) (q := []) (s := [] ++ sndAll 40 [] ((ysW 0 [104, 105]).map PS.out)) (by decide)) rfl ?_
        rintro ⟨ja, jc⟩ -
        dsimp only
        refine OG.gy rfl rfl rfl ?_
        refine OG.yield (Yield.toStr (bs := [104, 105]) Tryz.underlying32 Tryz.underlying9 Tryz.underlying5 rfl (SlR.of_osl (E := 5) (a := ja) (c := jc) (m := 2) (xs := bytesV [104, 105]) eX)) rfl ?_
        refine OG.gy rfl rfl rfl ?_
        refine OG.yield (Yield.str_same rfl rfl) rfl ?_
        refine OG.yield Yield.pickA rfl ?_
        refine OG.mv rfl rfl ?_
        refine OG.gy rfl rfl rfl ?_
        refine OG.mv rfl rfl ?_
        refine OG.gy rfl rfl rfl ?_
        refine OG.yield (Yield.nilCheck rfl) rfl ?_
        refine OG.gy rfl rfl rfl ?_
        refine OG.yield (Yield.fieldAddr fa64_0 rfl) rfl ?_
        refine OG.gy rfl rfl rfl ?_
        refine OG.yield (Yield.load (v := .slice (some ⟨lb, lo, none⟩) 3 lc) ti59 rfl (Cel.of_blk (b := we) eX rfl)) rfl ?_
        refine OG.gy rfl rfl rfl ?_
        refine OG.yield (Yield.index_slice Tryz.underlying59 ti58 rfl rfl (by omega) (by omega)) rfl ?_
        refine OG.gy rfl rfl rfl ?_
        refine OG.yield (Yield.fieldAddr fa58_1 rfl) rfl ?_
        refine OG.gy rfl rfl rfl ?_
        refine OG.yield (Yield.load (v := .pointer (some ⟨x1.v, 0, none⟩)) ti54 rfl (((SlR.of_osl (E := 58) (a := some ⟨lb, lo, none⟩) (c := lc) eX).elem (i := 1) (x := x1) PA.len rfl) 1 _ rfl)) rfl ?_
        refine OG.gy rfl rfl rfl ?_
        refine OG.callo call35 rfl (iM) (Vi.queued_spec W0 _ (v := x1.v) (q := 8) (p := 0) (a := 0) (s := false) (by decide)) rfl ?_
        rintro ⟨⟩ -
        refine OG.gy rfl rfl rfl ?_
        refine OG.yield (Yield.as (Yield.eql rfl rfl) (v' := .bool true) (bT rfl)) rfl ?_
        refine OG.yield Yield.pickA rfl ?_
        refine OG.mv rfl rfl ?_
        refine OG.gy rfl rfl rfl ?_
        refine OG.mv rfl rfl ?_
        refine OG.gy rfl rfl rfl ?_
        refine OG.yield (Yield.nilCheck rfl) rfl ?_
        refine OG.gy rfl rfl rfl ?_
        refine OG.yield (Yield.fieldAddr fa64_0 rfl) rfl ?_
        refine OG.gy rfl rfl rfl ?_
        refine OG.yield (Yield.load (v := .slice (some ⟨lb, lo, none⟩) 3 lc) ti59 rfl (Cel.of_blk (b := we) eX rfl)) rfl ?_
        refine OG.gy rfl rfl rfl ?_
        refine OG.yield (Yield.index_slice Tryz.underlying59 ti58 rfl rfl (by omega) (by omega)) rfl ?_
        refine OG.gy rfl rfl rfl ?_
        refine OG.yield (Yield.fieldAddr fa58_1 rfl) rfl ?_
        refine OG.gy rfl rfl rfl ?_
        refine OG.yield (Yield.load (v := .pointer (some ⟨x2.v, 0, none⟩)) ti54 rfl (((SlR.of_osl (E := 58) (a := some ⟨lb, lo, none⟩) (c := lc) eX).elem (i := 2) (x := x2) PA.len rfl) 1 _ rfl)) rfl ?_
        refine OG.gy rfl rfl rfl ?_
        refine OG.callo call35 rfl (iM) (Vi.queued_spec W0 _ (v := x2.v) (q := 2) (p := 0) (a := 0) (s := false) (by decide)) rfl ?_
        rintro ⟨⟩ -
        refine OG.gy rfl rfl rfl ?_
        refine OG.yield (Yield.as (Yield.eql rfl rfl) (v' := .bool true) (bT rfl)) rfl ?_
        refine OG.yield Yield.pickA rfl ?_
        refine OG.mv rfl rfl ?_
        refine OG.gy rfl rfl rfl ?_
        refine OG.mv rfl rfl ?_
        refine OG.gy rfl rfl rfl ?_
        refine OG.yield (Yield.nilCheck rfl) rfl ?_
        refine OG.gy rfl rfl rfl ?_
        refine OG.yield (Yield.fieldAddr fa64_0 rfl) rfl ?_
        refine OG.gy rfl rfl rfl ?_
        refine OG.yield (Yield.load (v := .slice (some ⟨lb, lo, none⟩) 3 lc) ti59 rfl (Cel.of_blk (b := we) eX rfl)) rfl ?_
        refine OG.gy rfl rfl rfl ?_
        refine OG.yield (Yield.index_slice Tryz.underlying59 ti58 rfl rfl (by omega) (by omega)) rfl ?_
        refine OG.gy rfl rfl rfl ?_
        refine OG.yield (Yield.fieldAddr fa58_2 rfl) rfl ?_
        refine OG.gy rfl rfl rfl ?_
        refine OG.yield (Yield.load (v := .pointer (some ⟨x2.k, 0, none⟩)) ti55 rfl (((SlR.of_osl (E := 58) (a := some ⟨lb, lo, none⟩) (c := lc) eX).elem (i := 2) (x := x2) PA.len rfl) 2 _ rfl)) rfl ?_
        refine OG.gy rfl rfl rfl ?_
        refine OG.callo call36 rfl (iM) (Vc.in_spec W0 _ (g := x2.k) (out := []) (inn := [120])) rfl ?_
        rintro ⟨ja, jc⟩ -
        dsimp only
        refine OG.gy rfl rfl rfl ?_
        refine OG.yield (Yield.toStr (bs := [120]) Tryz.underlying32 Tryz.underlying9 Tryz.underlying5 rfl (SlR.of_osl (E := 5) (a := ja) (c := jc) (m := 1) (xs := bytesV [120]) eX)) rfl ?_
        refine OG.gy rfl rfl rfl ?_
        refine OG.yield (Yield.str_same rfl rfl) rfl ?_
        refine OG.yield Yield.pickA rfl ?_
        refine OG.sg rfl rfl ?_
        refine OG.nil ?_
        refine QG.then ?_
        refine CG.ret ?_
        exact QG.ret1 rfl rfl () trivial rfl iM
      · skip
        refine Chg.eff rfl rfl (Eff.lit [.tmp 47] (vs := [.agg (Inp.cells ⟨3, 2, some ⟨b45, 0, none⟩, 1, [120]⟩).toArray]) (cells := (([(⟨3, 2, some ⟨b45, 0, none⟩, 1, [120]⟩ : Inp)].map Inp.cells).flatten)) Tryz.underlying70 ti75 rfl rfl rfl rfl (by decide) (by simp [Value.cells, Inp.cells]) (by simp [Value.cells])) rfl (fun _ => iM) (fun _ => Imp.refl _) (fun _ => iM) ?_
        rintro b48 -
        refine DG.eff1 ?_
        refine Chg.callo rfl rfl call25 rfl (Imp.refl _) (channels_spec W0 _) rfl (fun _ => iM) (fun _ => Imp.refl _) (fun _ => iM) ?_
        rintro b40 -
        refine DG.eff1 ?_
        refine Chg.callo rfl rfl call24 rfl (iM) (begin_spec W0 (osl 58 4 (some ⟨lb, lo, none⟩) lc 3 (([x0, x1, x2].map PA.cells).flatten) :: osl 156 5 (some ⟨b40, 0, none⟩) 4 4 ((chs.map Po.Cf.cells).flatten) :: osl 75 3 (some ⟨b48, 0, none⟩) 1 1 (([(⟨3, 2, some ⟨b45, 0, none⟩, 1, [120]⟩ : Inp)].map Inp.cells).flatten) :: oby 5 (some ⟨b45, 0, none⟩) 1 [120] :: blk we [.slice (some ⟨lb, lo, none⟩) 3 lc, .pointer (some ⟨u, 0, none⟩), .pointer (some ⟨b, 0, none⟩), .pointer (some ⟨p, 0, none⟩)] 64 :: Po.oend ⟨some ⟨yb, yo, none⟩, yc, [⟨a0, c0, [104, 105]⟩, ⟨a1, c1, []⟩, ⟨a2, c2, []⟩]⟩ :: Po.pool [⟨a0, c0, [104, 105]⟩, ⟨a1, c1, []⟩, ⟨a2, c2, []⟩] :: Ua.U u 40 [] ([] ++ sndAll 40 [] ((ysW 0 [104, 105]).map PS.out)) :: Fr) (p := p) (lc := lc) (cc := 4) (m := m) (f := f) (t := t) (n := 64) (c := 0) (ic := 1) (ia := some ⟨b48, 0, none⟩) (xs := [x0, x1, x2]) (ys := ysN 3) (cfs := chs) (acs := acsM) (ins := [⟨3, 2, some ⟨b45, 0, none⟩, 1, [120]⟩]) (qs := [8, 8, 8]) (o := obM 3) (σ := σ) 3 (SlR.of_osl (E := 58) (a := some ⟨lb, lo, none⟩) (c := lc) eX) (SlR.of_osl (E := 156) (a := some ⟨b40, 0, none⟩) (c := 4) eX) (SlR.of_osl (E := 75) (a := some ⟨b48, 0, none⟩) (c := 1) eX) (fun x hx => by simp only [List.mem_cons, List.not_mem_nil, or_false] at hx; subst hx; exact ⟨RdB.of_osl (E := 5) eX rfl rfl, show 1 ≤ 2 ^ 48 by decide⟩) (show 1 ≤ 2 ^ 60 by decide) rfl (show 3 ≤ 1000 by decide) (by decide) (by decide) adN L (by decide)) rfl (fun _ => iM) (fun _ => Imp.refl _) (fun _ => iM) ?_
        rintro σ2 -
        rw [beg_M]
        dsimp only [WG]
        refine DG.done ?_
        refine QG.then ?_
        refine CG.seq ?_
        refine CG.imp (Imp.trans (B := PL [x0, x1, x2] [y0 0, { y0 1 with q := 8 }, { y0 2 with q := 2, inn := [120] }] :: _) iM pl_three) ?_
        refine CG.region ?_
        refine OG.mv rfl rfl ?_
        refine OG.yield (Yield.len_slice Tryz.underlying67 rfl rfl) rfl ?_
        refine OG.yield (Yield.as (Yield.eql rfl rfl) (v' := .bool true) (bT rfl)) rfl ?_
        refine OG.mv rfl rfl ?_
        refine OG.gy rfl rfl rfl ?_
        refine OG.mv rfl rfl ?_
        refine OG.gy rfl rfl rfl ?_
        refine OG.yield (Yield.index_slice Tryz.underlying67 ti32 rfl rfl (by omega) (by show (0 : Int) < ((3 : Nat) : Int); decide)) rfl ?_
        refine OG.gy rfl rfl rfl ?_
        refine OG.yield (Yield.load (v := .slice a0 2 c0) ti32 rfl ((SlR.of_osl (E := 32) (a := some ⟨yb, yo, none⟩) (c := yc) eX).cel (i := 0) rfl)) rfl ?_
        refine OG.gy rfl rfl rfl ?_
        refine OG.yield (Yield.toStr (bs := [104, 105]) Tryz.underlying32 Tryz.underlying9 Tryz.underlying5 rfl ((Po.pool_rd (ms := [(⟨a0, c0, [104, 105]⟩ : Po.Msg), ⟨a1, c1, []⟩, ⟨a2, c2, []⟩]) (m := ⟨a0, c0, [104, 105]⟩) eX (by simp)).slR)) rfl ?_
        refine OG.gy rfl rfl rfl ?_
        refine OG.yield (Yield.str_same rfl rfl) rfl ?_
        refine OG.yield Yield.pickA rfl ?_
        refine OG.mv rfl rfl ?_
        refine OG.gy rfl rfl rfl ?_
        refine OG.mv rfl rfl ?_
        refine OG.gy rfl rfl rfl ?_
        refine OG.yield (Yield.index_slice Tryz.underlying67 ti32 rfl rfl (by omega) (by show (1 : Int) < ((3 : Nat) : Int); decide)) rfl ?_
        refine OG.gy rfl rfl rfl ?_
        refine OG.yield (Yield.load (v := .slice a1 0 c1) ti32 rfl ((SlR.of_osl (E := 32) (a := some ⟨yb, yo, none⟩) (c := yc) eX).cel (i := 1) rfl)) rfl ?_
        refine OG.gy rfl rfl rfl ?_
        refine OG.yield (Yield.len_slice Tryz.underlying32 rfl rfl) rfl ?_
        refine OG.gy rfl rfl rfl ?_
        refine OG.yield (Yield.as (Yield.eql rfl rfl) (v' := .bool true) (bT rfl)) rfl ?_
        refine OG.yield Yield.pickA rfl ?_
        refine OG.mv rfl rfl ?_
        refine OG.gy rfl rfl rfl ?_
        refine OG.mv rfl rfl ?_
        refine OG.gy rfl rfl rfl ?_
        refine OG.yield (Yield.nilCheck rfl) rfl ?_
        refine OG.gy rfl rfl rfl ?_
        refine OG.yield (Yield.fieldAddr fa64_1 rfl) rfl ?_
        refine OG.gy rfl rfl rfl ?_
        refine OG.yield (Yield.load (v := .pointer (some ⟨u, 0, none⟩)) ti60 rfl (Cel.of_blk (b := we) eX rfl)) rfl ?_
        refine OG.gy rfl rfl rfl ?_
        refine OG.callo call23 rfl (iM) (Ua.sent_spec W0 _ (u := u) (sz := 40) (q := []) (s := [] ++ sndAll 40 [] ((ysW 0 [104, 105]).map PS.out)) (by decide)) rfl ?_
        rintro ⟨ja, jc⟩ -
        dsimp only
        refine OG.gy rfl rfl rfl ?_
        refine OG.yield (Yield.toStr (bs := [104, 105]) Tryz.underlying32 Tryz.underlying9 Tryz.underlying5 rfl (SlR.of_osl (E := 5) (a := ja) (c := jc) (m := 2) (xs := bytesV [104, 105]) eX)) rfl ?_
        refine OG.gy rfl rfl rfl ?_
        refine OG.yield (Yield.str_same rfl rfl) rfl ?_
        refine OG.yield Yield.pickA rfl ?_
        refine OG.mv rfl rfl ?_
        refine OG.gy rfl rfl rfl ?_
        refine OG.mv rfl rfl ?_
        refine OG.gy rfl rfl rfl ?_
        refine OG.yield (Yield.nilCheck rfl) rfl ?_
        refine OG.gy rfl rfl rfl ?_
        refine OG.yield (Yield.fieldAddr fa64_0 rfl) rfl ?_
        refine OG.gy rfl rfl rfl ?_
        refine OG.yield (Yield.load (v := .slice (some ⟨lb, lo, none⟩) 3 lc) ti59 rfl (Cel.of_blk (b := we) eX rfl)) rfl ?_
        refine OG.gy rfl rfl rfl ?_
        refine OG.yield (Yield.index_slice Tryz.underlying59 ti58 rfl rfl (by omega) (by omega)) rfl ?_
        refine OG.gy rfl rfl rfl ?_
        refine OG.yield (Yield.fieldAddr fa58_1 rfl) rfl ?_
        refine OG.gy rfl rfl rfl ?_
        refine OG.yield (Yield.load (v := .pointer (some ⟨x1.v, 0, none⟩)) ti54 rfl (((SlR.of_osl (E := 58) (a := some ⟨lb, lo, none⟩) (c := lc) eX).elem (i := 1) (x := x1) PA.len rfl) 1 _ rfl)) rfl ?_
        refine OG.gy rfl rfl rfl ?_
        refine OG.callo call35 rfl (iM) (Vi.queued_spec W0 _ (v := x1.v) (q := 8) (p := 0) (a := 0) (s := false) (by decide)) rfl ?_
        rintro ⟨⟩ -
        refine OG.gy rfl rfl rfl ?_
        refine OG.yield (Yield.as (Yield.eql rfl rfl) (v' := .bool true) (bT rfl)) rfl ?_
        refine OG.yield Yield.pickA rfl ?_
        refine OG.mv rfl rfl ?_
        refine OG.gy rfl rfl rfl ?_
        refine OG.mv rfl rfl ?_
        refine OG.gy rfl rfl rfl ?_
        refine OG.yield (Yield.nilCheck rfl) rfl ?_
        refine OG.gy rfl rfl rfl ?_
        refine OG.yield (Yield.fieldAddr fa64_0 rfl) rfl ?_
        refine OG.gy rfl rfl rfl ?_
        refine OG.yield (Yield.load (v := .slice (some ⟨lb, lo, none⟩) 3 lc) ti59 rfl (Cel.of_blk (b := we) eX rfl)) rfl ?_
        refine OG.gy rfl rfl rfl ?_
        refine OG.yield (Yield.index_slice Tryz.underlying59 ti58 rfl rfl (by omega) (by omega)) rfl ?_
        refine OG.gy rfl rfl rfl ?_
        refine OG.yield (Yield.fieldAddr fa58_1 rfl) rfl ?_
        refine OG.gy rfl rfl rfl ?_
        refine OG.yield (Yield.load (v := .pointer (some ⟨x2.v, 0, none⟩)) ti54 rfl (((SlR.of_osl (E := 58) (a := some ⟨lb, lo, none⟩) (c := lc) eX).elem (i := 2) (x := x2) PA.len rfl) 1 _ rfl)) rfl ?_
        refine OG.gy rfl rfl rfl ?_
        refine OG.callo call35 rfl (iM) (Vi.queued_spec W0 _ (v := x2.v) (q := 2) (p := 0) (a := 0) (s := false) (by decide)) rfl ?_
        rintro ⟨⟩ -
        refine OG.gy rfl rfl rfl ?_
        refine OG.yield (Yield.as (Yield.eql rfl rfl) (v' := .bool true) (bT rfl)) rfl ?_
        refine OG.yield Yield.pickA rfl ?_
        refine OG.mv rfl rfl ?_
        refine OG.gy rfl rfl rfl ?_
        refine OG.mv rfl rfl ?_
        refine OG.gy rfl rfl rfl ?_
        refine OG.yield (Yield.nilCheck rfl) rfl ?_
        refine OG.gy rfl rfl rfl ?_
        refine OG.yield (Yield.fieldAddr fa64_0 rfl) rfl ?_
        refine OG.gy rfl rfl rfl ?_
        refine OG.yield (Yield.load (v := .slice (some ⟨lb, lo, none⟩) 3 lc) ti59 rfl (Cel.of_blk (b := we) eX rfl)) rfl ?_
        refine OG.gy rfl rfl rfl ?_
        refine OG.yield (Yield.index_slice Tryz.underlying59 ti58 rfl rfl (by omega) (by omega)) rfl ?_
        refine OG.gy rfl rfl rfl ?_
        refine OG.yield (Yield.fieldAddr fa58_2 rfl) rfl ?_
        refine OG.gy rfl rfl rfl ?_
        refine OG.yield (Yield.load (v := .pointer (some ⟨x2.k, 0, none⟩)) ti55 rfl (((SlR.of_osl (E := 58) (a := some ⟨lb, lo, none⟩) (c := lc) eX).elem (i := 2) (x := x2) PA.len rfl) 2 _ rfl)) rfl ?_
        refine OG.gy rfl rfl rfl ?_
        refine OG.callo call36 rfl (iM) (Vc.in_spec W0 _ (g := x2.k) (out := []) (inn := [120])) rfl ?_
        rintro ⟨ja, jc⟩ -
        dsimp only
        refine OG.gy rfl rfl rfl ?_
        refine OG.yield (Yield.toStr (bs := [120]) Tryz.underlying32 Tryz.underlying9 Tryz.underlying5 rfl (SlR.of_osl (E := 5) (a := ja) (c := jc) (m := 1) (xs := bytesV [120]) eX)) rfl ?_
        refine OG.gy rfl rfl rfl ?_
        refine OG.yield (Yield.str_same rfl rfl) rfl ?_
        refine OG.yield Yield.pickA rfl ?_
        refine OG.sg rfl rfl ?_
        refine OG.nil ?_
        refine QG.then ?_
        refine CG.ret ?_
        exact QG.ret1 rfl rfl () trivial rfl iM
end
end Go.Proofs.YtphljkplokjonaaGreat.Io
/- IowinInputs: the plain part. -/
namespace Go.Proofs.YtphljkplokjonaaGreat.Io
open Go Go.Sl Go.RowKit Go.Proofs Go.Proofs.YtphljkplokjonaaGreat.T Go.Proofs.YtphljkplokjonaaGreat.Sp
set_option maxRecDepth 100000
/-- What is to come to a console. -/
def wstep (m p : Int) (w : B) (x : Inp) : B := if x.Major = m ∧ x.Part = p then w ++ x.Bytes else w
def want (m p : Int) (ins : List Inp) : B := ins.foldl (wstep m p) []
theorem wstep_len {m p : Int} {w : B} {x : Inp} {k : Nat} (hx : x.Bytes.length ≤ k) : (wstep m p w x).length ≤ w.length + k := by unfold wstep; split <;> simp <;> omega
theorem wfold_len {m p : Int} {k : Nat} : ∀ (ins : List Inp) {w : B}, (∀ x ∈ ins, x.Bytes.length ≤ k) → (ins.foldl (wstep m p) w).length ≤ w.length + ins.length * k
  | [], w, _ => by simp
  | x :: ins, w, h => by
    have h1 := wstep_len (m := m) (p := p) (w := w) (h x (List.mem_cons_self ..))
    have h2 := wfold_len (m := m) (p := p) ins (w := wstep m p w x) (fun y hy => h y (List.mem_cons_of_mem _ hy))
    show (ins.foldl (wstep m p) (wstep m p w x)).length ≤ w.length + (ins.length + 1) * k
    rw [Nat.succ_mul]; omega
theorem want_len {m p : Int} {k : Nat} {ins : List Inp} (h : ∀ x ∈ ins, x.Bytes.length ≤ k) : (want m p ins).length ≤ ins.length * k := by have := wfold_len (m := m) (p := p) (w := []) ins h; simp only [List.length_nil, Nat.zero_add] at this; exact this
def qOf (w : B) : Nat := if w = [] then 0 else 2
def fedS (pk i : Nat) (w : B) : PS := ⟨qOf w, pk, 0, false, [], w.take 64, ⟨i, 6 * i, 6, 2, 0, [], []⟩⟩
def fedL (g : Nat → Nat) (w : Nat → B) : List PS := (List.range 3).map fun i => fedS (g i) i (w i)
def ysP (g : Nat → Nat) : List PS := (List.range 3).map fun i => { y0 i with p := g i }
theorem ysP_fed (g : Nat → Nat) : ysP g = fedL g (fun _ => []) := rfl
theorem fedL_at {g : Nat → Nat} {w : Nat → B} {i : Nat} (h : i < 3) : (fedL g w)[i]? = some (fedS (g i) i (w i)) := by unfold fedL; rw [List.getElem?_map, List.getElem?_range h]; rfl
theorem fedL_len {g : Nat → Nat} {w : Nat → B} : (fedL g w).length = 3 := by simp [fedL]
theorem ysP_at {g : Nat → Nat} {i : Nat} (h : i < 3) : (ysP g)[i]? = some { y0 i with p := g i } := by unfold ysP; rw [List.getElem?_map, List.getElem?_range h]; rfl
theorem ysP_len {g : Nat → Nat} : (ysP g).length = 3 := by simp [ysP]
theorem fedP_fedS (pk i : Nat) (w b : B) : fedP b (fedS pk i w) = fedS pk i (w ++ b) := by
  have e1 : w.take 64 ++ b.take (64 - (w.take 64).length) = (w ++ b).take 64 := by
    rw [List.take_append, List.length_take]
    congr 1
    by_cases q : 64 ≤ w.length
    · rw [show 64 - min 64 w.length = 0 by omega, show 64 - w.length = 0 by omega]
    · rw [show min 64 w.length = w.length by omega]
  have e2 : (if 0 < min b.length (64 - (w.take 64).length) then Vi.setBit (qOf w) 1 true else qOf w) = qOf (w ++ b) := by
    unfold qOf
    by_cases q : w = []
    · subst q
      by_cases q2 : b = []
      · subst q2; rfl
      · have : 0 < b.length := List.length_pos_iff.2 q2
        rw [if_pos (by simp; omega), if_pos rfl, if_neg (by simpa using q2)]; rfl
    · rw [if_neg q, show (if w ++ b = [] then (0 : Nat) else 2) = 2 from if_neg (by simp [q])]
      split <;> rfl
  show (⟨if 0 < min b.length (64 - (w.take 64).length) then Vi.setBit (qOf w) 1 true else qOf w, pk, 0, false, [], w.take 64 ++ b.take (64 - (w.take 64).length), ⟨i, 6 * i, 6, 2, 0, [], []⟩⟩ : PS) = _
  rw [e1, e2]; rfl
theorem feed_one {m : Int} {g : Nat → Nat} {w : Nat → B} {x : Inp} : feedI m (fedL g w) x = fedL g (fun i => wstep m (i : Int) (w i) x) := by
  apply List.ext_getElem?
  intro i
  by_cases hi : i < 3
  · rw [fedL_at hi]
    unfold feedI wstep
    by_cases c : x.Major = m ∧ 0 ≤ x.Part
    · rw [if_pos c, List.getElem?_modify, fedL_at hi]
      by_cases e : x.Part = (i : Int)
      · rw [if_pos ⟨c.1, e⟩, ← fedP_fedS]
        simp [show x.Part.toNat = i by omega]
      · rw [if_neg (fun h => e h.2)]
        simp [show ¬ x.Part.toNat = i by omega]
    · rw [if_neg c, fedL_at hi, if_neg (fun h => c ⟨h.1, by omega⟩)]
  · rw [List.getElem?_eq_none (by rw [feedI_len, fedL_len]; omega), List.getElem?_eq_none (by rw [fedL_len]; omega)]
theorem feed_all {m : Int} {g : Nat → Nat} : ∀ (ins : List Inp) {w : Nat → B}, ins.foldl (feedI m) (fedL g w) = fedL g (fun i => ins.foldl (wstep m (i : Int)) (w i))
  | [], w => rfl
  | x :: ins, w => by
    show ins.foldl (feedI m) (feedI m (fedL g w) x) = _
    rw [feed_one, feed_all ins]; rfl
theorem begZ_P {m : Int} {ins : List Inp} {g : Nat → Nat} : begZ m chs (chs.map Po.Cf.ac) ins (ysP g) = fedL g (fun i => want m i ins) := by
  have h0 : Po.wentI (chs.map Po.Cf.ac) (chs.map Po.Cf.ac).length = [] := rfl
  unfold begZ
  rw [h0, ysP_fed]
  exact feed_all ins
theorem begY_P {m : Int} {ins : List Inp} {g : Nat → Nat} : begY m chs (chs.map Po.Cf.ac) ins (ysP g) = fedL g (fun i => want m i ins) := by
  unfold begY
  rw [begZ_P]
  unfold fedL
  rw [List.map_map]; rfl
theorem begO_P {m : Int} {ins : List Inp} {g : Nat → Nat} {o : Ob} : begO m chs (chs.map Po.Cf.ac) ins (ysP g) o = o := by
  unfold begO
  rw [begZ_P, ysP_len, rdN_succ (fedL_at (i := 2) (by decide)), rdN_succ (fedL_at (i := 1) (by decide)), rdN_succ (fedL_at (i := 0) (by decide))]
  rfl
theorem adP {g : Nat → Nat} : ∀ y ∈ ysP g, AdOK y := fun y hy => by
  unfold ysP at hy
  rw [List.mem_map] at hy
  obtain ⟨i, _, rfl⟩ := hy
  exact fun a ha => absurd ha List.not_mem_nil
theorem tr_0 : (chs.map Po.Cf.ac).map Po.AC.tr = chs.map Po.Cf.ac := rfl
/-- The interrupts that wait behind the reading. -/
def gN (g : Nat → Nat) (w : Nat → B) (i : Nat) : Nat := g i ||| qOf (w i)
theorem take_min64 (w : B) : w.take (min w.length 64) = w.take 64 := by
  by_cases q : w.length ≤ 64
  · rw [show min w.length 64 = w.length by omega, List.take_length, List.take_of_length_le q]
  · rw [show min w.length 64 = 64 by omega]
theorem str_ne {w : B} (h : w ≠ []) : Value.bool (!((strOf (w.take 64)).toList == (⟨#[]⟩ : ByteArray).toList)) = .bool true := by
  rw [show (⟨#[]⟩ : ByteArray) = strOf [] from rfl, strOf_toList, strOf_toList]
  cases w with
  | nil => exact absurd rfl h
  | cons a w => rfl
theorem qOf_lt (w : B) : qOf w < 256 := by unfold qOf; split <;> decide
end Go.Proofs.YtphljkplokjonaaGreat.Io
/- IowinInputs: the walk. -/
namespace Go.Proofs.YtphljkplokjonaaGreat.iowinInputs
open Go Go.Sl Go.RowKit Go.Proofs Go.Proofs.YtphljkplokjonaaGreat.T Go.Proofs.YtphljkplokjonaaGreat.Sp Go.Proofs.YtphljkplokjonaaGreat.Io
open Go.Proofs.YtphljkplokjonaaGreat.Hc (md md_range)
set_option maxRecDepth 100000
set_option maxHeartbeats 4000000 in
theorem walk (W : World) {ma : Int} {a0 : Option Addr} {c0 : Nat} {ins : List Inp} (hins : SlAt W 3 a0 ins.length ((ins.map Inp.cells).flatten)) (hok : ∀ o ∈ ins, o.OK W) :
    Ctr Tryz.prog W 6 [.slice a0 ins.length c0, .int .i64 ma] [old W] (fun _ : Unit => True) (fun _ => .bool true) (fun _ => [old W]) := by
  have hmd := md_range (k := 20) (by decide) ma
  have hwx := wrap_u64_range ma
  obtain ⟨mj, hmj⟩ : ∃ q : Nat, (q : Int) = md 20 ma := ⟨(md 20 ma).toNat, by omega⟩
  have hm20 : mj < 20 := by omega
  have hbl : ∀ x ∈ ins, x.Bytes.length ≤ 140737488351232 := fun x hx => by have := (hok x hx).Bytesm; unfold reachBytes at this; exact this
  refine Ctr.of_body Tryz.func6 rfl Tryz.ntmps6 rfl ?_
  refine CG.seq ?_
  refine CG.region ?_
  refine OG.sg rfl rfl ?_
  refine OG.nil ?_
  refine QG.then ?_
  refine CG.seq ?_
  refine CG.seq ?_
  refine CG.region ?_
  refine OG.callo call18 rfl (Imp.refl _) (works_spec W _) rfl ?_
  rintro ⟨⟩ -
  refine OG.yield (Yield.not rfl) rfl ?_
  refine OG.nil ?_
  refine QG.then ?_
  refine CG.cond_f rfl ?_
  refine CG.skip ?_
  refine QG.then ?_
  refine CG.seq ?_
  refine CG.region ?_
  refine OG.callo call19 rfl (Imp.refl _) (made_spec W _ (ds := []) (da := none) (dc := 0) SlR.nil (by decide) rfl) rfl ?_
  rintro ⟨⟨we, u, b, p, m, f, t, xs, la, lc⟩, σ0⟩ ⟨hxl, L0⟩
  dsimp only at hxl L0 ⊢
  refine OG.sg rfl rfl ?_
  refine OG.nil ?_
  refine QG.then ?_
  refine CG.seq ?_
  refine CG.seq ?_
  refine CG.region ?_
  refine OG.mv rfl rfl ?_
  refine OG.yield (by first | exact Yield.ptr_nil Tryz.underlying48 rfl rfl | exact Yield.nil_nil Tryz.underlying48 rfl rfl) rfl ?_
  refine OG.mv rfl rfl ?_
  refine OG.gy rfl rfl rfl ?_
  refine OG.mv rfl rfl ?_
  refine OG.gy rfl rfl rfl ?_
  refine OG.yield (Yield.len_slice Tryz.underlying70 rfl rfl) rfl ?_
  refine OG.gy rfl rfl rfl ?_
  refine OG.yield (Yield.gtr rfl rfl) rfl ?_
  refine OG.yield Yield.pickA rfl ?_
  refine OG.nil ?_
  refine QG.then ?_
  refine CG.cond rfl (fun hc => ?_) (fun hc => ?_)
  · try replace hc := of_decide_eq_true hc
    refine CG.seq ?_
    refine CG.region ?_
    refine OG.mv rfl rfl ?_
    refine OG.yield (Yield.ptr_nonnil Tryz.underlying48 rfl rfl) rfl ?_
    refine OG.sg rfl rfl ?_
    refine OG.nil ?_
    refine QG.then ?_
    refine CG.ret ?_
    refine QG.pass_ret ?_
    exact QG.ret1 rfl rfl () trivial rfl iM
  · try replace hc := of_decide_eq_false hc
    refine CG.skip ?_
    refine QG.then ?_
    refine CG.seq ?_
    have hil : ins.length ≤ 200 := by omega
    refine CG.pure (fun w hw => SlR.elem_shape (i := 0) (SlR.of_osl (W0 := W) (E := 58) (a := la) (c := lc) eX) PA.len (by decide) (by show 0 < xs.length; omega) w hw) ?_
    rintro ⟨lb, lo, rfl⟩
    refine CG.region ?_
    refine OG.mv rfl rfl ?_
    refine OG.yield (Yield.conv Tryz.underlying24 rfl rfl rfl) rfl ?_
    refine OG.yield (Yield.rem (c := md 20 ma) rfl rfl (by decide) (tmod_pos (by omega) (by omega))) rfl ?_
    refine OG.yield (Yield.conv (c := (mj : Int)) Tryz.underlying3 rfl rfl (by rw [hmj]; exact w64 (by omega) (by omega))) rfl ?_
    refine OG.sg rfl rfl ?_
    refine OG.nil ?_
    refine QG.then ?_
    refine CG.seq ?_
    refine CG.seq ?_
    refine CG.region ?_
    refine OG.sg rfl rfl ?_
    refine OG.nil ?_
    refine QG.then ?_
    refine CG.block ?_
    refine CG.loop (fun y : Nat × (Nat → Nat) × St => y.1 ≤ mj ∧ (∀ k, y.2.1 k < 256) ∧ Lk 64 [8, 8, 8] (rtX xs) (obM 3) (98304 * y.1) y.2.2) (fun y => [(0, .slice a0 ins.length c0), (1, .int .i64 mj), (5, .pointer (some ⟨we, 0, none⟩)), (6, .int .i64 y.1)]) (fun y => wldG ⟨we, u, b, p, m, f, t, xs, some ⟨lb, lo, none⟩, lc⟩ (ysP y.2.1) [] [] (bs0 []) (chs.map Po.Cf.ac) y.2.2 [old W]) (fun y => mj - y.1) (0, fun _ => 0, σ0) ⟨Nat.zero_le _, fun _ => (show 0 < 256 by decide), L0⟩ eS iM ?_
    rintro ⟨i, g, σ⟩ ⟨hi, hg, L⟩
    dsimp only [wldG, wldE, wldL, WG] at hi hg L ⊢
    refine CG.seq ?_
    refine CG.seq ?_
    refine CG.region ?_
    refine OG.mv rfl rfl ?_
    refine OG.mv rfl rfl ?_
    refine OG.yield Yield.lssA rfl ?_
    refine OG.nil ?_
    refine QG.then ?_
    refine CG.cond rfl (fun hc => ?_) (fun hc => ?_)
    · try replace hc := of_decide_eq_true hc
      have him : i < mj := by omega
      refine CG.skip ?_
      refine QG.then ?_
      refine CG.seq ?_
      refine CG.block ?_
      refine CG.seq ?_
      refine CG.draw (.look 0 0 (.look 1 0 (.look 2 0 (.look 3 0 (.look 5 0 (.look 6 0 (.look 7 0 (.look 8 0 (.look 9 0 (.look 10 0 (.eff1 4 false (.eff1 11 false (.done))))))))))))) [4, 11] [] ([wldE ⟨we, u, b, p, m, f, t, xs, some ⟨lb, lo, none⟩, lc⟩]) ([]) mixed (by kernel_rfl) iM (Imp.none _) ?_
      refine DG.look rfl rfl (Yield.move rfl) rfl ?_
      refine DG.look rfl rfl (Yield.nilCheck rfl) rfl ?_
      refine DG.look rfl rfl (Yield.fieldAddr fa64_0 rfl) rfl ?_
      refine DG.look rfl rfl (Yield.load (v := .slice (some ⟨lb, lo, none⟩) xs.length lc) ti59 rfl (Cel.of_blk (b := we) eX rfl)) rfl ?_
      refine DG.look rfl rfl (Yield.move rfl) rfl ?_
      refine DG.look rfl rfl (Yield.nilCheck rfl) rfl ?_
      refine DG.look rfl rfl (Yield.fieldAddr fa64_3 rfl) rfl ?_
      refine DG.look rfl rfl (Yield.load (v := .pointer (some ⟨p, 0, none⟩)) ti62 rfl (Cel.of_blk (b := we) eX rfl)) rfl ?_
      refine DG.look rfl rfl (Yield.move rfl) rfl ?_
      refine DG.look rfl rfl (Yield.move rfl) rfl ?_
      refine DG.eff1 ?_
      refine Chg.callo rfl rfl call25 rfl (Imp.refl _) (channels_spec W _) rfl (fun _ => iM) (fun _ => Imp.refl _) (fun _ => iM) ?_
      rintro b36 -
      refine DG.eff1 ?_
      refine Chg.callo rfl rfl call24 rfl (iM) (begin_spec W (wldL ⟨we, u, b, p, m, f, t, xs, some ⟨lb, lo, none⟩, lc⟩ :: osl 156 5 (some ⟨b36, 0, none⟩) 4 4 ((chs.map Po.Cf.cells).flatten) :: wldE ⟨we, u, b, p, m, f, t, xs, some ⟨lb, lo, none⟩, lc⟩ :: Ua.U u 40 [] [] :: Bk.Bl b (bs0 []) :: [old W]) (p := p) (lc := lc) (cc := 4) (m := m) (f := f) (t := t) (n := 64) (c := 98304 * i) (ic := c0) (ia := a0) (xs := xs) (ys := ysP g) (cfs := chs) (acs := chs.map Po.Cf.ac) (ins := ins) (qs := [8, 8, 8]) (o := obM 3) (σ := σ) (i : Int) (SlR.of_osl (E := 58) (a := some ⟨lb, lo, none⟩) (c := lc) eX) (SlR.of_osl (E := 156) (a := some ⟨b36, 0, none⟩) (c := 4) eX) (hins.old eX) (fun x hx => ⟨RdB.of_slR ((hok x hx).Bytes.old eX) (hok x hx).Bytesc, by have := hbl x hx; omega⟩) (by omega) (by rw [ysP_len]; exact hxl) (by omega) (by decide) (by decide) adP L (by omega)) rfl (fun _ => iM) (fun _ => Imp.refl _) (fun _ => iM) ?_
      rintro σ1 L1
      rw [begO_P] at L1
      rw [begY_P, tr_0]
      dsimp only [WG, wldL, wldE] at L1 ⊢
      have L2 := L1.mono (d := 98304 * (i + 1)) (by rw [hxl]; omega)
      clear L1
      refine DG.done ?_
      refine QG.then ?_
      refine CG.seq ?_
      refine CG.region ?_
      refine OG.sg rfl rfl ?_
      refine OG.nil ?_
      refine QG.then ?_
      refine CG.block ?_
      refine CG.loop (fun q : Nat => q ≤ 3) (fun q => [(0, .slice a0 ins.length c0), (1, .int .i64 mj), (5, .pointer (some ⟨we, 0, none⟩)), (6, .int .i64 i), (7, .int .i64 q)]) (fun q => PL xs (tkd (ysP (gN g fun k => want i k ins)) (fedL g fun k => want i k ins) q) :: wldE ⟨we, u, b, p, m, f, t, xs, some ⟨lb, lo, none⟩, lc⟩ :: wldL ⟨we, u, b, p, m, f, t, xs, some ⟨lb, lo, none⟩, lc⟩ :: Ua.U u 40 [] [] :: Bk.Bl b (bs0 []) :: Po.Po p (chs.map Po.Cf.ac) :: SL m f t xs :: WG m f t 64 [8, 8, 8] σ1 [old W]) (fun q => 3 - q) 0 (Nat.zero_le _) eS iM ?_
      rintro q hq
      dsimp only [WG, wldE, wldL] at hq ⊢
      refine CG.seq ?_
      refine CG.seq ?_
      refine CG.region ?_
      refine OG.mv rfl rfl ?_
      refine OG.yield Yield.lssA rfl ?_
      refine OG.nil ?_
      refine QG.then ?_
      refine CG.cond rfl (fun hc => ?_) (fun hc => ?_)
      · try replace hc := of_decide_eq_true hc
        have hq3 : q < 3 := by omega
        obtain ⟨x, hx⟩ : ∃ x, xs[q]? = some x := ⟨xs[q]'(by omega), List.getElem?_eq_getElem (by omega)⟩
        have hfa := fedL_at (g := g) (w := fun k => want i k ins) hq3
        have hyg := tkd_at (l := ysP (gN g fun k => want i k ins)) (by rw [ysP_len, fedL_len]) hfa
        have hys := tkd_set (l := ysP (gN g fun k => want i k ins)) (z := fedL g fun k => want i k ins) (i := q) (by rw [ysP_len, fedL_len]) (ysP_at hq3)
        refine CG.skip ?_
        refine QG.then ?_
        refine CG.seq ?_
        refine CG.block ?_
        refine CG.seq ?_
        refine CG.region ?_
        refine OG.sg rfl rfl ?_
        refine OG.nil ?_
        refine QG.then ?_
        refine CG.seq ?_
        refine CG.seq ?_
        refine CG.region ?_
        refine OG.sg rfl rfl ?_
        refine OG.nil ?_
        refine QG.then ?_
        refine CG.block ?_
        refine CG.loop (fun j : Nat => j ≤ ins.length) (fun j => [(0, .slice a0 ins.length c0), (1, .int .i64 mj), (5, .pointer (some ⟨we, 0, none⟩)), (6, .int .i64 i), (7, .int .i64 q), (8, .string (strOf (want i q (ins.take j)))), (9, .int .i64 j)]) (fun j => PL xs (tkd (ysP (gN g fun k => want i k ins)) (fedL g fun k => want i k ins) q) :: wldE ⟨we, u, b, p, m, f, t, xs, some ⟨lb, lo, none⟩, lc⟩ :: wldL ⟨we, u, b, p, m, f, t, xs, some ⟨lb, lo, none⟩, lc⟩ :: Ua.U u 40 [] [] :: Bk.Bl b (bs0 []) :: Po.Po p (chs.map Po.Cf.ac) :: SL m f t xs :: WG m f t 64 [8, 8, 8] σ1 [old W]) (fun j => ins.length - j) 0 (Nat.zero_le _) eS iM ?_
        rintro j hj
        dsimp only [WG, wldE, wldL] at hj ⊢
        refine CG.seq ?_
        refine CG.seq ?_
        refine CG.region ?_
        refine OG.mv rfl rfl ?_
        refine OG.mv rfl rfl ?_
        refine OG.yield (Yield.len_slice Tryz.underlying70 rfl rfl) rfl ?_
        refine OG.yield Yield.lssA rfl ?_
        refine OG.nil ?_
        refine QG.then ?_
        refine CG.cond rfl (fun hc => ?_) (fun hc => ?_)
        · try replace hc := of_decide_eq_true hc
          have hj' : j < ins.length := by omega
          obtain ⟨xi, hxi⟩ : ∃ w, ins[j]? = some w := ⟨ins[j], by simp⟩
          have hko := hok xi (List.mem_of_getElem? hxi)
          have hxl2 := hbl xi (List.mem_of_getElem? hxi)
          have hws : want i q (ins.take (j + 1)) = wstep i q (want i q (ins.take j)) xi := fold_succ hxi
          have hwl : (want i q (ins.take j)).length ≤ (ins.take j).length * 140737488351232 := want_len (fun y hy => hbl y (List.mem_of_mem_take hy))
          have hwl2 : (want i q (ins.take j)).length ≤ 200 * 140737488351232 := Nat.le_trans hwl (Nat.mul_le_mul_right _ (by rw [List.length_take]; omega))
          refine CG.pure (fun w hw => (hins.old (G := PL xs (tkd (ysP (gN g fun k => want i k ins)) (fedL g fun k => want i k ins) q) :: wldE ⟨we, u, b, p, m, f, t, xs, some ⟨lb, lo, none⟩, lc⟩ :: wldL ⟨we, u, b, p, m, f, t, xs, some ⟨lb, lo, none⟩, lc⟩ :: Ua.U u 40 [] [] :: Bk.Bl b (bs0 []) :: Po.Po p (chs.map Po.Cf.ac) :: SL m f t xs :: WG m f t 64 [8, 8, 8] σ1 [old W]) eX).elem_shape Inp.len (by decide) hj' w hw) ?_
          rintro ⟨ib, io, rfl⟩
          have hrow : ∀ {G R : List HProp}, Ext G (old W) R → Row W G ib (io + j * 3) (Inp.cells xi) := fun x => (hins.old x).elem Inp.len hxi
          refine CG.skip ?_
          refine QG.then ?_
          refine CG.seq ?_
          refine CG.block ?_
          refine CG.seq ?_
          rcases (show xi.Major ≠ i ∨ (xi.Major = i ∧ xi.Part ≠ q) ∨ (xi.Major = i ∧ xi.Part = q) by omega) with c | c | c
          · skip
            rw [show wstep i q (want i q (ins.take j)) xi = want i q (ins.take j) from if_neg (fun h => c h.1)] at hws
            refine CG.region ?_
            refine OG.mv rfl rfl ?_
            refine OG.mv rfl rfl ?_
            refine OG.yield (Yield.index_slice Tryz.underlying70 ti75 rfl rfl (by omega) (by omega)) rfl ?_
            refine OG.yield (Yield.fieldAddr fa75_0 rfl) rfl ?_
            refine OG.yield (Yield.load (v := .int .i64 xi.Major) ti3 rfl ((hrow eX) 0 _ rfl)) rfl ?_
            refine OG.mv rfl rfl ?_
            refine OG.yield (Yield.as (Yield.eql rfl rfl) (v' := .bool false) (bF c)) rfl ?_
            refine OG.mv rfl rfl ?_
            refine OG.gn rfl rfl rfl rfl rfl ?_
            refine OG.gn rfl rfl rfl rfl rfl ?_
            refine OG.gn rfl rfl rfl rfl rfl ?_
            refine OG.gn rfl rfl rfl rfl rfl ?_
            refine OG.gn rfl rfl rfl rfl rfl ?_
            refine OG.gn rfl rfl rfl rfl rfl ?_
            refine OG.gn rfl rfl rfl rfl rfl ?_
            refine OG.yield Yield.pickA rfl ?_
            refine OG.nil ?_
            refine QG.then ?_
            refine CG.cond_f rfl ?_
            refine CG.skip ?_
            refine QG.block_normal ?_
            refine QG.then ?_
            refine CG.region ?_
            refine OG.mv rfl rfl ?_
            refine OG.yield (Yield.add rfl rfl (w64 (by omega) (by omega))) rfl ?_
            refine OG.sg rfl rfl ?_
            refine OG.nil ?_
            exact QG.next (j + 1) (by omega) (by omega) (by rw [hws]; exact eS) iM
          · skip
            rw [show wstep i q (want i q (ins.take j)) xi = want i q (ins.take j) from if_neg (fun h => c.2 h.2)] at hws
            refine CG.region ?_
            refine OG.mv rfl rfl ?_
            refine OG.mv rfl rfl ?_
            refine OG.yield (Yield.index_slice Tryz.underlying70 ti75 rfl rfl (by omega) (by omega)) rfl ?_
            refine OG.yield (Yield.fieldAddr fa75_0 rfl) rfl ?_
            refine OG.yield (Yield.load (v := .int .i64 xi.Major) ti3 rfl ((hrow eX) 0 _ rfl)) rfl ?_
            refine OG.mv rfl rfl ?_
            refine OG.yield (Yield.as (Yield.eql rfl rfl) (v' := .bool true) (bT c.1)) rfl ?_
            refine OG.mv rfl rfl ?_
            refine OG.gy rfl rfl rfl ?_
            refine OG.mv rfl rfl ?_
            refine OG.gy rfl rfl rfl ?_
            refine OG.mv rfl rfl ?_
            refine OG.gy rfl rfl rfl ?_
            refine OG.yield (Yield.index_slice Tryz.underlying70 ti75 rfl rfl (by omega) (by omega)) rfl ?_
            refine OG.gy rfl rfl rfl ?_
            refine OG.yield (Yield.fieldAddr fa75_1 rfl) rfl ?_
            refine OG.gy rfl rfl rfl ?_
            refine OG.yield (Yield.load (v := .int .i64 xi.Part) ti3 rfl ((hrow eX) 1 _ rfl)) rfl ?_
            refine OG.gy rfl rfl rfl ?_
            refine OG.mv rfl rfl ?_
            refine OG.gy rfl rfl rfl ?_
            refine OG.yield (Yield.as (Yield.eql rfl rfl) (v' := .bool false) (bF c.2)) rfl ?_
            refine OG.yield Yield.pickA rfl ?_
            refine OG.nil ?_
            refine QG.then ?_
            refine CG.cond_f rfl ?_
            refine CG.skip ?_
            refine QG.block_normal ?_
            refine QG.then ?_
            refine CG.region ?_
            refine OG.mv rfl rfl ?_
            refine OG.yield (Yield.add rfl rfl (w64 (by omega) (by omega))) rfl ?_
            refine OG.sg rfl rfl ?_
            refine OG.nil ?_
            exact QG.next (j + 1) (by omega) (by omega) (by rw [hws]; exact eS) iM
          · skip
            rw [show wstep i q (want i q (ins.take j)) xi = want i q (ins.take j) ++ xi.Bytes from if_pos c] at hws
            refine CG.region ?_
            refine OG.mv rfl rfl ?_
            refine OG.mv rfl rfl ?_
            refine OG.yield (Yield.index_slice Tryz.underlying70 ti75 rfl rfl (by omega) (by omega)) rfl ?_
            refine OG.yield (Yield.fieldAddr fa75_0 rfl) rfl ?_
            refine OG.yield (Yield.load (v := .int .i64 xi.Major) ti3 rfl ((hrow eX) 0 _ rfl)) rfl ?_
            refine OG.mv rfl rfl ?_
            refine OG.yield (Yield.as (Yield.eql rfl rfl) (v' := .bool true) (bT c.1)) rfl ?_
            refine OG.mv rfl rfl ?_
            refine OG.gy rfl rfl rfl ?_
            refine OG.mv rfl rfl ?_
            refine OG.gy rfl rfl rfl ?_
            refine OG.mv rfl rfl ?_
            refine OG.gy rfl rfl rfl ?_
            refine OG.yield (Yield.index_slice Tryz.underlying70 ti75 rfl rfl (by omega) (by omega)) rfl ?_
            refine OG.gy rfl rfl rfl ?_
            refine OG.yield (Yield.fieldAddr fa75_1 rfl) rfl ?_
            refine OG.gy rfl rfl rfl ?_
            refine OG.yield (Yield.load (v := .int .i64 xi.Part) ti3 rfl ((hrow eX) 1 _ rfl)) rfl ?_
            refine OG.gy rfl rfl rfl ?_
            refine OG.mv rfl rfl ?_
            refine OG.gy rfl rfl rfl ?_
            refine OG.yield (Yield.as (Yield.eql rfl rfl) (v' := .bool true) (bT c.2)) rfl ?_
            refine OG.yield Yield.pickA rfl ?_
            refine OG.nil ?_
            refine QG.then ?_
            refine CG.cond_t rfl ?_
            refine CG.region ?_
            refine OG.mv rfl rfl ?_
            refine OG.mv rfl rfl ?_
            refine OG.mv rfl rfl ?_
            refine OG.yield (Yield.index_slice Tryz.underlying70 ti75 rfl rfl (by omega) (by omega)) rfl ?_
            refine OG.yield (Yield.fieldAddr fa75_2 rfl) rfl ?_
            refine OG.yield (Yield.load (v := .slice xi.Bytesa xi.Bytes.length xi.Bytesc) ti32 rfl ((hrow eX) 2 _ rfl)) rfl ?_
            refine OG.yield (Yield.toStr (bs := xi.Bytes) Tryz.underlying32 Tryz.underlying9 Tryz.underlying5 rfl (hko.Bytes.old eX)) rfl ?_
            refine OG.yield (Yield.str_cat (a := want i q (ins.take j)) (b := xi.Bytes) rfl rfl (by omega)) rfl ?_
            refine OG.sg rfl rfl ?_
            refine OG.nil ?_
            refine QG.block_normal ?_
            refine QG.then ?_
            refine CG.region ?_
            refine OG.mv rfl rfl ?_
            refine OG.yield (Yield.add rfl rfl (w64 (by omega) (by omega))) rfl ?_
            refine OG.sg rfl rfl ?_
            refine OG.nil ?_
            exact QG.next (j + 1) (by omega) (by omega) (by rw [hws]; exact eS) iM
        · try replace hc := of_decide_eq_false hc
          refine CG.exit ?_
          refine QG.pass_exit ?_
          refine QG.pass_exit ?_
          refine QG.block_exit ?_
          refine QG.then ?_
          refine CG.seq ?_
          obtain rfl : j = ins.length := by omega
          rw [List.take_length]
          refine CG.imp (pl_open hx hyg) ?_
          refine CG.region ?_
          refine OG.mv rfl rfl ?_
          refine OG.mv rfl rfl ?_
          refine OG.yield (Yield.as (Yield.len_string Tryz.underlying9 rfl rfl) (v' := .int .i64 (want i q ins).length) rfl) rfl ?_
          refine OG.yield (Yield.as (Yield.min2 rfl rfl) (v' := .int .i64 ((min (want i q ins).length 64 : Nat))) (by congr 1; omega)) rfl ?_
          refine OG.yield (Yield.as (Yield.slice_str (bs := want i q ins) Tryz.underlying9 rfl (Bound.some rfl) (by omega) (by omega)) (v' := .string (strOf ((want i q ins).take 64))) (by rw [Int.toNat_natCast, take_min64])) rfl ?_
          refine OG.sg rfl rfl ?_
          refine OG.nil ?_
          refine QG.then ?_
          refine CG.seq ?_
          refine CG.region ?_
          refine OG.mv rfl rfl ?_
          refine OG.yield (Yield.nilCheck rfl) rfl ?_
          refine OG.yield (Yield.fieldAddr fa64_0 rfl) rfl ?_
          refine OG.yield (Yield.load (v := .slice (some ⟨lb, lo, none⟩) xs.length lc) ti59 rfl (Cel.of_blk (b := we) eX rfl)) rfl ?_
          refine OG.mv rfl rfl ?_
          refine OG.yield (Yield.index_slice Tryz.underlying59 ti58 rfl rfl (by omega) (by omega)) rfl ?_
          refine OG.yield (Yield.fieldAddr fa58_2 rfl) rfl ?_
          refine OG.yield (Yield.load (v := .pointer (some ⟨x.k, 0, none⟩)) ti55 rfl (by rw [show lo + (q : Int).toNat * 4 = lo + q * 4 by omega]; exact ((SlR.of_osl (E := 58) (a := some ⟨lb, lo, none⟩) (c := lc) eX).elem PA.len hx) 2 _ rfl)) rfl ?_
          refine OG.callo call26 rfl (iM) (Vc.readAll W _ (g := x.k) (out := []) (inn := (want i q ins).take 64) 64 (by rw [List.length_take]; omega)) rfl ?_
          rintro ⟨ja, jc⟩ -
          dsimp only
          refine OG.sg rfl rfl ?_
          refine OG.nil ?_
          refine QG.then ?_
          refine CG.seq ?_
          rcases (show want i q ins = [] ∨ want i q ins ≠ [] from Decidable.em _) with c | c
          · skip
            have hqv : qOf (want i q ins) = 0 := by unfold qOf; rw [if_pos c]
            refine CG.region ?_
            refine OG.mv rfl rfl ?_
            refine OG.yield (Yield.toStr (bs := (want i q ins).take 64) Tryz.underlying32 Tryz.underlying9 Tryz.underlying5 rfl (SlR.of_osl (E := 5) (a := ja) (c := jc) eX)) rfl ?_
            refine OG.mv rfl rfl ?_
            refine OG.yield (Yield.str_samen rfl rfl) rfl ?_
            refine OG.mv rfl rfl ?_
            refine OG.gy rfl rfl rfl ?_
            refine OG.mv rfl rfl ?_
            refine OG.gy rfl rfl rfl ?_
            refine OG.yield (Yield.nilCheck rfl) rfl ?_
            refine OG.gy rfl rfl rfl ?_
            refine OG.yield (Yield.fieldAddr fa64_0 rfl) rfl ?_
            refine OG.gy rfl rfl rfl ?_
            refine OG.yield (Yield.load (v := .slice (some ⟨lb, lo, none⟩) xs.length lc) ti59 rfl (Cel.of_blk (b := we) eX rfl)) rfl ?_
            refine OG.gy rfl rfl rfl ?_
            refine OG.mv rfl rfl ?_
            refine OG.gy rfl rfl rfl ?_
            refine OG.yield (Yield.index_slice Tryz.underlying59 ti58 rfl rfl (by omega) (by omega)) rfl ?_
            refine OG.gy rfl rfl rfl ?_
            refine OG.yield (Yield.fieldAddr fa58_1 rfl) rfl ?_
            refine OG.gy rfl rfl rfl ?_
            refine OG.yield (Yield.load (v := .pointer (some ⟨x.v, 0, none⟩)) ti54 rfl (by rw [show lo + (q : Int).toNat * 4 = lo + q * 4 by omega]; exact ((SlR.of_osl (E := 58) (a := some ⟨lb, lo, none⟩) (c := lc) eX).elem PA.len hx) 1 _ rfl)) rfl ?_
            refine OG.gy rfl rfl rfl ?_
            refine OG.mv rfl rfl ?_
            refine OG.gy rfl rfl rfl ?_
            refine OG.callo call27 rfl (iM) (Vi.release_spec W _ (v := x.v) (q := qOf (want i q ins)) (p := g q) (a := 0) (s := false) (i : Int) (qOf_lt _) (hg q)) rfl ?_
            rintro ⟨⟩ -
            rw [show Vi.due 0 false (i : Int) = false from rfl]
            simp only [Bool.false_eq_true, if_false, Bool.false_and]
            refine OG.gy rfl rfl rfl ?_
            refine OG.yield (Yield.shr (m := 1) (c := 0) rfl rfl rfl (by decide) (by rw [hqv]; rfl)) rfl ?_
            refine OG.gy rfl rfl rfl ?_
            refine OG.yield (Yield.bitop (c := 0) rfl rfl rfl rfl) rfl ?_
            refine OG.gy rfl rfl rfl ?_
            refine OG.yield (Yield.as (Yield.eql rfl rfl) (v' := .bool false) (bF (by decide))) rfl ?_
            refine OG.gy rfl rfl rfl ?_
            refine OG.mv rfl rfl ?_
            refine OG.gy rfl rfl rfl ?_
            refine OG.yield (Yield.as (Yield.str_neq rfl rfl) (v' := .bool false) (by rw [c, show (⟨#[]⟩ : ByteArray) = strOf [] from rfl, strOf_toList, strOf_toList]; rfl)) rfl ?_
            refine OG.gy rfl rfl rfl ?_
            refine OG.yield (Yield.bool_samen Tryz.underlying4 rfl rfl) rfl ?_
            refine OG.yield Yield.pickA rfl ?_
            refine OG.nil ?_
            refine QG.then ?_
            refine CG.cond_f rfl ?_
            refine CG.skip ?_
            refine QG.block_normal ?_
            refine QG.then ?_
            refine CG.imp (Imp.trans iM (pl_shut (xs := xs) { y0 q with p := gN g (fun k => want i k ins) q } hx hyg)) ?_
            rw [hys]
            refine CG.region ?_
            refine OG.mv rfl rfl ?_
            refine OG.yield (Yield.add rfl rfl (w64 (by omega) (by omega))) rfl ?_
            refine OG.sg rfl rfl ?_
            refine OG.nil ?_
            exact QG.next (q + 1) (by omega) (by omega) eS iM
          · skip
            have hqv : qOf (want i q ins) = 2 := by unfold qOf; rw [if_neg c]
            refine CG.region ?_
            refine OG.mv rfl rfl ?_
            refine OG.yield (Yield.toStr (bs := (want i q ins).take 64) Tryz.underlying32 Tryz.underlying9 Tryz.underlying5 rfl (SlR.of_osl (E := 5) (a := ja) (c := jc) eX)) rfl ?_
            refine OG.mv rfl rfl ?_
            refine OG.yield (Yield.str_samen rfl rfl) rfl ?_
            refine OG.mv rfl rfl ?_
            refine OG.gy rfl rfl rfl ?_
            refine OG.mv rfl rfl ?_
            refine OG.gy rfl rfl rfl ?_
            refine OG.yield (Yield.nilCheck rfl) rfl ?_
            refine OG.gy rfl rfl rfl ?_
            refine OG.yield (Yield.fieldAddr fa64_0 rfl) rfl ?_
            refine OG.gy rfl rfl rfl ?_
            refine OG.yield (Yield.load (v := .slice (some ⟨lb, lo, none⟩) xs.length lc) ti59 rfl (Cel.of_blk (b := we) eX rfl)) rfl ?_
            refine OG.gy rfl rfl rfl ?_
            refine OG.mv rfl rfl ?_
            refine OG.gy rfl rfl rfl ?_
            refine OG.yield (Yield.index_slice Tryz.underlying59 ti58 rfl rfl (by omega) (by omega)) rfl ?_
            refine OG.gy rfl rfl rfl ?_
            refine OG.yield (Yield.fieldAddr fa58_1 rfl) rfl ?_
            refine OG.gy rfl rfl rfl ?_
            refine OG.yield (Yield.load (v := .pointer (some ⟨x.v, 0, none⟩)) ti54 rfl (by rw [show lo + (q : Int).toNat * 4 = lo + q * 4 by omega]; exact ((SlR.of_osl (E := 58) (a := some ⟨lb, lo, none⟩) (c := lc) eX).elem PA.len hx) 1 _ rfl)) rfl ?_
            refine OG.gy rfl rfl rfl ?_
            refine OG.mv rfl rfl ?_
            refine OG.gy rfl rfl rfl ?_
            refine OG.callo call27 rfl (iM) (Vi.release_spec W _ (v := x.v) (q := qOf (want i q ins)) (p := g q) (a := 0) (s := false) (i : Int) (qOf_lt _) (hg q)) rfl ?_
            rintro ⟨⟩ -
            rw [show Vi.due 0 false (i : Int) = false from rfl]
            simp only [Bool.false_eq_true, if_false, Bool.false_and]
            refine OG.gy rfl rfl rfl ?_
            refine OG.yield (Yield.shr (m := 1) (c := 1) rfl rfl rfl (by decide) (by rw [hqv]; rfl)) rfl ?_
            refine OG.gy rfl rfl rfl ?_
            refine OG.yield (Yield.bitop (c := 1) rfl rfl rfl rfl) rfl ?_
            refine OG.gy rfl rfl rfl ?_
            refine OG.yield (Yield.as (Yield.eql rfl rfl) (v' := .bool true) (bT rfl)) rfl ?_
            refine OG.gy rfl rfl rfl ?_
            refine OG.mv rfl rfl ?_
            refine OG.gy rfl rfl rfl ?_
            refine OG.yield (Yield.as (Yield.str_neq rfl rfl) (v' := .bool true) (str_ne c)) rfl ?_
            refine OG.gy rfl rfl rfl ?_
            refine OG.yield (Yield.bool_samen Tryz.underlying4 rfl rfl) rfl ?_
            refine OG.yield Yield.pickA rfl ?_
            refine OG.nil ?_
            refine QG.then ?_
            refine CG.cond_f rfl ?_
            refine CG.skip ?_
            refine QG.block_normal ?_
            refine QG.then ?_
            refine CG.imp (Imp.trans iM (pl_shut (xs := xs) { y0 q with p := gN g (fun k => want i k ins) q } hx hyg)) ?_
            rw [hys]
            refine CG.region ?_
            refine OG.mv rfl rfl ?_
            refine OG.yield (Yield.add rfl rfl (w64 (by omega) (by omega))) rfl ?_
            refine OG.sg rfl rfl ?_
            refine OG.nil ?_
            exact QG.next (q + 1) (by omega) (by omega) eS iM
      · try replace hc := of_decide_eq_false hc
        refine CG.exit ?_
        refine QG.pass_exit ?_
        refine QG.pass_exit ?_
        refine QG.block_exit ?_
        refine QG.block_normal ?_
        refine QG.then ?_
        refine CG.region ?_
        refine OG.mv rfl rfl ?_
        refine OG.yield (Yield.add rfl rfl (w64 (by omega) (by omega))) rfl ?_
        refine OG.sg rfl rfl ?_
        refine OG.nil ?_
        obtain rfl : q = 3 := by omega
        rw [tkd_all (by rw [ysP_len, fedL_len]) (by rw [fedL_len]; exact Nat.le_refl _)]
        exact QG.next (i + 1, gN g fun k => want i k ins, σ1) ⟨by simp only; omega, fun k => Vi.or_lt (hg k) (qOf_lt _), L2⟩ (by simp only; omega) eS iM
    · try replace hc := of_decide_eq_false hc
      refine CG.exit ?_
      refine QG.pass_exit ?_
      refine QG.pass_exit ?_
      refine QG.block_exit ?_
      refine QG.then ?_
      refine CG.seq ?_
      refine CG.region ?_
      refine OG.sg rfl rfl ?_
      refine OG.nil ?_
      refine QG.then ?_
      refine CG.ret ?_
      exact QG.ret1 rfl rfl () trivial rfl iM
open Go.ChangeShapes Go.WideShapes Go.ChangeAt
theorem own : ownKnob Tryz.prog.godebug = none := by kernel_rfl
theorem laid : laidOutB Tryz.prog = true := by kernel_rfl
set_option maxRecDepth 100000 in
theorem lifted (os : Os) (started : os.Started) (H : Type) (enc : TypeId × Value → H) :
    ReturnsInHanded {} Tryz.checked os 6 .any (Rows.iowinInputsSpec.pre6 enc Tryz.prog Tryz.f6 Rows.iowinInputsRow.domain false) (Rows.iowinInputsSpec.post enc Tryz.prog Tryz.f6 false true false false) := by
  refine returnsInHanded_of_change_sized (C := Tryz.checked) own started (by kernel_rfl) Tryz.func6
    (ChangeSpec.witness6 (enc := enc) (C := Tryz.checked) false ⟨#[], #[.slice none 0 0, .int .i64 0], []⟩ 8 (by kernel_rfl) (by kernel_rfl) (by kernel_rfl) (by kernel_rfl)) ?_
  intro W base args ds gs before hval0 hW hcnd hsz0 _
  have hsz : (DataW.weightsEach Tryz.prog (Tryz.f6.params.toList ++ Rows.iowinInputsSpec.plain.varTypes Tryz.prog) (ds ++ gs)).all (· ≤ reachBytes) = true := hsz0
  have hval : ∀ (j : Nat) t v, Tryz.f6.params[j]? = some t → args[j]? = some v → Value.okWide Tryz.prog W .any base t v := hval0
  have hW' := hW
  obtain ⟨p, q, hA0, hV, rfl, hfz, hnd⟩ := hW
  have hA : DataW.TrodAll enc Tryz.prog W 0 (fun _ => true) true Tryz.f6.params.toList args.toList ds p := hA0
  rw [Tryz.params6] at hA hval hsz
  obtain ⟨v0, vs0, d0, ds0, p0, q0, hargs, rfl, rfl, h0, r0⟩ := trodAll_cons hA
  obtain ⟨v1, vs1, d1, ds1, p1, q1, rfl, rfl, rfl, h1, r1⟩ := trodAll_cons r0
  obtain ⟨rfl, rfl, rfl⟩ := trodAll_nil r1
  obtain rfl : args = #[v0, v1] := by cases args; simp_all
  obtain ⟨rfl, rfl⟩ := trodVars_none hV
  have k0 := weights_le hsz 0 (t := 70) (d := d0) rfl rfl
  have s0 := Opn.param Tryz.underlying70 (Inp.list W) (hval 0 70 v0 rfl rfl) h0 k0
  obtain ⟨x0, c0, ins, e0, l0, ok0, s0, m0⟩ := s0
  cases e0
  obtain ⟨a1, rfl, rfl, rfl, w1⟩ := open_int Tryz.underlying3 (hval 1 3 v1 rfl rfl) h1
  clear hA0 hval0 hsz0 hsz
  refine ((walk W s0 ok0) W (Sat.start W)).mono fun e W' he => ?_
  obtain ⟨_, _, he, hs⟩ := he
  subst he
  exact ⟨_, rfl, law_post laid (params_ok (by kernel_rfl)) rfl Tryz.underlying4 hW' rfl rfl (Sat.below eX hs)⟩
theorem over : Rows.iowinInputsRow.holds Tryz.pinned (OpenSpec.ofChange Rows.iowinInputsSpec) :=
  OpenClaim.holds_of_wide 6 Tryz.f6 rfl rfl rfl rfl rfl rfl rfl ⟨rfl, rfl, rfl, rfl, rfl⟩ rfl rfl rfl rfl rfl (by kernel_rfl) Tryz.func6 (by kernel_rfl)
    (of_decide_eq_true (by kernel_rfl)) (by unfold Func.isWrapper; first | (rw [if_pos (by decide +kernel)]; kernel_rfl) | (rw [if_neg (by decide +kernel)]; exact ⟨rfl, rfl⟩))
    (fun os started H enc _ => lifted os started H enc)
theorem proved : Rows.IowinInputsSaid := over
#print axioms proved
end Go.Proofs.YtphljkplokjonaaGreat.iowinInputs
