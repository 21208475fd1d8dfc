/- HcallRefused: a call that is refused leaves everything as it was: the law returns true at every input and changes nothing that was there. No conditions. -/
import Derived.Test.YtphljkplokjonaaGreatRe5
set_option linter.unusedSimpArgs false
set_option linter.unusedVariables false
/- HcallCosts. -/
namespace Go.Proofs.YtphljkplokjonaaGreat.Hc
open Go Go.Sl Go.RowKit Go.Proofs Go.Proofs.YtphljkplokjonaaGreat.T Go.Proofs.YtphljkplokjonaaGreat.Sp
set_option maxRecDepth 100000
theorem HAct.reg {op : HAct} {j : Nat} {v : Value} (h : op.g.v[j]? = some v) : op.cells[1 + j]? = some v := by
  have hj : j < op.g.v.length := by rcases List.getElem?_eq_some_iff.1 h with ⟨hj, _⟩; exact hj
  unfold HAct.cells
  rw [Nat.add_comm, List.getElem?_cons_succ, List.getElem?_append_left hj]; exact h
/-- The registers with a nought in front. -/
def Rg.z (g : Rg) : Rg := ⟨g.rs.set 0 0, g.fs, g.pc, by simp [g.lr], g.lf⟩
theorem Rg.z_get {g : Rg} (h : g.OK) {i : Nat} (h0 : 0 < i) (hi : i < 16) : ∃ z : Nat, g.z.rs[i]? = some (z : Int) ∧ z < 4294967296 := by
  obtain ⟨z, e, hz⟩ := Rg.get h hi
  exact ⟨z, by show (g.rs.set 0 0)[i]? = _; rw [List.getElem?_set_ne (by omega)]; exact e, hz⟩
theorem Rg.f {g : Rg} {j : Nat} {v : Value} (h : (g.fs.map (Value.int .u64))[j]? = some v) : g.v[16 + j]? = some v := by
  have hj : j < (g.fs.map (Value.int .u64)).length := by rcases List.getElem?_eq_some_iff.1 h with ⟨hj, _⟩; exact hj
  unfold Rg.v
  rw [List.append_assoc, List.getElem?_append_right (by simp [g.lr]), List.getElem?_append_left (by simp [g.lr] at hj ⊢; omega)]
  simpa [g.lr] using h
theorem Rg.rr {g : Rg} {j : Nat} {v : Value} (h : (g.rs.map (Value.int .u32))[j]? = some v) : g.v[j]? = some v := by
  have hj : j < (g.rs.map (Value.int .u32)).length := by rcases List.getElem?_eq_some_iff.1 h with ⟨hj, _⟩; exact hj
  unfold Rg.v
  rw [List.append_assoc, List.getElem?_append_left hj]; exact h
/-- The registers after the answer has been taken out again. -/
theorem back_ne {g : Rg} {n : Nat} {tm v z1 : Int} (h1 : g.rs[1]? = some z1) (hn : n ≠ 11) : (g.ans n tm v).rs.set 1 z1 = g.rs := by
  show ((if n = 11 then _ else g.rs).set 1 v).set 1 z1 = _
  rw [if_neg hn, List.set_set]
  apply List.ext_getElem?
  intro j
  by_cases hj : 1 = j
  · subst hj; rw [List.getElem?_set_self (by rcases List.getElem?_eq_some_iff.1 h1 with ⟨hj, _⟩; exact hj), h1]
  · rw [List.getElem?_set_ne hj]
theorem back_eq {g : Rg} {n : Nat} {tm v z1 z2 : Int} (hn : n = 11) (h1 : g.rs[1]? = some z1) (h2 : g.rs[2]? = some z2) : ((g.ans n tm v).rs.set 1 z1).set 2 z2 = g.rs := by
  subst hn
  show ((((if 11 = 11 then g.rs.set 2 _ else g.rs).set 1 v).set 1 z1).set 2 z2) = _
  rw [if_pos rfl, List.set_set]
  apply List.ext_getElem?
  intro j
  have l1 := g.lr
  by_cases hj : 2 = j
  · subst hj; rw [List.getElem?_set_self (by simp; omega), h2]
  · rw [List.getElem?_set_ne hj]
    by_cases hj1 : 1 = j
    · subst hj1; rw [List.getElem?_set_self (by simp; omega), h1]
    · rw [List.getElem?_set_ne hj1, List.getElem?_set_ne hj]
end Go.Proofs.YtphljkplokjonaaGreat.Hc
namespace Go.Proofs.YtphljkplokjonaaGreat.hcallCosts
open Go Go.Sl Go.RowKit Go.Proofs Go.Proofs.YtphljkplokjonaaGreat.T Go.Proofs.YtphljkplokjonaaGreat.Sp Go.Proofs.YtphljkplokjonaaGreat.Hc
set_option maxRecDepth 100000
set_option maxHeartbeats 8000000 in
theorem walk (W : World) {qu : Int} {a0 : Option Addr} {c0 : Nat} {ops : List HAct} (hops : SlAt W 28 a0 ops.length ((ops.map HAct.cells).flatten)) (hok : ∀ o ∈ ops, o.OK W) :
    Ctr Tryz.prog W 10 [.int .i64 qu, .slice a0 ops.length c0] [old W] (fun _ : Unit => True) (fun _ => .bool true) (fun _ => [old W]) := by
  have hmd := md_range (k := 30) (by decide) qu
  have hwx := wrap_u64_range qu
  obtain ⟨q0, hq0⟩ : ∃ q0, q0 = 1 + md 30 qu := ⟨_, rfl⟩
  have hq1 : 1 ≤ q0 ∧ q0 ≤ 30 := by omega
  refine Ctr.of_body Tryz.func10 rfl Tryz.ntmps10 rfl ?_
  refine CG.seq ?_
  refine CG.region ?_
  refine OG.sg rfl rfl ?_
  refine OG.nil ?_
  refine QG.then ?_
  refine CG.seq ?_
  refine CG.seq ?_
  refine CG.region ?_
  refine OG.callo call12 rfl (Imp.refl _) (works_spec W _) rfl ?_
  rintro ⟨⟩ -
  refine OG.yield (Yield.not rfl) rfl ?_
  refine OG.nil ?_
  refine QG.then ?_
  refine CG.cond_f rfl ?_
  refine CG.skip ?_
  refine QG.then ?_
  refine CG.seq ?_
  refine CG.region ?_
  refine OG.mv rfl rfl ?_
  refine OG.yield (Yield.conv Tryz.underlying24 rfl rfl rfl) rfl ?_
  refine OG.yield (Yield.rem (c := md 30 qu) rfl rfl (by decide) (tmod_pos (by omega) (by omega))) rfl ?_
  refine OG.yield (Yield.conv (c := md 30 qu) Tryz.underlying3 rfl rfl (w64 (by omega) (by omega))) rfl ?_
  refine OG.yield (Yield.add (c := q0) rfl rfl (by rw [w64 (by omega) (by omega), hq0])) rfl ?_
  refine OG.sg rfl rfl ?_
  refine OG.nil ?_
  refine QG.then ?_
  refine CG.seq ?_
  refine CG.region ?_
  refine OG.mv rfl rfl ?_
  refine OG.callo call13 rfl (Imp.refl _) (program_spec W _ (q := q0) hq1.1 hq1.2) rfl ?_
  rintro ⟨x, σ⟩ L0
  have I0 := HI.new (x := x) hq1.1 hq1.2 L0
  clear L0
  dsimp only at I0 ⊢
  refine OG.sg rfl rfl ?_
  refine OG.nil ?_
  refine QG.then ?_
  refine CG.seq ?_
  refine CG.seq ?_
  refine CG.region ?_
  refine OG.mv rfl rfl ?_
  refine OG.yield (by first | exact Yield.ptr_nil Tryz.underlying25 rfl rfl | exact Yield.nil_nil Tryz.underlying25 rfl rfl) rfl ?_
  refine OG.nil ?_
  refine QG.then ?_
  refine CG.cond_f rfl ?_
  refine CG.skip ?_
  refine QG.then ?_
  refine CG.cut (fun _ : Unit => True) (fun _ => [(5, .pointer (some ⟨x.e, 0, none⟩))]) (fun _ => [old W]) ?_ ?_
  · skip
    refine CG.seq ?_
    refine CG.region ?_
    refine OG.sg rfl rfl ?_
    refine OG.nil ?_
    refine QG.then ?_
    refine CG.block ?_
    refine CG.loop (fun y : Nat × HS × St => y.1 ≤ ops.length ∧ y.1 ≤ 120 ∧ HI q0 x y.2.1 y.2.2 (8192 * y.1)) (fun y => [(1, .slice a0 ops.length c0), (5, .pointer (some ⟨x.e, 0, none⟩)), (6, .int .i64 y.1)]) (fun y => hG x y.2.1 [q0, 8] y.2.2 [old W]) (fun y => ops.length - y.1) (0, HS0, σ) ⟨Nat.zero_le _, Nat.zero_le _, I0⟩ eS iM ?_
    clear I0
    rintro ⟨i, S, σ⟩ ⟨im, im2, hI⟩
    dsimp only at im im2 hI ⊢
    refine CG.seq ?_
    refine CG.seq ?_
    rcases loop_head (i) (ops.length) 120 with hh | hh | hh
    · skip
      refine CG.region ?_
      refine OG.mv rfl rfl ?_
      refine OG.mv rfl rfl ?_
      refine OG.yield (Yield.len_slice Tryz.underlying22 rfl rfl) rfl ?_
      refine OG.yield Yield.lssA rfl ?_
      refine OG.mv rfl rfl ?_
      refine OG.gy rfl rfl rfl ?_
      refine OG.mv rfl rfl ?_
      refine OG.gy rfl rfl rfl ?_
      refine OG.yield Yield.lssA rfl ?_
      refine OG.yield Yield.pickA rfl ?_
      refine OG.nil ?_
      refine QG.then ?_
      refine CG.cond_t rfl ?_
      refine CG.skip ?_
      refine QG.then ?_
      obtain ⟨h1, h2⟩ := hh
      have hget : ops[i]? = some ops[i] := by simp [h1]
      have hko := hok ops[i] (List.getElem_mem h1)
      generalize ops[i] = op at hget hko
      refine CG.pure (fun w hw => (hops.old (G := hG x S [q0, 8] σ [old W]) eX).elem_shape HAct.len (by decide) h1 w hw) ?_
      rintro ⟨b, o, rfl⟩
      refine CG.pure (fun w hw => Vd.d_facts (d := x.d) eX w hw) ?_
      intro hdok
      have hHK := hI.hk (by omega) hdok.told
      have hBm := hko.Bm
      unfold reachBytes at hBm
      have hrow : ∀ {G R : List HProp}, Ext G (old W) R → Row W G b (o + i * 28) (HAct.cells op) := fun x => (hops.old x).elem HAct.len hget
      have hreg : ∀ {G R : List HProp}, Ext G (old W) R → Row W G b (o + i * 28 + 1) op.g.v := fun x j v hj => by have := hrow x (1 + j) v (HAct.reg hj); rw [← Nat.add_assoc] at this; exact this
      obtain ⟨n, g1, hn⟩ := Rg.z_get hko.g (i := 1) (by decide) (by decide)
      obtain ⟨ra, g2, hra⟩ := Rg.z_get hko.g (i := 2) (by decide) (by decide)
      obtain ⟨rb, g3, hrb⟩ := Rg.z_get hko.g (i := 3) (by decide) (by decide)
      obtain ⟨rc, g4, hrc⟩ := Rg.z_get hko.g (i := 4) (by decide) (by decide)
      have hgz : op.g.v.set 0 (.int .u32 0) = op.g.z.v := Rg.set_r _ (by decide) _
      have hw := way_of (qk := q0) (S := S) (R := op.g.z.v) (n := n) (a := ra) (b := rb) (c := rc)
      have hcost := fin_cost hw
      refine CG.seq ?_
      refine CG.block ?_
      refine CG.seq ?_
      refine CG.seq ?_
      refine CG.region ?_
      refine OG.mv rfl rfl ?_
      refine OG.mv rfl rfl ?_
      refine OG.yield (Yield.index_slice Tryz.underlying22 ti34 rfl rfl (by omega) (by omega)) rfl ?_
      refine OG.yield (Yield.fieldAddr fa34_0 rfl) rfl ?_
      refine OG.yield (Yield.load (v := .int .i64 op.Kind) ti3 rfl ((hrow eX) 0 _ (HAct.c0 op))) rfl ?_
      refine OG.yield (Yield.neq rfl rfl) rfl ?_
      refine OG.nil ?_
      refine QG.then ?_
      refine CG.cond rfl (fun hc => ?_) (fun hc => ?_)
      · try replace hc := of_decide_eq_true hc
        refine CG.seq ?_
        refine CG.region ?_
        refine OG.mv rfl rfl ?_
        refine OG.mv rfl rfl ?_
        refine OG.mv rfl rfl ?_
        refine OG.yield (Yield.index_slice Tryz.underlying22 ti34 rfl rfl (by omega) (by omega)) rfl ?_
        refine OG.yield (Yield.load_agg (vs := HAct.cells op) ti34 rfl (HAct.len _) (hrow eX)) rfl ?_
        refine OG.callo call14 rfl (iM) (outside_spec W _ (a := op) hHK (by exact RdB.of_slR (hko.B.old eX) hko.Bc) (by omega) rfl) rfl ?_
        rintro σ2 L2
        refine OG.nil ?_
        refine QG.then ?_
        refine CG.exit ?_
        refine QG.pass_exit ?_
        refine QG.block_exit ?_
        refine QG.then ?_
        refine CG.region ?_
        refine OG.mv rfl rfl ?_
        refine OG.yield (Yield.add rfl rfl (w64 (by omega) (by omega))) rfl ?_
        refine OG.sg rfl rfl ?_
        refine OG.nil ?_
        exact QG.next (i + 1, outs S op, σ2) ⟨by simp only; omega, by simp only; omega, hI.outs op (by rw [show 8192 * (i + 1) = 8192 * i + 8192 by omega]; exact L2)⟩ (by simp only; omega) eS iM
      · try replace hc := of_decide_eq_false hc
        refine CG.skip ?_
        refine QG.then ?_
        refine CG.seq ?_
        refine CG.region ?_
        refine OG.mv rfl rfl ?_
        refine OG.mv rfl rfl ?_
        refine OG.yield (Yield.index_slice Tryz.underlying22 ti34 rfl rfl (by omega) (by omega)) rfl ?_
        refine OG.yield (Yield.fieldAddr fa34_1 rfl) rfl ?_
        refine OG.yield (Yield.load_agg (vs := op.g.v) ti31 rfl (Rg.len _) (hreg eX)) rfl ?_
        refine OG.effd (Eff.alloc ti31) rfl ?_
        rintro b7 -
        refine OG.eff (Eff.storeAll ti31 rfl rfl fC (Rg.len _) (Rg.ones _) rfl) rfl ?_
        rintro ⟨⟩ -
        refine OG.nil ?_
        refine QG.then ?_
        refine CG.seq ?_
        refine CG.region ?_
        refine OG.yield (Yield.fieldAddr fa31_0 rfl) rfl ?_
        refine OG.yield (Yield.index_array Tryz.underlying28 ti27 rfl rfl (by omega) (by omega)) rfl ?_
        refine OG.eff (Eff.store1 ti27 rfl rfl fC rfl (by rw [Rg.len]; decide)) rfl ?_
        rintro ⟨⟩ -
        rw [show (0 + 0 + (0 : Int).toNat * 1) = 0 from rfl, hgz]
        refine OG.nil ?_
        refine QG.then ?_
        refine CG.seq ?_
        refine CG.region ?_
        refine OG.mv rfl rfl ?_
        refine OG.yield (Yield.load_agg (vs := op.g.z.v) ti31 rfl (Rg.len _) (fun j v hj => Cel.of_blk (b := b7) eX (by rw [Nat.zero_add j]; exact hj))) rfl ?_
        refine OG.callo call16 rfl (iM) (Do_c W (blk b7 op.g.z.v 31 :: [old W]) (g := op.g.z) (n := n) (a := ra) (b := rb) (c := rc) hI (by omega) hra hrb hrc hn g1 g2 g3 g4) rfl ?_
        rintro σ2 I2
        generalize hm : fin S op.g.z.v (ocOf q0 S op.g.z.v n ra rb rc) = m at hcost I2 ⊢
        refine OG.mv rfl rfl ?_
        refine OG.yield (Yield.extract rfl rfl) rfl ?_
        refine OG.yield (Yield.extract rfl rfl) rfl ?_
        refine OG.yield (Yield.extract rfl rfl) rfl ?_
        refine OG.effd (Eff.alloc ti31) rfl ?_
        rintro b8 -
        refine OG.eff (Eff.storeAll ti31 rfl rfl fC (Rg.len _) (Rg.ones _) rfl) rfl ?_
        rintro ⟨⟩ -
        refine OG.sg rfl rfl ?_
        refine OG.sg rfl rfl ?_
        refine OG.nil ?_
        refine QG.then ?_
        refine CG.seq ?_
        refine CG.seq ?_
        refine CG.region ?_
        refine OG.mv rfl rfl ?_
        refine OG.yield (Yield.as (Yield.lss rfl rfl) (v' := .bool false) (bF (by omega))) rfl ?_
        refine OG.mv rfl rfl ?_
        refine OG.gy rfl rfl rfl ?_
        refine OG.mv rfl rfl ?_
        refine OG.gy rfl rfl rfl ?_
        refine OG.yield (Yield.as (Yield.gtr rfl rfl) (v' := .bool false) (bF (by omega))) rfl ?_
        refine OG.yield Yield.pickA rfl ?_
        refine OG.mv rfl rfl ?_
        refine OG.gy rfl rfl rfl ?_
        refine OG.yield (Yield.fieldAddr fa31_2 rfl) rfl ?_
        refine OG.gy rfl rfl rfl ?_
        refine OG.yield (Yield.load (v := .int .u32 (w32 (op.g.pc + 4))) ti27 rfl (Cel.of_blk (b := b8) eX (Rg.p _))) rfl ?_
        refine OG.gy rfl rfl rfl ?_
        refine OG.yield (Yield.fieldAddr fa31_2 rfl) rfl ?_
        refine OG.gy rfl rfl rfl ?_
        refine OG.yield (Yield.load (v := .int .u32 op.g.pc) ti27 rfl (Cel.of_blk (b := b7) eX (Rg.p op.g.z))) rfl ?_
        refine OG.gy rfl rfl rfl ?_
        refine OG.yield (Yield.add (c := w32 (op.g.pc + 4)) rfl rfl rfl) rfl ?_
        refine OG.gy rfl rfl rfl ?_
        refine OG.yield (Yield.as (Yield.neq rfl rfl) (v' := .bool false) (bF (not_not_intro rfl))) rfl ?_
        refine OG.yield Yield.pickA rfl ?_
        refine OG.mv rfl rfl ?_
        refine OG.gy rfl rfl rfl ?_
        refine OG.yield (Yield.fieldAddr fa31_1 rfl) rfl ?_
        refine OG.gy rfl rfl rfl ?_
        refine OG.yield (Yield.load_agg (vs := op.g.fs.map (.int .u64)) ti29 rfl (by simp [op.g.lf]) (fun j v hj => Cel.of_blk (b := b8) eX (Rg.f (g := op.g.z.ans n S.time m.ans) hj))) rfl ?_
        refine OG.gy rfl rfl rfl ?_
        refine OG.yield (Yield.fieldAddr fa31_1 rfl) rfl ?_
        refine OG.gy rfl rfl rfl ?_
        refine OG.yield (Yield.load_agg (vs := op.g.fs.map (.int .u64)) ti29 rfl (by simp [op.g.lf]) (fun j v hj => Cel.of_blk (b := b7) eX (Rg.f (g := op.g.z) hj))) rfl ?_
        refine OG.gy rfl rfl rfl ?_
        refine OG.yield (Yield.agg_neq 6 (xs := op.g.fs.map (.int .u64)) (ys := op.g.fs.map (.int .u64)) rfl rfl (by decide) flat29 guard29 (fit8 op.g.lf) (fit8 op.g.lf) (b := false) (by rw [eqC_ints]; rfl)) rfl ?_
        refine OG.yield Yield.pickA rfl ?_
        refine OG.nil ?_
        refine QG.then ?_
        refine CG.cond_f rfl ?_
        refine CG.skip ?_
        refine QG.then ?_
        refine CG.seq ?_
        refine CG.region ?_
        refine OG.yield (Yield.fieldAddr fa31_0 rfl) rfl ?_
        refine OG.yield (Yield.index_array Tryz.underlying28 ti27 rfl rfl (by omega) (by omega)) rfl ?_
        refine OG.yield (Yield.load (v := .int .u32 n) ti27 rfl (Cel.of_blk (b := b7) eX (Rg.r g1))) rfl ?_
        refine OG.sg rfl rfl ?_
        refine OG.nil ?_
        refine QG.then ?_
        refine CG.seq ?_
        refine CG.region ?_
        refine OG.yield (Yield.fieldAddr fa31_0 rfl) rfl ?_
        refine OG.yield (Yield.index_array Tryz.underlying28 ti27 rfl rfl (by omega) (by omega)) rfl ?_
        refine OG.yield (Yield.load (v := .int .u32 n) ti27 rfl (Cel.of_blk (b := b7) eX (Rg.r g1))) rfl ?_
        refine OG.yield (Yield.fieldAddr fa31_0 rfl) rfl ?_
        refine OG.yield (Yield.index_array Tryz.underlying28 ti27 rfl rfl (by omega) (by omega)) rfl ?_
        refine OG.eff (Eff.store1 ti27 rfl rfl fC rfl (by rw [Rg.len]; decide)) rfl ?_
        rintro ⟨⟩ -
        rw [show (0 + 0 + (1 : Int).toNat * 1) = 1 from rfl, Rg.set_r _ (by decide)]
        refine OG.nil ?_
        refine QG.then ?_
        refine CG.seq ?_
        refine CG.seq ?_
        refine CG.region ?_
        refine OG.mv rfl rfl ?_
        refine OG.yield (Yield.eql rfl rfl) rfl ?_
        refine OG.nil ?_
        refine QG.then ?_
        refine CG.cond rfl (fun hc => ?_) (fun hc => ?_)
        · try replace hc := of_decide_eq_true hc
          have hn11 : n = 11 := by omega
          refine CG.region ?_
          refine OG.yield (Yield.fieldAddr fa31_0 rfl) rfl ?_
          refine OG.yield (Yield.index_array Tryz.underlying28 ti27 rfl rfl (by omega) (by omega)) rfl ?_
          refine OG.yield (Yield.load (v := .int .u32 ra) ti27 rfl (Cel.of_blk (b := b7) eX (Rg.r g2))) rfl ?_
          refine OG.yield (Yield.fieldAddr fa31_0 rfl) rfl ?_
          refine OG.yield (Yield.index_array Tryz.underlying28 ti27 rfl rfl (by omega) (by omega)) rfl ?_
          refine OG.eff (Eff.store1 ti27 rfl rfl fC rfl (by rw [Rg.len]; decide)) rfl ?_
          rintro ⟨⟩ -
          rw [show (0 + 0 + (2 : Int).toNat * 1) = 2 from rfl, Rg.set_r _ (by decide)]
          dsimp only
          simp only [back_eq hn11 g1 g2]
          refine OG.nil ?_
          refine QG.then ?_
          refine CG.seq ?_
          refine CG.region ?_
          refine OG.yield (Yield.fieldAddr fa31_0 rfl) rfl ?_
          refine OG.yield (Yield.load_agg (vs := op.g.z.rs.map (.int .u32)) ti28 rfl (by simp [op.g.z.lr]) (fun j v hj => Cel.of_blk (b := b8) eX (by rw [Nat.zero_add]; exact Rg.rr (g := ⟨op.g.z.rs, (op.g.z.ans n S.time m.ans).fs, (op.g.z.ans n S.time m.ans).pc, op.g.z.lr, op.g.z.lf⟩) hj))) rfl ?_
          refine OG.yield (Yield.fieldAddr fa31_0 rfl) rfl ?_
          refine OG.yield (Yield.load_agg (vs := op.g.z.rs.map (.int .u32)) ti28 rfl (by simp [op.g.z.lr]) (fun j v hj => Cel.of_blk (b := b7) eX (by rw [Nat.zero_add]; exact Rg.rr (g := op.g.z) hj))) rfl ?_
          refine OG.yield (Yield.agg_neq 6 (xs := op.g.z.rs.map (.int .u32)) (ys := op.g.z.rs.map (.int .u32)) rfl rfl (by decide) flat28 guard28 (fit16 op.g.z.lr) (fit16 op.g.z.lr) (b := false) (by rw [eqC_ints]; rfl)) rfl ?_
          refine OG.nil ?_
          refine QG.then ?_
          refine CG.cond_f rfl ?_
          refine CG.skip ?_
          refine QG.block_normal ?_
          refine QG.then ?_
          refine CG.region ?_
          refine OG.mv rfl rfl ?_
          refine OG.yield (Yield.add rfl rfl (w64 (by omega) (by omega))) rfl ?_
          refine OG.sg rfl rfl ?_
          refine OG.nil ?_
          exact QG.next (i + 1, m.S, σ2) ⟨by simp only; omega, by simp only; omega, by rw [show 8192 * (i + 1) = 8192 * i + 8192 by omega]; exact I2⟩ (by simp only; omega) eS iM
        · try replace hc := of_decide_eq_false hc
          have hn11 : n ≠ 11 := by omega
          simp only [back_ne g1 hn11]
          refine CG.skip ?_
          refine QG.then ?_
          refine CG.seq ?_
          refine CG.region ?_
          refine OG.yield (Yield.fieldAddr fa31_0 rfl) rfl ?_
          refine OG.yield (Yield.load_agg (vs := op.g.z.rs.map (.int .u32)) ti28 rfl (by simp [op.g.z.lr]) (fun j v hj => Cel.of_blk (b := b8) eX (by rw [Nat.zero_add]; exact Rg.rr (g := ⟨op.g.z.rs, (op.g.z.ans n S.time m.ans).fs, (op.g.z.ans n S.time m.ans).pc, op.g.z.lr, op.g.z.lf⟩) hj))) rfl ?_
          refine OG.yield (Yield.fieldAddr fa31_0 rfl) rfl ?_
          refine OG.yield (Yield.load_agg (vs := op.g.z.rs.map (.int .u32)) ti28 rfl (by simp [op.g.z.lr]) (fun j v hj => Cel.of_blk (b := b7) eX (by rw [Nat.zero_add]; exact Rg.rr (g := op.g.z) hj))) rfl ?_
          refine OG.yield (Yield.agg_neq 6 (xs := op.g.z.rs.map (.int .u32)) (ys := op.g.z.rs.map (.int .u32)) rfl rfl (by decide) flat28 guard28 (fit16 op.g.z.lr) (fit16 op.g.z.lr) (b := false) (by rw [eqC_ints]; rfl)) rfl ?_
          refine OG.nil ?_
          refine QG.then ?_
          refine CG.cond_f rfl ?_
          refine CG.skip ?_
          refine QG.block_normal ?_
          refine QG.then ?_
          refine CG.region ?_
          refine OG.mv rfl rfl ?_
          refine OG.yield (Yield.add rfl rfl (w64 (by omega) (by omega))) rfl ?_
          refine OG.sg rfl rfl ?_
          refine OG.nil ?_
          exact QG.next (i + 1, m.S, σ2) ⟨by simp only; omega, by simp only; omega, by rw [show 8192 * (i + 1) = 8192 * i + 8192 by omega]; exact I2⟩ (by simp only; omega) eS iM
    · skip
      refine CG.region ?_
      refine OG.mv rfl rfl ?_
      refine OG.mv rfl rfl ?_
      refine OG.yield (Yield.len_slice Tryz.underlying22 rfl rfl) rfl ?_
      refine OG.yield Yield.lssA rfl ?_
      refine OG.mv rfl rfl ?_
      refine OG.gy rfl rfl rfl ?_
      refine OG.mv rfl rfl ?_
      refine OG.gy rfl rfl rfl ?_
      refine OG.yield Yield.lssA rfl ?_
      refine OG.yield Yield.pickA rfl ?_
      refine OG.nil ?_
      refine QG.then ?_
      refine CG.cond_f rfl ?_
      refine CG.exit ?_
      refine QG.pass_exit ?_
      refine QG.pass_exit ?_
      refine QG.block_exit ?_
      exact QG.mid () trivial eS iM
    · skip
      refine CG.region ?_
      refine OG.mv rfl rfl ?_
      refine OG.mv rfl rfl ?_
      refine OG.yield (Yield.len_slice Tryz.underlying22 rfl rfl) rfl ?_
      refine OG.yield Yield.lssA rfl ?_
      refine OG.mv rfl rfl ?_
      refine OG.gn rfl rfl rfl rfl rfl ?_
      refine OG.gn rfl rfl rfl rfl rfl ?_
      refine OG.yield Yield.pickA rfl ?_
      refine OG.nil ?_
      refine QG.then ?_
      refine CG.cond_f rfl ?_
      refine CG.exit ?_
      refine QG.pass_exit ?_
      refine QG.pass_exit ?_
      refine QG.block_exit ?_
      exact QG.mid () trivial eS iM
  rintro ⟨⟩ -
  refine CG.seq ?_
  refine CG.region ?_
  refine OG.sg rfl rfl ?_
  refine OG.nil ?_
  refine QG.then ?_
  refine CG.ret ?_
  exact QG.ret1 rfl rfl () trivial rfl iM
open Go.ChangeShapes Go.WideShapes Go.ChangeAt
theorem own : ownKnob Tryz.prog.godebug = none := by kernel_rfl
theorem laid : laidOutB Tryz.prog = true := by kernel_rfl
set_option maxRecDepth 100000 in
theorem lifted (os : Os) (started : os.Started) (H : Type) (enc : TypeId × Value → H) :
    ReturnsInHanded {} Tryz.checked os 10 .any (Rows.hcallCostsSpec.pre6 enc Tryz.prog Tryz.f10 Rows.hcallCostsRow.domain false) (Rows.hcallCostsSpec.post enc Tryz.prog Tryz.f10 false true false false) := by
  refine returnsInHanded_of_change_sized (C := Tryz.checked) own started (by kernel_rfl) Tryz.func10
    (ChangeSpec.witness6 (enc := enc) (C := Tryz.checked) false ⟨#[], #[.int .i64 0, .slice none 0 0], []⟩ 8 (by kernel_rfl) (by kernel_rfl) (by kernel_rfl) (by kernel_rfl)) ?_
  intro W base args ds gs before hval0 hW hcnd hsz0 _
  have hsz : (DataW.weightsEach Tryz.prog (Tryz.f10.params.toList ++ Rows.hcallCostsSpec.plain.varTypes Tryz.prog) (ds ++ gs)).all (· ≤ reachBytes) = true := hsz0
  have hval : ∀ (j : Nat) t v, Tryz.f10.params[j]? = some t → args[j]? = some v → Value.okWide Tryz.prog W .any base t v := hval0
  have hW' := hW
  obtain ⟨p, q, hA0, hV, rfl, hfz, hnd⟩ := hW
  have hA : DataW.TrodAll enc Tryz.prog W 0 (fun _ => true) true Tryz.f10.params.toList args.toList ds p := hA0
  rw [Tryz.params10] at hA hval hsz
  obtain ⟨v0, vs0, d0, ds0, p0, q0, hargs, rfl, rfl, h0, r0⟩ := trodAll_cons hA
  obtain ⟨v1, vs1, d1, ds1, p1, q1, rfl, rfl, rfl, h1, r1⟩ := trodAll_cons r0
  obtain ⟨rfl, rfl, rfl⟩ := trodAll_nil r1
  obtain rfl : args = #[v0, v1] := by cases args; simp_all
  obtain ⟨rfl, rfl⟩ := trodVars_none hV
  obtain ⟨a0, rfl, rfl, rfl, w0⟩ := open_int Tryz.underlying3 (hval 0 3 v0 rfl rfl) h0
  have k1 := weights_le hsz 1 (t := 22) (d := d1) rfl rfl
  have s1 := Opn.param Tryz.underlying22 (HAct.list W) (hval 1 22 v1 rfl rfl) h1 k1
  obtain ⟨x0, c0, ops, e1, l0, ok0, s0, m0⟩ := s1
  cases e1
  clear hA0 hval0 hsz0 hsz
  refine ((walk W s0 ok0) W (Sat.start W)).mono fun e W' he => ?_
  obtain ⟨_, _, he, hs⟩ := he
  subst he
  exact ⟨_, rfl, law_post laid (params_ok (by kernel_rfl)) rfl Tryz.underlying4 hW' rfl rfl (Sat.below eX hs)⟩
theorem over : Rows.hcallCostsRow.holds Tryz.pinned (OpenSpec.ofChange Rows.hcallCostsSpec) :=
  OpenClaim.holds_of_wide 10 Tryz.f10 rfl rfl rfl rfl rfl rfl rfl ⟨rfl, rfl, rfl, rfl, rfl⟩ rfl rfl rfl rfl rfl (by kernel_rfl) Tryz.func10 (by kernel_rfl)
    (of_decide_eq_true (by kernel_rfl)) (by unfold Func.isWrapper; first | (rw [if_pos (by decide +kernel)]; kernel_rfl) | (rw [if_neg (by decide +kernel)]; exact ⟨rfl, rfl⟩))
    (fun os started H enc _ => lifted os started H enc)
theorem proved : Rows.HcallCostsSaid := over
#print axioms proved
end Go.Proofs.YtphljkplokjonaaGreat.hcallCosts
/- HcallUnknown. -/
namespace Go.Sl
open Go Go.RowKit
theorem Opn.paramS {P : Program} {W : World} {r : Reach} {H : Type} {enc : TypeId × Value → H} {b0 : Nat} {t : TypeId} {fs : Array Field} {v : Value} {d : DataW H} {ps : List MemPlace} {R : List Value → Prop} (hu : P.underlying t = some (.struct fs)) (ho : Opn P W t R) (hval : Value.okWide P W r b0 t v)
    (hd : DataW.Trod enc P W 0 (fun _ => true) true t v d ps) (hw : ∀ k ∈ d.weights P t, k ≤ reachBytes) : ∃ cs : List Value, v = .agg cs.toArray ∧ R cs := by
  obtain ⟨cs, rfl, -⟩ := Go.WideShapes.okWide_struct hu hval
  obtain ⟨n, hn⟩ := hd
  exact ⟨cs.toList, rfl, ho H enc n _ _ hn hw⟩
end Go.Sl
namespace Go.Proofs.YtphljkplokjonaaGreat.Hc
open Go Go.Sl Go.RowKit Go.Proofs Go.Proofs.YtphljkplokjonaaGreat.T Go.Proofs.YtphljkplokjonaaGreat.Sp
set_option maxRecDepth 100000
theorem snd_len (acs : List Po.AC) (part n : Int) (bs : B) : (sndP acs part n bs).2.length = acs.length := by
  unfold sndP
  split
  · split
    · simp
    · rfl
  · rfl
theorem rcv_len (acs : List Po.AC) (part n : Int) : (rcvP acs part n).2.2.length = acs.length := by
  unfold rcvP
  split
  · split
    · split
      · rfl
      · split
        · rfl
        · simp
    · rfl
  · rfl
theorem outs_acs (S : HS) (a : HAct) : (outs S a).acs.length = S.acs.length := by
  unfold outs
  by_cases k1 : a.Kind = 1
  · rw [if_pos k1]; exact snd_len _ _ _ _
  rw [if_neg k1]
  by_cases k2 : a.Kind = 2
  · rw [if_pos k2]; exact rcv_len _ _ _
  rw [if_neg k2]
  by_cases k3 : a.Kind = 3
  · rw [if_pos k3]; exact List.length_map _
  rw [if_neg k3]
  by_cases k4 : a.Kind = 4
  · rw [if_pos k4]
  rw [if_neg k4]
  by_cases k5 : a.Kind = 5
  · rw [if_pos k5]
  rw [if_neg k5]
  by_cases k6 : a.Kind = 6
  · rw [if_pos k6]
  rw [if_neg k6]
  by_cases k7 : a.Kind = 7
  · rw [if_pos k7]
  rw [if_neg k7]
  by_cases k8 : a.Kind = 8
  · rw [if_pos k8]
  rw [if_neg k8]
  by_cases k9 : a.Kind = 9
  · rw [if_pos k9]
  rw [if_neg k9]
  by_cases k10 : a.Kind = 10
  · rw [if_pos k10]
  rw [if_neg k10]
  by_cases k11 : a.Kind = 11
  · rw [if_pos k11]
  rw [if_neg k11]
theorem SN.es_len {z : SN} {S : HS} (h : z.OK S) (hac : S.acs.length = 4) : z.es.length = 8 := by
  have h1 : z.es.length = (hldsN S.acs 4).length := by rw [← h.e, List.length_map]
  rw [h1]
  obtain ⟨o, q, p, a, s, out, inn, d, acs, t, m⟩ := S
  match acs, hac with
  | [a, b, c, d], _ => rfl
/-- The ports are as they should be. -/
theorem po_facts {W0 : World} {G R : List HProp} {p : Nat} {acs : List Po.AC} (x : Ext G (Po.Po p acs) R) (w : World) (hw : Sat W0 G w) : ∀ ac ∈ acs, ac.s.length ≤ 8 ∧ ac.r.length ≤ 8 := by
  obtain ⟨f, hf, hA⟩ := Sat.ext x hw
  obtain ⟨y, hy, _⟩ := hA
  exact fun ac hac => ⟨(hy.ok ac hac).s, (hy.ok ac hac).r⟩
theorem SN.ms_len {z : SN} {S : HS} (h : z.OK S) (hp : ∀ ac ∈ S.acs, ac.s.length ≤ 8 ∧ ac.r.length ≤ 8) : ∀ e ∈ z.es, e.ms.length < 1000 := by
  intro e he
  have h1 : e.bs ∈ hldsN S.acs 4 := by rw [← h.e]; exact List.mem_map_of_mem he
  unfold hldsN at h1
  rw [List.mem_flatMap] at h1
  obtain ⟨ac, hac, hm⟩ := h1
  have h2 := hp ac (List.mem_of_mem_take hac)
  have h3 : e.bs.length = e.ms.length := by unfold Po.End.bs; rw [List.length_map]
  simp only [List.mem_cons, List.not_mem_nil, or_false] at hm
  rcases hm with hm | hm
  · rw [hm] at h3; omega
  · rw [hm] at h3; omega
end Go.Proofs.YtphljkplokjonaaGreat.Hc
namespace Go.Proofs.YtphljkplokjonaaGreat.hcallUnknown
open Go Go.Sl Go.RowKit Go.Proofs Go.Proofs.YtphljkplokjonaaGreat.T Go.Proofs.YtphljkplokjonaaGreat.Sp Go.Proofs.YtphljkplokjonaaGreat.Hc
set_option maxRecDepth 100000
set_option maxHeartbeats 8000000 in
theorem walk (W : World) {n0 : Nat} {g : Rg} {a0 : Option Addr} {c0 : Nat} {ops : List HAct} (hn0 : n0 < 4294967296) (hg : g.OK) (hops : SlAt W 28 a0 ops.length ((ops.map HAct.cells).flatten)) (hok : ∀ o ∈ ops, o.OK W) :
    Ctr Tryz.prog W 4 [.int .u32 n0, .agg g.v.toArray, .slice a0 ops.length c0] [old W] (fun _ : Unit => True) (fun _ => .bool true) (fun _ => [old W]) := by
  obtain ⟨n, hn⟩ : ∃ n : Nat, n = if 1 ≤ n0 ∧ n0 ≤ 14 then n0 + 14 else n0 := ⟨_, rfl⟩
  have hnn : n = 0 ∨ 15 ≤ n := by
    by_cases q : 1 ≤ n0 ∧ n0 ≤ 14
    · rw [if_pos q] at hn; omega
    · rw [if_neg q] at hn; omega
  have hnl : n < 4294967296 := by
    by_cases q : 1 ≤ n0 ∧ n0 ≤ 14
    · rw [if_pos q] at hn; omega
    · rw [if_neg q] at hn; omega
  obtain ⟨ra, g2, hra⟩ := Rg.z_get hg (i := 2) (by decide) (by decide)
  obtain ⟨rb, g3, hrb⟩ := Rg.z_get hg (i := 3) (by decide) (by decide)
  obtain ⟨rc, g4, hrc⟩ := Rg.z_get hg (i := 4) (by decide) (by decide)
  obtain ⟨gn, hgn⟩ : ∃ gn : Rg, gn = ⟨g.z.rs.set 1 n, g.fs, g.pc, by simp [g.z.lr], g.lf⟩ := ⟨_, rfl⟩
  have k1 : gn.rs[1]? = some (n : Int) := by rw [hgn]; exact List.getElem?_set_self (by rw [g.z.lr]; decide)
  have k2 : gn.rs[2]? = some (ra : Int) := by rw [hgn]; show (g.z.rs.set 1 _)[2]? = _; rw [List.getElem?_set_ne (by decide)]; exact g2
  have k3 : gn.rs[3]? = some (rb : Int) := by rw [hgn]; show (g.z.rs.set 1 _)[3]? = _; rw [List.getElem?_set_ne (by decide)]; exact g3
  have k4 : gn.rs[4]? = some (rc : Int) := by rw [hgn]; show (g.z.rs.set 1 _)[4]? = _; rw [List.getElem?_set_ne (by decide)]; exact g4
  have hgz : g.v.set 0 (.int .u32 0) = g.z.v := Rg.set_r _ (by decide) _
  have hgz1 : g.z.v.set 1 (.int .u32 n) = gn.v := by rw [hgn]; exact Rg.set_r _ (by decide) _
  have hfin : ∀ S, fin S gn.v (ocOf 12 S gn.v n ra rb rc) = ⟨4294967295, 0, 0, S, gn.v⟩ := fun S => by
    have : ocOf 12 S gn.v n ra rb rc = .inl 1 := by
      rcases hnn with q | q
      · rw [q]; rfl
      · obtain ⟨k, rfl⟩ : ∃ k, n = k + 15 := ⟨n - 15, by omega⟩
        rfl
    rw [this]; rfl
  have hend : ∀ tm, (gn.v.set 1 (.int .u32 4294967295)).set 24 (.int .u32 (w32 (g.pc + 4))) = (gn.ans n tm 4294967295).v := fun tm => by
    rw [Rg.set_r _ (by decide), Rg.set_p]
    unfold Rg.ans
    have hn11 : n ≠ 11 := by omega
    simp only [if_neg hn11]
    rw [hgn]
  refine Ctr.of_body Tryz.func4 rfl Tryz.ntmps4 rfl ?_
  refine CG.seq ?_
  refine CG.region ?_
  refine OG.effd (Eff.box rfl) rfl ?_
  rintro b4 -
  refine OG.sg rfl rfl ?_
  refine OG.nil ?_
  refine QG.then ?_
  refine CG.seq ?_
  refine CG.seq ?_
  refine CG.region ?_
  refine OG.callo call12 rfl (Imp.refl _) (works_spec W _) rfl ?_
  rintro ⟨⟩ -
  refine OG.yield (Yield.not rfl) rfl ?_
  refine OG.nil ?_
  refine QG.then ?_
  refine CG.cond_f rfl ?_
  refine CG.skip ?_
  refine QG.then ?_
  refine CG.seq ?_
  refine CG.region ?_
  refine OG.callo call13 rfl (Imp.refl _) (program_spec W _ (q := 12) (by decide) (by decide)) rfl ?_
  rintro ⟨x, σ⟩ L0
  have I0 := HI.new (x := x) (by decide) (by decide) L0
  clear L0
  dsimp only at I0 ⊢
  refine OG.sg rfl rfl ?_
  refine OG.nil ?_
  refine QG.then ?_
  refine CG.seq ?_
  refine CG.seq ?_
  refine CG.region ?_
  refine OG.mv rfl rfl ?_
  refine OG.yield (by first | exact Yield.ptr_nil Tryz.underlying25 rfl rfl | exact Yield.nil_nil Tryz.underlying25 rfl rfl) rfl ?_
  refine OG.nil ?_
  refine QG.then ?_
  refine CG.cond_f rfl ?_
  refine CG.skip ?_
  refine QG.then ?_
  refine CG.cut (fun y : HS × St => HI 12 x y.1 y.2 (8192 * 60) ∧ y.1.acs.length = 4) (fun _ => [(0, .int .u32 n0), (4, .pointer (some ⟨b4, 0, none⟩)), (7, .pointer (some ⟨x.e, 0, none⟩))]) (fun y => blk b4 g.v 31 :: hG x y.1 [12, 8] y.2 [old W]) ?_ ?_
  · skip
    refine CG.seq ?_
    refine CG.region ?_
    refine OG.sg rfl rfl ?_
    refine OG.nil ?_
    refine QG.then ?_
    refine CG.block ?_
    refine CG.loop (fun y : Nat × HS × St => y.1 ≤ ops.length ∧ y.1 ≤ 60 ∧ HI 12 x y.2.1 y.2.2 (8192 * y.1) ∧ y.2.1.acs.length = 4) (fun y => [(0, .int .u32 n0), (2, .slice a0 ops.length c0), (4, .pointer (some ⟨b4, 0, none⟩)), (7, .pointer (some ⟨x.e, 0, none⟩)), (8, .int .i64 y.1)]) (fun y => blk b4 g.v 31 :: hG x y.2.1 [12, 8] y.2.2 [old W]) (fun y => ops.length - y.1) (0, HS0, σ) ⟨Nat.zero_le _, Nat.zero_le _, I0, rfl⟩ eS iM ?_
    clear I0
    rintro ⟨i, S, σ⟩ ⟨im, im2, hI, hac⟩
    dsimp only at im im2 hI hac ⊢
    refine CG.seq ?_
    refine CG.seq ?_
    rcases loop_head (i) (ops.length) 60 with hh | hh | hh
    · skip
      refine CG.region ?_
      refine OG.mv rfl rfl ?_
      refine OG.mv rfl rfl ?_
      refine OG.yield (Yield.len_slice Tryz.underlying22 rfl rfl) rfl ?_
      refine OG.yield Yield.lssA rfl ?_
      refine OG.mv rfl rfl ?_
      refine OG.gy rfl rfl rfl ?_
      refine OG.mv rfl rfl ?_
      refine OG.gy rfl rfl rfl ?_
      refine OG.yield Yield.lssA rfl ?_
      refine OG.yield Yield.pickA rfl ?_
      refine OG.nil ?_
      refine QG.then ?_
      refine CG.cond_t rfl ?_
      refine CG.skip ?_
      refine QG.then ?_
      obtain ⟨h1, h2⟩ := hh
      have hget : ops[i]? = some ops[i] := by simp [h1]
      have hko := hok ops[i] (List.getElem_mem h1)
      generalize ops[i] = op at hget hko
      refine CG.pure (fun w hw => (hops.old (G := blk b4 g.v 31 :: hG x S [12, 8] σ [old W]) eX).elem_shape HAct.len (by decide) h1 w hw) ?_
      rintro ⟨b, o, rfl⟩
      refine CG.pure (fun w hw => Vd.d_facts (d := x.d) eX w hw) ?_
      intro hdok
      have hHK := hI.hk (by omega) hdok.told
      have hBm := hko.Bm
      unfold reachBytes at hBm
      have hrow : ∀ {G R : List HProp}, Ext G (old W) R → Row W G b (o + i * 28) (HAct.cells op) := fun x => (hops.old x).elem HAct.len hget
      refine CG.seq ?_
      refine CG.block ?_
      refine CG.seq ?_
      refine CG.region ?_
      refine OG.mv rfl rfl ?_
      refine OG.mv rfl rfl ?_
      refine OG.yield (Yield.index_slice Tryz.underlying22 ti34 rfl rfl (by omega) (by omega)) rfl ?_
      refine OG.yield (Yield.fieldAddr fa34_0 rfl) rfl ?_
      refine OG.yield (Yield.load (v := .int .i64 op.Kind) ti3 rfl ((hrow eX) 0 _ (HAct.c0 op))) rfl ?_
      refine OG.yield (Yield.neq rfl rfl) rfl ?_
      refine OG.nil ?_
      refine QG.then ?_
      refine CG.cond rfl (fun hc => ?_) (fun hc => ?_)
      · try replace hc := of_decide_eq_true hc
        refine CG.region ?_
        refine OG.mv rfl rfl ?_
        refine OG.mv rfl rfl ?_
        refine OG.mv rfl rfl ?_
        refine OG.yield (Yield.index_slice Tryz.underlying22 ti34 rfl rfl (by omega) (by omega)) rfl ?_
        refine OG.yield (Yield.load_agg (vs := HAct.cells op) ti34 rfl (HAct.len _) (hrow eX)) rfl ?_
        refine OG.callo call14 rfl (iM) (outside_spec W (blk b4 g.v 31 :: [old W]) (a := op) hHK (by exact RdB.of_slR (hko.B.old eX) hko.Bc) (by omega) rfl) rfl ?_
        rintro σ2 L2
        refine OG.nil ?_
        refine QG.block_normal ?_
        refine QG.then ?_
        refine CG.region ?_
        refine OG.mv rfl rfl ?_
        refine OG.yield (Yield.add rfl rfl (w64 (by omega) (by omega))) rfl ?_
        refine OG.sg rfl rfl ?_
        refine OG.nil ?_
        exact QG.next (i + 1, outs S op, σ2) ⟨by simp only; omega, by simp only; omega, hI.outs op (by rw [show 8192 * (i + 1) = 8192 * i + 8192 by omega]; exact L2), by rw [outs_acs]; exact hac⟩ (by simp only; omega) eS iM
      · try replace hc := of_decide_eq_false hc
        refine CG.skip ?_
        refine QG.block_normal ?_
        refine QG.then ?_
        refine CG.region ?_
        refine OG.mv rfl rfl ?_
        refine OG.yield (Yield.add rfl rfl (w64 (by omega) (by omega))) rfl ?_
        refine OG.sg rfl rfl ?_
        refine OG.nil ?_
        exact QG.next (i + 1, S, σ) ⟨by simp only; omega, by simp only; omega, ⟨hI.L.mono (by omega), hI.h1, hI.h2, hI.q, hI.p, hI.t0, hI.t1, hI.m0, hI.m1⟩, hac⟩ (by simp only; omega) eS iM
    · skip
      refine CG.region ?_
      refine OG.mv rfl rfl ?_
      refine OG.mv rfl rfl ?_
      refine OG.yield (Yield.len_slice Tryz.underlying22 rfl rfl) rfl ?_
      refine OG.yield Yield.lssA rfl ?_
      refine OG.mv rfl rfl ?_
      refine OG.gy rfl rfl rfl ?_
      refine OG.mv rfl rfl ?_
      refine OG.gy rfl rfl rfl ?_
      refine OG.yield Yield.lssA rfl ?_
      refine OG.yield Yield.pickA rfl ?_
      refine OG.nil ?_
      refine QG.then ?_
      refine CG.cond_f rfl ?_
      refine CG.exit ?_
      refine QG.pass_exit ?_
      refine QG.pass_exit ?_
      refine QG.block_exit ?_
      exact QG.mid (S, σ) ⟨⟨hI.L.mono (by omega), hI.h1, hI.h2, hI.q, hI.p, hI.t0, hI.t1, hI.m0, hI.m1⟩, hac⟩ eS iM
    · skip
      refine CG.region ?_
      refine OG.mv rfl rfl ?_
      refine OG.mv rfl rfl ?_
      refine OG.yield (Yield.len_slice Tryz.underlying22 rfl rfl) rfl ?_
      refine OG.yield Yield.lssA rfl ?_
      refine OG.mv rfl rfl ?_
      refine OG.gn rfl rfl rfl rfl rfl ?_
      refine OG.gn rfl rfl rfl rfl rfl ?_
      refine OG.yield Yield.pickA rfl ?_
      refine OG.nil ?_
      refine QG.then ?_
      refine CG.cond_f rfl ?_
      refine CG.exit ?_
      refine QG.pass_exit ?_
      refine QG.pass_exit ?_
      refine QG.block_exit ?_
      exact QG.mid (S, σ) ⟨⟨hI.L.mono (by omega), hI.h1, hI.h2, hI.q, hI.p, hI.t0, hI.t1, hI.m0, hI.m1⟩, hac⟩ eS iM
  clear I0
  rintro ⟨S, σ⟩ ⟨hI, hac⟩
  dsimp only at hI hac ⊢
  refine CG.pure (fun w hw => Vd.d_facts (d := x.d) eX w hw) ?_
  intro hdok
  refine CG.pure (fun w hw => po_facts (p := x.p) eX w hw) ?_
  intro hpo
  refine CG.cut (fun _ : Unit => True) (fun _ => [(0, .int .u32 n), (4, .pointer (some ⟨b4, 0, none⟩)), (7, .pointer (some ⟨x.e, 0, none⟩))]) (fun _ => blk b4 g.v 31 :: hG x S [12, 8] σ [old W]) ?_ ?_
  · skip
    refine CG.seq ?_
    rcases (show n0 < 1 ∨ (1 ≤ n0 ∧ n0 ≤ 14) ∨ (1 ≤ n0 ∧ 14 < n0) by omega) with q | q | q
    · skip
      refine CG.region ?_
      refine OG.mv rfl rfl ?_
      refine OG.yield (Yield.as (Yield.geq rfl rfl) (v' := .bool false) (bF (by omega))) rfl ?_
      refine OG.mv rfl rfl ?_
      refine OG.gn rfl rfl rfl rfl rfl ?_
      refine OG.gn rfl rfl rfl rfl rfl ?_
      refine OG.yield Yield.pickA rfl ?_
      refine OG.nil ?_
      refine QG.then ?_
      refine CG.cond_f rfl ?_
      refine CG.skip ?_
      obtain rfl : n = n0 := by rw [hn, if_neg (by omega)]
      exact QG.mid () trivial eS iM
    · skip
      refine CG.region ?_
      refine OG.mv rfl rfl ?_
      refine OG.yield (Yield.as (Yield.geq rfl rfl) (v' := .bool true) (bT (by omega))) rfl ?_
      refine OG.mv rfl rfl ?_
      refine OG.gy rfl rfl rfl ?_
      refine OG.mv rfl rfl ?_
      refine OG.gy rfl rfl rfl ?_
      refine OG.yield (Yield.as (Yield.leq rfl rfl) (v' := .bool true) (bT (by omega))) rfl ?_
      refine OG.yield Yield.pickA rfl ?_
      refine OG.nil ?_
      refine QG.then ?_
      refine CG.cond_t rfl ?_
      refine CG.region ?_
      refine OG.mv rfl rfl ?_
      refine OG.yield (Yield.add (c := (n : Int)) rfl rfl (by rw [wu32 (by omega) (by omega), hn, if_pos q]; omega)) rfl ?_
      refine OG.sg rfl rfl ?_
      refine OG.nil ?_
      exact QG.mid () trivial eS iM
    · skip
      refine CG.region ?_
      refine OG.mv rfl rfl ?_
      refine OG.yield (Yield.as (Yield.geq rfl rfl) (v' := .bool true) (bT (by omega))) rfl ?_
      refine OG.mv rfl rfl ?_
      refine OG.gy rfl rfl rfl ?_
      refine OG.mv rfl rfl ?_
      refine OG.gy rfl rfl rfl ?_
      refine OG.yield (Yield.as (Yield.leq rfl rfl) (v' := .bool false) (bF (by omega))) rfl ?_
      refine OG.yield Yield.pickA rfl ?_
      refine OG.nil ?_
      refine QG.then ?_
      refine CG.cond_f rfl ?_
      refine CG.skip ?_
      obtain rfl : n = n0 := by rw [hn, if_neg (by omega)]
      exact QG.mid () trivial eS iM
  rintro ⟨⟩ -
  refine CG.seq ?_
  refine CG.region ?_
  refine OG.yield (Yield.fieldAddr fa31_0 rfl) rfl ?_
  refine OG.yield (Yield.index_array Tryz.underlying28 ti27 rfl rfl (by omega) (by omega)) rfl ?_
  refine OG.eff (Eff.store1 ti27 rfl rfl fC rfl (by rw [Rg.len]; decide)) rfl ?_
  rintro ⟨⟩ -
  rw [show (0 + 0 + (0 : Int).toNat * 1) = 0 from rfl, hgz]
  refine OG.nil ?_
  refine QG.then ?_
  refine CG.seq ?_
  refine CG.region ?_
  refine OG.mv rfl rfl ?_
  refine OG.yield (Yield.fieldAddr fa31_0 rfl) rfl ?_
  refine OG.yield (Yield.index_array Tryz.underlying28 ti27 rfl rfl (by omega) (by omega)) rfl ?_
  refine OG.eff (Eff.store1 ti27 rfl rfl fC rfl (by rw [Rg.len]; decide)) rfl ?_
  rintro ⟨⟩ -
  rw [show (0 + 0 + (1 : Int).toNat * 1) = 1 from rfl, hgz1]
  refine OG.nil ?_
  refine QG.then ?_
  refine CG.seq ?_
  refine CG.region ?_
  refine OG.mv rfl rfl ?_
  refine OG.callo call15 rfl (iM) (look_spec W (blk b4 gn.v 31 :: [old W]) hI hac) rfl ?_
  rintro z hz
  have hel := SN.es_len hz hac
  have hml := SN.ms_len hz hpo
  refine OG.effd (Eff.alloc ti40) rfl ?_
  rintro b9 -
  refine OG.eff (Eff.storeAll ti40 rfl rfl fC rfl (by simp [SN.cells, one]) rfl) rfl ?_
  rintro ⟨⟩ -
  refine OG.nil ?_
  refine QG.then ?_
  refine CG.seq ?_
  refine CG.region ?_
  refine OG.mv rfl rfl ?_
  refine OG.yield (Yield.load_agg (vs := gn.v) ti31 rfl (Rg.len _) (fun j v hj => Cel.of_blk (b := b4) eX (by rw [Nat.zero_add j]; exact hj))) rfl ?_
  refine OG.callo call16 rfl (iM) (Do_m W (blk b9 (z.cells S) 40 :: blk b4 gn.v 31 :: (z.G S ++ [old W])) (g := gn) (n := n) (a := ra) (b := rb) (c := rc) hI (by omega) hra hrb hrc hnl k1 k2 k3 k4 (hfin S)) rfl ?_
  rintro σ2 I2
  dsimp only [SN.G, List.cons_append, List.nil_append] at I2 ⊢
  refine OG.mv rfl rfl ?_
  refine OG.yield (Yield.extract rfl rfl) rfl ?_
  refine OG.yield (Yield.extract rfl rfl) rfl ?_
  refine OG.yield (Yield.extract rfl rfl) rfl ?_
  refine OG.effd (Eff.alloc ti31) rfl ?_
  rintro b10 -
  refine OG.eff (Eff.storeAll ti31 rfl rfl fC (Rg.len _) (Rg.ones _) rfl) rfl ?_
  rintro ⟨⟩ -
  refine OG.sg rfl rfl ?_
  refine OG.sg rfl rfl ?_
  refine OG.nil ?_
  refine QG.then ?_
  refine CG.seq ?_
  refine CG.region ?_
  refine OG.yield (Yield.fieldAddr fa31_0 rfl) rfl ?_
  refine OG.yield (Yield.index_array Tryz.underlying28 ti27 rfl rfl (by omega) (by omega)) rfl ?_
  refine OG.eff (Eff.store1 ti27 rfl rfl fC rfl (by rw [Rg.len]; decide)) rfl ?_
  rintro ⟨⟩ -
  refine OG.nil ?_
  refine QG.then ?_
  refine CG.seq ?_
  refine CG.region ?_
  refine OG.yield (Yield.fieldAddr fa31_2 rfl) rfl ?_
  refine OG.yield (Yield.load (v := .int .u32 g.pc) ti27 rfl (Cel.of_blk (b := b4) eX (by rw [List.getElem?_set_ne (by decide), hgn]; exact Rg.p _))) rfl ?_
  refine OG.yield (Yield.add (c := w32 (g.pc + 4)) rfl rfl rfl) rfl ?_
  refine OG.yield (Yield.fieldAddr fa31_2 rfl) rfl ?_
  refine OG.eff (Eff.store1 ti27 rfl rfl fC rfl (by rw [List.length_set, Rg.len]; decide)) rfl ?_
  rintro ⟨⟩ -
  rw [show (0 + 0 + (1 : Int).toNat * 1) = 1 from rfl, show (0 + 24 : Nat) = 24 from rfl, hend S.time]
  refine OG.nil ?_
  refine QG.then ?_
  refine CG.seq ?_
  refine CG.draw (.look 0 1 (.look 1 1 (.look 2 1 (.look 3 1 (.look 4 1 (.look 5 1 (.look 6 1 (.look 7 1 (.look 8 1 (.look 9 1 (.look 10 1 (.look 11 1 (.look 12 1 (.look 14 0 (.eff1 13 false (.eff1 15 false (.look 16 1 (.look 17 1 (.done))))))))))))))))))) [13, 15] [] ([blk b9 (z.cells S) 40]) ([]) mixed (by kernel_rfl) iM (Imp.none _) ?_
  refine DG.look rfl rfl (Yield.load_agg (vs := (gn.ans n S.time 4294967295).v) ti31 rfl (Rg.len _) (fun j v hj => Cel.of_blk (b := b10) eX (by rw [Nat.zero_add j]; exact hj))) rfl ?_
  refine DG.look rfl rfl (Yield.load_agg (vs := (gn.ans n S.time 4294967295).v) ti31 rfl (Rg.len _) (fun j v hj => Cel.of_blk (b := b4) eX (by rw [Nat.zero_add j]; exact hj))) rfl ?_
  refine DG.look rfl rfl (Yield.agg_eql 6 (xs := (gn.ans n S.time 4294967295).v) (ys := (gn.ans n S.time 4294967295).v) rfl rfl (by decide) flat31 guard31 (Rg.fit _) (Rg.fit _) (b := true) (Rg.eqc _)) rfl ?_
  refine DG.look rfl rfl (Yield.move rfl) rfl ?_
  refine DG.look rfl rfl (Yield.move rfl) rfl ?_
  refine DG.look rfl rfl (Yield.as (Yield.eql rfl rfl) (v' := .bool true) (bT (by decide))) rfl ?_
  refine DG.look rfl rfl Yield.pickA rfl ?_
  refine DG.look rfl rfl (Yield.move rfl) rfl ?_
  refine DG.look rfl rfl (Yield.move rfl) rfl ?_
  refine DG.look rfl rfl (Yield.as (Yield.eql rfl rfl) (v' := .bool true) (bT (by decide))) rfl ?_
  refine DG.look rfl rfl Yield.pickA rfl ?_
  refine DG.look rfl rfl (Yield.move rfl) rfl ?_
  refine DG.look rfl rfl (Yield.move rfl) rfl ?_
  refine DG.look rfl rfl (Yield.load_agg (vs := z.cells S) ti40 rfl rfl (fun j v hj => Cel.of_blk (b := b9) eX (by rw [Nat.zero_add j]; exact hj))) rfl ?_
  refine DG.eff1 ?_
  refine Chg.callo rfl rfl call15 rfl (iM) (look_spec W (blk b9 (z.cells S) 40 :: (z.G S ++ [old W])) I2 hac) rfl (fun _ => iM) (fun _ => Imp.refl _) (fun _ => iM) ?_
  rintro y hy
  dsimp only [SN.G, List.cons_append, List.nil_append]
  refine DG.eff1 ?_
  refine Chg.callo rfl rfl call17 rfl (iM) (same_spec W (blk b9 (z.cells S) 40 :: [old W]) (z := y) (y := z) hy hz (by show (S.d.asks.map Vd.Ak.tag).length ≤ 4; rw [List.length_map]; exact hdok.asks) (by have := SN.es_len hy hac; omega) (SN.ms_len hy hpo)) rfl (fun _ => iM) (fun _ => Imp.refl _) (fun _ => iM) ?_
  rintro ⟨⟩ -
  refine DG.look rfl rfl Yield.pickA rfl ?_
  refine DG.look rfl rfl (Yield.assign rfl) rfl ?_
  refine DG.done ?_
  refine QG.then ?_
  refine CG.ret ?_
  exact QG.ret1 rfl rfl () trivial rfl iM
theorem walkI (W : World) {z : Int} {g : Rg} {a0 : Option Addr} {c0 : Nat} {ops : List HAct} (hz : (Lit.int .u32 z).wf = true) (hg : g.OK) (hops : SlAt W 28 a0 ops.length ((ops.map HAct.cells).flatten)) (hok : ∀ o ∈ ops, o.OK W) :
    Ctr Tryz.prog W 4 [.int .u32 z, .agg g.v.toArray, .slice a0 ops.length c0] [old W] (fun _ : Unit => True) (fun _ => .bool true) (fun _ => [old W]) := by
  have hb := wf_u32 hz
  obtain ⟨n, rfl⟩ := Int.eq_ofNat_of_zero_le hb.1
  exact walk W (by omega) hg hops hok
open Go.ChangeShapes Go.WideShapes Go.ChangeAt
theorem own : ownKnob Tryz.prog.godebug = none := by kernel_rfl
theorem laid : laidOutB Tryz.prog = true := by kernel_rfl
set_option maxRecDepth 100000 in
theorem lifted (os : Os) (started : os.Started) (H : Type) (enc : TypeId × Value → H) :
    ReturnsInHanded {} Tryz.checked os 4 .any (Rows.hcallUnknownSpec.pre6 enc Tryz.prog Tryz.f4 Rows.hcallUnknownRow.domain false) (Rows.hcallUnknownSpec.post enc Tryz.prog Tryz.f4 false true false false) := by
  refine returnsInHanded_of_change_sized (C := Tryz.checked) own started (by kernel_rfl) Tryz.func4
    (ChangeSpec.witness6 (enc := enc) (C := Tryz.checked) false ⟨#[], #[.int .u32 0, .agg (List.replicate 16 (Value.int .u32 0) ++ List.replicate 8 (Value.int .u64 0) ++ [Value.int .u32 0]).toArray, .slice none 0 0], []⟩ 8 (by kernel_rfl) (by kernel_rfl) (by kernel_rfl) (by kernel_rfl)) ?_
  intro W base args ds gs before hval0 hW hcnd hsz0 _
  have hsz : (DataW.weightsEach Tryz.prog (Tryz.f4.params.toList ++ Rows.hcallUnknownSpec.plain.varTypes Tryz.prog) (ds ++ gs)).all (· ≤ reachBytes) = true := hsz0
  have hval : ∀ (j : Nat) t v, Tryz.f4.params[j]? = some t → args[j]? = some v → Value.okWide Tryz.prog W .any base t v := hval0
  have hW' := hW
  obtain ⟨p, q, hA0, hV, rfl, hfz, hnd⟩ := hW
  have hA : DataW.TrodAll enc Tryz.prog W 0 (fun _ => true) true Tryz.f4.params.toList args.toList ds p := hA0
  rw [Tryz.params4] at hA hval hsz
  obtain ⟨v0, vs0, d0, ds0, p0, q0, hargs, rfl, rfl, h0, r0⟩ := trodAll_cons hA
  obtain ⟨v1, vs1, d1, ds1, p1, q1, rfl, rfl, rfl, h1, r1⟩ := trodAll_cons r0
  obtain ⟨v2, vs2, d2, ds2, p2, q2, rfl, rfl, rfl, h2, r2⟩ := trodAll_cons r1
  obtain ⟨rfl, rfl, rfl⟩ := trodAll_nil r2
  obtain rfl : args = #[v0, v1, v2] := by cases args; simp_all
  obtain ⟨rfl, rfl⟩ := trodVars_none hV
  obtain ⟨a0, rfl, rfl, rfl, w0⟩ := open_int Tryz.underlying27 (hval 0 27 v0 rfl rfl) h0
  have k1 := weights_le hsz 1 (t := 31) (d := d1) rfl rfl
  have s1 := Opn.paramS Tryz.underlying31 (Rg.opn W) (hval 1 31 v1 rfl rfl) h1 k1
  obtain ⟨cs1, e1, g, rfl, okg⟩ := s1
  cases e1
  have k2 := weights_le hsz 2 (t := 22) (d := d2) rfl rfl
  have s2 := Opn.param Tryz.underlying22 (HAct.list W) (hval 2 22 v2 rfl rfl) h2 k2
  obtain ⟨x0, c0, ops, e2, l0, ok0, s0, m0⟩ := s2
  cases e2
  clear hA0 hval0 hsz0 hsz
  refine ((walkI W w0 okg s0 ok0) W (Sat.start W)).mono fun e W' he => ?_
  obtain ⟨_, _, he, hs⟩ := he
  subst he
  exact ⟨_, rfl, law_post laid (params_ok (by kernel_rfl)) rfl Tryz.underlying4 hW' rfl rfl (Sat.below eX hs)⟩
theorem over : Rows.hcallUnknownRow.holds Tryz.pinned (OpenSpec.ofChange Rows.hcallUnknownSpec) :=
  OpenClaim.holds_of_wide 4 Tryz.f4 rfl rfl rfl rfl rfl rfl rfl ⟨rfl, rfl, rfl, rfl, rfl⟩ rfl rfl rfl rfl rfl (by kernel_rfl) Tryz.func4 (by kernel_rfl)
    (of_decide_eq_true (by kernel_rfl)) (by unfold Func.isWrapper; first | (rw [if_pos (by decide +kernel)]; kernel_rfl) | (rw [if_neg (by decide +kernel)]; exact ⟨rfl, rfl⟩))
    (fun os started H enc _ => lifted os started H enc)
theorem proved : Rows.HcallUnknownSaid := over
#print axioms proved
end Go.Proofs.YtphljkplokjonaaGreat.hcallUnknown
/- HcallRefused. -/
namespace Go.Proofs.YtphljkplokjonaaGreat.Hc
open Go Go.Sl Go.RowKit Go.Proofs Go.Proofs.YtphljkplokjonaaGreat.T Go.Proofs.YtphljkplokjonaaGreat.Sp
set_option maxRecDepth 100000
/-- No error's number. -/
def small (z : Int) : Prop := z < 4294967288
theorem sub_last {s : Vd.Ds} {write : Bool} {sector addr major : Int} {data : B} (h : 0 ≤ s.last ∧ s.last ≤ 1000) : small (subP s write sector addr data major).1 ∧ 0 ≤ (subP s write sector addr data major).2.2.last ∧ (subP s write sector addr data major).2.2.last ≤ s.last + 1 := by
  have hw : Vd.w32 (s.last + 1) = s.last + 1 := wu32 (by omega) (by omega)
  unfold subP
  split
  · show small (Vd.w32 (s.last + 1)) ∧ 0 ≤ Vd.w32 (s.last + 1) ∧ Vd.w32 (s.last + 1) ≤ _
    rw [hw]; unfold small; omega
  · show small 0 ∧ 0 ≤ s.last ∧ s.last ≤ _
    unfold small; omega
/-- What a call leaves: a great answer means that nothing has changed. -/
def Sm (S : HS) (n : Nat) : Nat ⊕ MO → Prop
  | .inl _ => True
  | .inr m => (n ≠ 11 → small m.ans ∨ (m.S = S ∧ m.cp = 0)) ∧ (0 ≤ m.S.d.last ∧ m.S.d.last ≤ S.d.last + 1) ∧ m.S.acs.length = S.acs.length
theorem sm_timer {S : HS} {R : List Value} {a b : Nat} (hl : 0 ≤ S.d.last ∧ S.d.last ≤ 1000) : Sm S 12 (ocTimer S R a b) := by
  have h0 : small 0 := by unfold small; omega
  have hl2 : 0 ≤ S.d.last ∧ S.d.last ≤ S.d.last + 1 := by omega
  obtain ⟨tm, htm⟩ : ∃ t : Int, t = tmN a b := ⟨_, rfl⟩
  have hot : ocTimer S R a b = if 65536 < b then .inl 3 else if tmB tm = true then .inr ⟨0, 0, 0, { S with at' := tm, set := true }, R⟩ else .inl 3 := by rw [htm]; rfl
  rw [hot]
  clear hot htm
  split
  · trivial
  · split
    · exact ⟨fun _ => .inl h0, hl2, rfl⟩
    · trivial
theorem sm_of {qk : Int} {S : HS} {R : List Value} {n a b c : Nat} (hl : 0 ≤ S.d.last ∧ S.d.last ≤ 1000) : Sm S n (ocOf qk S R n a b c) := by
  have h0 : small 0 := by unfold small; omega
  have hl2 : 0 ≤ S.d.last ∧ S.d.last ≤ S.d.last + 1 := by omega
  unfold ocOf
  split
  case h_1 => exact ⟨fun _ => .inl h0, hl2, rfl⟩
  case h_2 =>
    unfold ocMap; dsimp only; split
    · exact ⟨fun _ => .inl h0, hl2, rfl⟩
    · trivial
  case h_3 =>
    unfold ocUnmap; dsimp only; split
    · exact ⟨fun _ => .inl h0, hl2, rfl⟩
    · trivial
  case h_4 =>
    unfold ocProt; dsimp only; split
    · exact ⟨fun _ => .inl h0, hl2, rfl⟩
    · trivial
  case h_5 =>
    unfold ocWrite; dsimp only; split
    · trivial
    · split
      · exact ⟨fun _ => .inl (by show small ((min _ _ : Nat) : Int); unfold small; omega), hl2, rfl⟩
      · trivial
  case h_6 =>
    unfold ocRead; dsimp only; split
    · trivial
    · split
      · exact ⟨fun _ => .inl (by show small ((S.inn.take b).length : Int); unfold small; rw [List.length_take]; omega), hl2, rfl⟩
      · trivial
  case h_7 =>
    have hs := sub_last (write := false) (sector := a) (addr := b) (major := S.major) (data := []) hl
    unfold ocDiskR; dsimp only; split
    · split
      · exact ⟨fun _ => .inl hs.1, hs.2, rfl⟩
      · trivial
    · trivial
  case h_8 =>
    have hs := sub_last (write := true) (sector := a) (addr := b) (major := S.major) (data := (inO S.o 0 b ((64 : Nat) : Int)).1) hl
    unfold ocDiskW; dsimp only; split
    · split
      · exact ⟨fun _ => .inl hs.1, hs.2, rfl⟩
      · trivial
    · trivial
  case h_9 =>
    unfold ocSend; dsimp only; split
    · trivial
    · split
      · split
        · exact ⟨fun _ => .inl h0, hl2, snd_len _ _ _ _⟩
        · trivial
      · trivial
  case h_10 =>
    unfold ocRecv; dsimp only; split
    · trivial
    · split
      · split
        · trivial
        · split
          · rename_i q _
            exact ⟨fun _ => .inl (by show small (w32 ((rcvP S.acs 0 a).2.1.length : Int)); unfold small w32; rw [wu32 (by omega) (by omega)]; omega), hl2, rcv_len _ _ _⟩
          · trivial
      · trivial
  case h_11 => exact ⟨fun q => absurd rfl q, hl2, rfl⟩
  case h_12 => exact sm_timer hl
  case h_13 => exact ⟨fun _ => .inl h0, hl2, rfl⟩
  case h_14 =>
    unfold ocInfo
    repeat' split
    all_goals first | trivial | exact ⟨fun _ => .inr ⟨rfl, rfl⟩, hl2, rfl⟩
  case h_15 => trivial
theorem com_last {s : Vd.Ds} {tag : Int} {b : B} : (Vd.comR s tag b).2.last = s.last := by
  unfold Vd.comR
  split
  · rfl
  · split
    · rfl
    · split <;> rfl
theorem comN_last {b : B} : ∀ (rs : List Vd.Rq) (s : Vd.Ds), (comN b rs s).last = s.last
  | [], _ => rfl
  | r :: rs, s => by
    show (comN b rs (Vd.comR s r.tag (padS b)).2).last = _
    rw [comN_last rs, com_last]
theorem outs_last (S : HS) (a : HAct) : (outs S a).d.last = S.d.last := by
  unfold outs
  by_cases k1 : a.Kind = 1
  · rw [if_pos k1]
  rw [if_neg k1]
  by_cases k2 : a.Kind = 2
  · rw [if_pos k2]
  rw [if_neg k2]
  by_cases k3 : a.Kind = 3
  · rw [if_pos k3]
  rw [if_neg k3]
  by_cases k4 : a.Kind = 4
  · rw [if_pos k4]
  rw [if_neg k4]
  by_cases k5 : a.Kind = 5
  · rw [if_pos k5]
  rw [if_neg k5]
  by_cases k6 : a.Kind = 6
  · rw [if_pos k6]
  rw [if_neg k6]
  by_cases k7 : a.Kind = 7
  · rw [if_pos k7]
  rw [if_neg k7]
  by_cases k8 : a.Kind = 8
  · rw [if_pos k8]; show (comN _ _ _).last = _; rw [comN_last]; rfl
  rw [if_neg k8]
  by_cases k9 : a.Kind = 9
  · rw [if_pos k9]; rfl
  rw [if_neg k9]
  by_cases k10 : a.Kind = 10
  · rw [if_pos k10]
  rw [if_neg k10]
  by_cases k11 : a.Kind = 11
  · rw [if_pos k11]
  rw [if_neg k11]
theorem fin_ef {S : HS} {R : List Value} {n : Nat} {oc : Nat ⊕ MO} (hw : Way S R n oc) : (fin S R oc).ef = if n = 1 then 1 else 0 := by
  cases hw with
  | bad k _ _ h1 _ => rw [if_neg h1]; rfl
  | ok ans cp ef S' R' _ _ e _ _ _ _ _ _ => exact e
theorem fin_sm {S : HS} {R : List Value} {n : Nat} {oc : Nat ⊕ MO} (h : Sm S n oc) (hl : 0 ≤ S.d.last) : (n ≠ 11 → 4294967288 ≤ (fin S R oc).ans → (fin S R oc).S = S ∧ (fin S R oc).cp = 0) ∧ (0 ≤ (fin S R oc).S.d.last ∧ (fin S R oc).S.d.last ≤ S.d.last + 1) ∧ (fin S R oc).S.acs.length = S.acs.length := by
  cases oc with
  | inl k => exact ⟨fun _ _ => ⟨rfl, rfl⟩, (by show 0 ≤ S.d.last ∧ S.d.last ≤ S.d.last + 1; omega), rfl⟩
  | inr m =>
    obtain ⟨h1, h2, h3⟩ := h
    refine ⟨fun hn hb => ?_, h2, h3⟩
    rcases h1 hn with q | q
    · unfold small at q; have : 4294967288 ≤ m.ans := hb; omega
    · exact q
end Go.Proofs.YtphljkplokjonaaGreat.Hc
namespace Go.Proofs.YtphljkplokjonaaGreat.hcallRefused
open Go Go.Sl Go.RowKit Go.Proofs Go.Proofs.YtphljkplokjonaaGreat.T Go.Proofs.YtphljkplokjonaaGreat.Sp Go.Proofs.YtphljkplokjonaaGreat.Hc
set_option maxRecDepth 100000
theorem ans1 (g : Rg) (n : Nat) (tm v : Int) : (g.ans n tm v).rs[1]? = some v := by
  unfold Rg.ans
  show ((if n = 11 then _ else g.rs).set 1 v)[1]? = some v
  exact List.getElem?_set_self (by split <;> simp [g.lr])
set_option maxHeartbeats 8000000 in
theorem walk (W : World) {qu : Int} {a0 : Option Addr} {c0 : Nat} {ops : List HAct} (hops : SlAt W 28 a0 ops.length ((ops.map HAct.cells).flatten)) (hok : ∀ o ∈ ops, o.OK W) :
    Ctr Tryz.prog W 3 [.int .i64 qu, .slice a0 ops.length c0] [old W] (fun _ : Unit => True) (fun _ => .bool true) (fun _ => [old W]) := by
  have hmd := md_range (k := 30) (by decide) qu
  have hwx := wrap_u64_range qu
  obtain ⟨q0, hq0⟩ : ∃ q0, q0 = 1 + md 30 qu := ⟨_, rfl⟩
  have hq1 : 1 ≤ q0 ∧ q0 ≤ 30 := by omega
  refine Ctr.of_body Tryz.func3 rfl Tryz.ntmps3 rfl ?_
  refine CG.seq ?_
  refine CG.region ?_
  refine OG.sg rfl rfl ?_
  refine OG.nil ?_
  refine QG.then ?_
  refine CG.seq ?_
  refine CG.seq ?_
  refine CG.region ?_
  refine OG.callo call12 rfl (Imp.refl _) (works_spec W _) rfl ?_
  rintro ⟨⟩ -
  refine OG.yield (Yield.not rfl) rfl ?_
  refine OG.nil ?_
  refine QG.then ?_
  refine CG.cond_f rfl ?_
  refine CG.skip ?_
  refine QG.then ?_
  refine CG.seq ?_
  refine CG.region ?_
  refine OG.mv rfl rfl ?_
  refine OG.yield (Yield.conv Tryz.underlying24 rfl rfl rfl) rfl ?_
  refine OG.yield (Yield.rem (c := md 30 qu) rfl rfl (by decide) (tmod_pos (by omega) (by omega))) rfl ?_
  refine OG.yield (Yield.conv (c := md 30 qu) Tryz.underlying3 rfl rfl (w64 (by omega) (by omega))) rfl ?_
  refine OG.yield (Yield.add (c := q0) rfl rfl (by rw [w64 (by omega) (by omega), hq0])) rfl ?_
  refine OG.sg rfl rfl ?_
  refine OG.nil ?_
  refine QG.then ?_
  refine CG.seq ?_
  refine CG.region ?_
  refine OG.mv rfl rfl ?_
  refine OG.callo call13 rfl (Imp.refl _) (program_spec W _ (q := q0) hq1.1 hq1.2) rfl ?_
  rintro ⟨x, σ⟩ L0
  have I0 := HI.new (x := x) hq1.1 hq1.2 L0
  clear L0
  dsimp only at I0 ⊢
  refine OG.sg rfl rfl ?_
  refine OG.nil ?_
  refine QG.then ?_
  refine CG.seq ?_
  refine CG.seq ?_
  refine CG.region ?_
  refine OG.mv rfl rfl ?_
  refine OG.yield (by first | exact Yield.ptr_nil Tryz.underlying25 rfl rfl | exact Yield.nil_nil Tryz.underlying25 rfl rfl) rfl ?_
  refine OG.nil ?_
  refine QG.then ?_
  refine CG.cond_f rfl ?_
  refine CG.skip ?_
  refine QG.then ?_
  refine CG.cut (fun _ : Unit => True) (fun _ => [(5, .pointer (some ⟨x.e, 0, none⟩))]) (fun _ => [old W]) ?_ ?_
  · skip
    refine CG.seq ?_
    refine CG.region ?_
    refine OG.sg rfl rfl ?_
    refine OG.nil ?_
    refine QG.then ?_
    refine CG.block ?_
    refine CG.loop (fun y : Nat × HS × St => y.1 ≤ ops.length ∧ y.1 ≤ 120 ∧ HI q0 x y.2.1 y.2.2 (8192 * y.1) ∧ y.2.1.acs.length = 4 ∧ 0 ≤ y.2.1.d.last ∧ y.2.1.d.last ≤ y.1) (fun y => [(1, .slice a0 ops.length c0), (5, .pointer (some ⟨x.e, 0, none⟩)), (6, .int .i64 y.1)]) (fun y => hG x y.2.1 [q0, 8] y.2.2 [old W]) (fun y => ops.length - y.1) (0, HS0, σ) ⟨Nat.zero_le _, Nat.zero_le _, I0, rfl, show (0 : Int) ≤ 0 by decide, show (0 : Int) ≤ ((0 : Nat) : Int) by decide⟩ eS iM ?_
    clear I0
    rintro ⟨i, S, σ⟩ ⟨im, im2, hI, hac, hl0, hl1⟩
    dsimp only at im im2 hI hac hl0 hl1 ⊢
    refine CG.seq ?_
    refine CG.seq ?_
    rcases loop_head (i) (ops.length) 120 with hh | hh | hh
    · skip
      refine CG.region ?_
      refine OG.mv rfl rfl ?_
      refine OG.mv rfl rfl ?_
      refine OG.yield (Yield.len_slice Tryz.underlying22 rfl rfl) rfl ?_
      refine OG.yield Yield.lssA rfl ?_
      refine OG.mv rfl rfl ?_
      refine OG.gy rfl rfl rfl ?_
      refine OG.mv rfl rfl ?_
      refine OG.gy rfl rfl rfl ?_
      refine OG.yield Yield.lssA rfl ?_
      refine OG.yield Yield.pickA rfl ?_
      refine OG.nil ?_
      refine QG.then ?_
      refine CG.cond_t rfl ?_
      refine CG.skip ?_
      refine QG.then ?_
      obtain ⟨h1, h2⟩ := hh
      have hget : ops[i]? = some ops[i] := by simp [h1]
      have hko := hok ops[i] (List.getElem_mem h1)
      generalize ops[i] = op at hget hko
      refine CG.pure (fun w hw => (hops.old (G := hG x S [q0, 8] σ [old W]) eX).elem_shape HAct.len (by decide) h1 w hw) ?_
      rintro ⟨b, o, rfl⟩
      refine CG.pure (fun w hw => Vd.d_facts (d := x.d) eX w hw) ?_
      intro hdok
      refine CG.pure (fun w hw => po_facts (p := x.p) eX w hw) ?_
      intro hpo
      have hHK := hI.hk (by omega) hdok.told
      have hBm := hko.Bm
      unfold reachBytes at hBm
      have hrow : ∀ {G R : List HProp}, Ext G (old W) R → Row W G b (o + i * 28) (HAct.cells op) := fun x => (hops.old x).elem HAct.len hget
      have hreg : ∀ {G R : List HProp}, Ext G (old W) R → Row W G b (o + i * 28 + 1) op.g.v := fun x j v hj => by have := hrow x (1 + j) v (HAct.reg hj); rw [← Nat.add_assoc] at this; exact this
      obtain ⟨n, g1, hn⟩ := Rg.z_get hko.g (i := 1) (by decide) (by decide)
      obtain ⟨ra, g2, hra⟩ := Rg.z_get hko.g (i := 2) (by decide) (by decide)
      obtain ⟨rb, g3, hrb⟩ := Rg.z_get hko.g (i := 3) (by decide) (by decide)
      obtain ⟨rc, g4, hrc⟩ := Rg.z_get hko.g (i := 4) (by decide) (by decide)
      have hgz : op.g.v.set 0 (.int .u32 0) = op.g.z.v := Rg.set_r _ (by decide) _
      have hw := way_of (qk := q0) (S := S) (R := op.g.z.v) (n := n) (a := ra) (b := rb) (c := rc)
      have hef := fin_ef hw
      have hsm := fin_sm (R := op.g.z.v) (sm_of (qk := q0) (S := S) (R := op.g.z.v) (n := n) (a := ra) (b := rb) (c := rc) (by omega)) hl0
      refine CG.seq ?_
      refine CG.block ?_
      refine CG.seq ?_
      refine CG.seq ?_
      refine CG.region ?_
      refine OG.mv rfl rfl ?_
      refine OG.mv rfl rfl ?_
      refine OG.yield (Yield.index_slice Tryz.underlying22 ti34 rfl rfl (by omega) (by omega)) rfl ?_
      refine OG.yield (Yield.fieldAddr fa34_0 rfl) rfl ?_
      refine OG.yield (Yield.load (v := .int .i64 op.Kind) ti3 rfl ((hrow eX) 0 _ (HAct.c0 op))) rfl ?_
      refine OG.yield (Yield.neq rfl rfl) rfl ?_
      refine OG.nil ?_
      refine QG.then ?_
      refine CG.cond rfl (fun hc => ?_) (fun hc => ?_)
      · try replace hc := of_decide_eq_true hc
        refine CG.seq ?_
        refine CG.region ?_
        refine OG.mv rfl rfl ?_
        refine OG.mv rfl rfl ?_
        refine OG.mv rfl rfl ?_
        refine OG.yield (Yield.index_slice Tryz.underlying22 ti34 rfl rfl (by omega) (by omega)) rfl ?_
        refine OG.yield (Yield.load_agg (vs := HAct.cells op) ti34 rfl (HAct.len _) (hrow eX)) rfl ?_
        refine OG.callo call14 rfl (iM) (outside_spec W _ (a := op) hHK (by exact RdB.of_slR (hko.B.old eX) hko.Bc) (by omega) rfl) rfl ?_
        rintro σ2 L2
        refine OG.nil ?_
        refine QG.then ?_
        refine CG.exit ?_
        refine QG.pass_exit ?_
        refine QG.block_exit ?_
        refine QG.then ?_
        refine CG.region ?_
        refine OG.mv rfl rfl ?_
        refine OG.yield (Yield.add rfl rfl (w64 (by omega) (by omega))) rfl ?_
        refine OG.sg rfl rfl ?_
        refine OG.nil ?_
        exact QG.next (i + 1, outs S op, σ2) ⟨by simp only; omega, by simp only; omega, hI.outs op (by rw [show 8192 * (i + 1) = 8192 * i + 8192 by omega]; exact L2), by rw [outs_acs]; exact hac, by rw [outs_last]; exact hl0, by rw [outs_last]; omega⟩ (by simp only; omega) eS iM
      · try replace hc := of_decide_eq_false hc
        refine CG.skip ?_
        refine QG.then ?_
        refine CG.seq ?_
        refine CG.region ?_
        refine OG.mv rfl rfl ?_
        refine OG.callo call15 rfl (iM) (look_spec W [old W] hI hac) rfl ?_
        rintro z hz
        have hel := SN.es_len hz hac
        have hml := SN.ms_len hz hpo
        refine OG.effd (Eff.alloc ti40) rfl ?_
        rintro b7 -
        refine OG.eff (Eff.storeAll ti40 rfl rfl fC rfl (by simp [SN.cells, one]) rfl) rfl ?_
        rintro ⟨⟩ -
        refine OG.nil ?_
        refine QG.then ?_
        refine CG.seq ?_
        refine CG.region ?_
        refine OG.mv rfl rfl ?_
        refine OG.mv rfl rfl ?_
        refine OG.yield (Yield.index_slice Tryz.underlying22 ti34 rfl rfl (by omega) (by omega)) rfl ?_
        refine OG.yield (Yield.fieldAddr fa34_1 rfl) rfl ?_
        refine OG.yield (Yield.load_agg (vs := op.g.v) ti31 rfl (Rg.len _) (hreg eX)) rfl ?_
        refine OG.effd (Eff.alloc ti31) rfl ?_
        rintro b8 -
        refine OG.eff (Eff.storeAll ti31 rfl rfl fC (Rg.len _) (Rg.ones _) rfl) rfl ?_
        rintro ⟨⟩ -
        refine OG.nil ?_
        refine QG.then ?_
        refine CG.seq ?_
        refine CG.region ?_
        refine OG.yield (Yield.fieldAddr fa31_0 rfl) rfl ?_
        refine OG.yield (Yield.index_array Tryz.underlying28 ti27 rfl rfl (by omega) (by omega)) rfl ?_
        refine OG.eff (Eff.store1 ti27 rfl rfl fC rfl (by rw [Rg.len]; decide)) rfl ?_
        rintro ⟨⟩ -
        rw [show (0 + 0 + (0 : Int).toNat * 1) = 0 from rfl, hgz]
        refine OG.nil ?_
        refine QG.then ?_
        refine CG.seq ?_
        refine CG.region ?_
        refine OG.yield (Yield.fieldAddr fa31_0 rfl) rfl ?_
        refine OG.yield (Yield.index_array Tryz.underlying28 ti27 rfl rfl (by omega) (by omega)) rfl ?_
        refine OG.yield (Yield.load (v := .int .u32 n) ti27 rfl (Cel.of_blk (b := b8) eX (Rg.r g1))) rfl ?_
        refine OG.sg rfl rfl ?_
        refine OG.nil ?_
        refine QG.then ?_
        refine CG.seq ?_
        refine CG.region ?_
        refine OG.mv rfl rfl ?_
        refine OG.yield (Yield.load_agg (vs := op.g.z.v) ti31 rfl (Rg.len _) (fun j v hj => Cel.of_blk (b := b8) eX (by rw [Nat.zero_add j]; exact hj))) rfl ?_
        refine OG.callo call16 rfl (iM) (Do_c W (blk b8 op.g.z.v 31 :: blk b7 (z.cells S) 40 :: (z.G S ++ [old W])) (g := op.g.z) (n := n) (a := ra) (b := rb) (c := rc) hI (by omega) hra hrb hrc hn g1 g2 g3 g4) rfl ?_
        rintro σ2 I2
        generalize hm : fin S op.g.z.v (ocOf q0 S op.g.z.v n ra rb rc) = m at hef hsm I2 ⊢
        clear hm hw
        obtain ⟨ans, cp, ef, S2, R2⟩ := m
        dsimp only [SN.G, List.cons_append, List.nil_append] at hef hsm I2 ⊢
        have hac2 : S2.acs.length = 4 := hsm.2.2.trans hac
        have hla := hsm.2.1
        have hef1 : ef = 1 ↔ n = 1 := by rw [hef]; by_cases q : n = 1 <;> simp [q]
        refine OG.mv rfl rfl ?_
        refine OG.yield (Yield.extract rfl rfl) rfl ?_
        refine OG.yield (Yield.extract rfl rfl) rfl ?_
        refine OG.yield (Yield.extract rfl rfl) rfl ?_
        refine OG.effd (Eff.alloc ti31) rfl ?_
        rintro b10 -
        refine OG.eff (Eff.storeAll ti31 rfl rfl fC (Rg.len _) (Rg.ones _) rfl) rfl ?_
        rintro ⟨⟩ -
        refine OG.sg rfl rfl ?_
        refine OG.sg rfl rfl ?_
        refine OG.nil ?_
        refine QG.then ?_
        refine CG.seq ?_
        rcases (show ¬ 4294967288 ≤ ans ∨ (4294967288 ≤ ans ∧ n = 11) ∨ (4294967288 ≤ ans ∧ n ≠ 11) by omega) with q | q | q
        · skip
          refine CG.region ?_
          refine OG.yield (Yield.fieldAddr fa31_0 rfl) rfl ?_
          refine OG.yield (Yield.index_array Tryz.underlying28 ti27 rfl rfl (by omega) (by omega)) rfl ?_
          refine OG.yield (Yield.load (v := .int .u32 ans) ti27 rfl (Cel.of_blk (b := b10) eX (Rg.r (ans1 _ _ _ _)))) rfl ?_
          refine OG.yield (Yield.as (Yield.geq rfl rfl) (v' := .bool false) (bF (by omega))) rfl ?_
          refine OG.mv rfl rfl ?_
          refine OG.gn rfl rfl rfl rfl rfl ?_
          refine OG.gn rfl rfl rfl rfl rfl ?_
          refine OG.yield Yield.pickA rfl ?_
          refine OG.sg rfl rfl ?_
          refine OG.nil ?_
          refine QG.then ?_
          refine CG.seq ?_
          refine CG.draw (.look 0 1 (.look 1 1 (.look 2 1 (.look 4 0 (.eff1 3 false (.eff1 5 false (.look 6 1 (.look 7 1 (.look 8 1 (.look 9 1 (.look 10 1 (.look 11 1 (.look 12 1 (.look 13 1 (.look 14 1 (.look 15 1 (.look 16 1 (.look 17 1 (.look 18 1 (.done)))))))))))))))))))) [3, 5] [] ([blk b7 (z.cells S) 40]) ([]) mixed (by kernel_rfl) iM (Imp.none _) ?_
          refine DG.look rfl rfl (Yield.move rfl) rfl ?_
          refine DG.look rfl rfl (Yield.move rfl) rfl ?_
          refine DG.pass rfl rfl rfl ?_
          refine DG.pass rfl rfl rfl ?_
          refine DG.eff1 ?_
          refine Chg.pass rfl rfl rfl ?_ iM iM
          refine DG.eff1 ?_
          refine Chg.pass rfl rfl rfl ?_ iM iM
          refine DG.pass rfl rfl rfl ?_
          refine DG.pass rfl rfl rfl ?_
          refine DG.pass rfl rfl rfl ?_
          refine DG.pass rfl rfl rfl ?_
          refine DG.pass rfl rfl rfl ?_
          refine DG.look rfl rfl Yield.pickA rfl ?_
          refine DG.look rfl rfl (Yield.move rfl) rfl ?_
          refine DG.look rfl rfl (Yield.move rfl) rfl ?_
          refine DG.look rfl rfl (Yield.as (Yield.eql rfl rfl) (v' := .bool (decide (n = 1))) (congrArg Value.bool (decide_eq_decide.2 hef1))) rfl ?_
          refine DG.look rfl rfl (Yield.move rfl) rfl ?_
          refine DG.look rfl rfl (Yield.as (Yield.eql rfl rfl) (v' := .bool (decide (n = 1))) (congrArg Value.bool (decide_eq_decide.2 (by omega)))) rfl ?_
          refine DG.look rfl rfl (Yield.bool_samen Tryz.underlying4 rfl rfl) rfl ?_
          refine DG.look rfl rfl Yield.pickA rfl ?_
          refine DG.done ?_
          refine QG.then ?_
          refine CG.cond_f rfl ?_
          refine CG.skip ?_
          refine QG.block_normal ?_
          refine QG.then ?_
          refine CG.region ?_
          refine OG.mv rfl rfl ?_
          refine OG.yield (Yield.add rfl rfl (w64 (by omega) (by omega))) rfl ?_
          refine OG.sg rfl rfl ?_
          refine OG.nil ?_
          exact QG.next (i + 1, S2, σ2) ⟨by simp only; omega, by simp only; omega, by rw [show 8192 * (i + 1) = 8192 * i + 8192 by omega]; exact I2, hac2, hla.1, by simp only; omega⟩ (by simp only; omega) eS iM
        · skip
          refine CG.region ?_
          refine OG.yield (Yield.fieldAddr fa31_0 rfl) rfl ?_
          refine OG.yield (Yield.index_array Tryz.underlying28 ti27 rfl rfl (by omega) (by omega)) rfl ?_
          refine OG.yield (Yield.load (v := .int .u32 ans) ti27 rfl (Cel.of_blk (b := b10) eX (Rg.r (ans1 _ _ _ _)))) rfl ?_
          refine OG.yield (Yield.as (Yield.geq rfl rfl) (v' := .bool true) (bT (by omega))) rfl ?_
          refine OG.mv rfl rfl ?_
          refine OG.gy rfl rfl rfl ?_
          refine OG.mv rfl rfl ?_
          refine OG.gy rfl rfl rfl ?_
          refine OG.yield (Yield.as (Yield.neq rfl rfl) (v' := .bool false) (bF (by omega))) rfl ?_
          refine OG.yield Yield.pickA rfl ?_
          refine OG.sg rfl rfl ?_
          refine OG.nil ?_
          refine QG.then ?_
          refine CG.seq ?_
          refine CG.draw (.look 0 1 (.look 1 1 (.look 2 1 (.look 4 0 (.eff1 3 false (.eff1 5 false (.look 6 1 (.look 7 1 (.look 8 1 (.look 9 1 (.look 10 1 (.look 11 1 (.look 12 1 (.look 13 1 (.look 14 1 (.look 15 1 (.look 16 1 (.look 17 1 (.look 18 1 (.done)))))))))))))))))))) [3, 5] [] ([blk b7 (z.cells S) 40]) ([]) mixed (by kernel_rfl) iM (Imp.none _) ?_
          refine DG.look rfl rfl (Yield.move rfl) rfl ?_
          refine DG.look rfl rfl (Yield.move rfl) rfl ?_
          refine DG.pass rfl rfl rfl ?_
          refine DG.pass rfl rfl rfl ?_
          refine DG.eff1 ?_
          refine Chg.pass rfl rfl rfl ?_ iM iM
          refine DG.eff1 ?_
          refine Chg.pass rfl rfl rfl ?_ iM iM
          refine DG.pass rfl rfl rfl ?_
          refine DG.pass rfl rfl rfl ?_
          refine DG.pass rfl rfl rfl ?_
          refine DG.pass rfl rfl rfl ?_
          refine DG.pass rfl rfl rfl ?_
          refine DG.look rfl rfl Yield.pickA rfl ?_
          refine DG.look rfl rfl (Yield.move rfl) rfl ?_
          refine DG.look rfl rfl (Yield.move rfl) rfl ?_
          refine DG.look rfl rfl (Yield.as (Yield.eql rfl rfl) (v' := .bool (decide (n = 1))) (congrArg Value.bool (decide_eq_decide.2 hef1))) rfl ?_
          refine DG.look rfl rfl (Yield.move rfl) rfl ?_
          refine DG.look rfl rfl (Yield.as (Yield.eql rfl rfl) (v' := .bool (decide (n = 1))) (congrArg Value.bool (decide_eq_decide.2 (by omega)))) rfl ?_
          refine DG.look rfl rfl (Yield.bool_samen Tryz.underlying4 rfl rfl) rfl ?_
          refine DG.look rfl rfl Yield.pickA rfl ?_
          refine DG.done ?_
          refine QG.then ?_
          refine CG.cond_f rfl ?_
          refine CG.skip ?_
          refine QG.block_normal ?_
          refine QG.then ?_
          refine CG.region ?_
          refine OG.mv rfl rfl ?_
          refine OG.yield (Yield.add rfl rfl (w64 (by omega) (by omega))) rfl ?_
          refine OG.sg rfl rfl ?_
          refine OG.nil ?_
          exact QG.next (i + 1, S2, σ2) ⟨by simp only; omega, by simp only; omega, by rw [show 8192 * (i + 1) = 8192 * i + 8192 by omega]; exact I2, hac2, hla.1, by simp only; omega⟩ (by simp only; omega) eS iM
        · skip
          refine CG.region ?_
          refine OG.yield (Yield.fieldAddr fa31_0 rfl) rfl ?_
          refine OG.yield (Yield.index_array Tryz.underlying28 ti27 rfl rfl (by omega) (by omega)) rfl ?_
          refine OG.yield (Yield.load (v := .int .u32 ans) ti27 rfl (Cel.of_blk (b := b10) eX (Rg.r (ans1 _ _ _ _)))) rfl ?_
          refine OG.yield (Yield.as (Yield.geq rfl rfl) (v' := .bool true) (bT (by omega))) rfl ?_
          refine OG.mv rfl rfl ?_
          refine OG.gy rfl rfl rfl ?_
          refine OG.mv rfl rfl ?_
          refine OG.gy rfl rfl rfl ?_
          refine OG.yield (Yield.as (Yield.neq rfl rfl) (v' := .bool true) (bT (by omega))) rfl ?_
          refine OG.yield Yield.pickA rfl ?_
          refine OG.sg rfl rfl ?_
          refine OG.nil ?_
          refine QG.then ?_
          refine CG.seq ?_
          obtain ⟨hS, hcp⟩ := hsm.1 q.2 q.1
          subst hS
          refine CG.draw (.look 0 1 (.look 1 1 (.look 2 1 (.look 4 0 (.eff1 3 false (.eff1 5 false (.look 6 1 (.look 7 1 (.look 8 1 (.look 9 1 (.look 10 1 (.look 11 1 (.look 12 1 (.look 13 1 (.look 14 1 (.look 15 1 (.look 16 1 (.look 17 1 (.look 18 1 (.done)))))))))))))))))))) [3, 5] [] ([blk b7 (z.cells S2) 40]) ([]) mixed (by kernel_rfl) iM (Imp.none _) ?_
          refine DG.look rfl rfl (Yield.move rfl) rfl ?_
          refine DG.look rfl rfl (Yield.move rfl) rfl ?_
          refine DG.look rfl rfl (Yield.move rfl) rfl ?_
          refine DG.look rfl rfl (Yield.load_agg (vs := z.cells S2) ti40 rfl rfl (fun j v hj => Cel.of_blk (b := b7) eX (by rw [Nat.zero_add j]; exact hj))) rfl ?_
          refine DG.eff1 ?_
          refine Chg.callo rfl rfl call15 rfl (iM) (look_spec W (blk b7 (z.cells S2) 40 :: (z.G S2 ++ [old W])) I2 hac) rfl (fun _ => iM) (fun _ => Imp.refl _) (fun _ => iM) ?_
          rintro y hy
          dsimp only [SN.G, List.cons_append, List.nil_append]
          refine DG.eff1 ?_
          refine Chg.callo rfl rfl call17 rfl (iM) (same_spec W (blk b7 (z.cells S2) 40 :: hG x S2 [q0, 8] σ2 [old W]) (z := y) (y := z) hy hz (by show (S2.d.asks.map Vd.Ak.tag).length ≤ 4; rw [List.length_map]; exact hdok.asks) (by have := SN.es_len hy hac; omega) (SN.ms_len hy hpo)) rfl (fun _ => iM) (fun _ => Imp.refl _) (fun _ => iM) ?_
          rintro ⟨⟩ -
          refine DG.look rfl rfl (Yield.not rfl) rfl ?_
          refine DG.look rfl rfl (Yield.move rfl) rfl ?_
          refine DG.look rfl rfl (Yield.move rfl) rfl ?_
          refine DG.look rfl rfl (Yield.as (Yield.neq rfl rfl) (v' := .bool false) (bF (not_not_intro (by rw [hcp]; rfl)))) rfl ?_
          refine DG.look rfl rfl Yield.pickA rfl ?_
          refine DG.look rfl rfl Yield.pickA rfl ?_
          refine DG.look rfl rfl (Yield.move rfl) rfl ?_
          refine DG.look rfl rfl (Yield.move rfl) rfl ?_
          refine DG.look rfl rfl (Yield.as (Yield.eql rfl rfl) (v' := .bool (decide (n = 1))) (congrArg Value.bool (decide_eq_decide.2 hef1))) rfl ?_
          refine DG.look rfl rfl (Yield.move rfl) rfl ?_
          refine DG.look rfl rfl (Yield.as (Yield.eql rfl rfl) (v' := .bool (decide (n = 1))) (congrArg Value.bool (decide_eq_decide.2 (by omega)))) rfl ?_
          refine DG.look rfl rfl (Yield.bool_samen Tryz.underlying4 rfl rfl) rfl ?_
          refine DG.look rfl rfl Yield.pickA rfl ?_
          refine DG.done ?_
          refine QG.then ?_
          refine CG.cond_f rfl ?_
          refine CG.skip ?_
          refine QG.block_normal ?_
          refine QG.then ?_
          refine CG.region ?_
          refine OG.mv rfl rfl ?_
          refine OG.yield (Yield.add rfl rfl (w64 (by omega) (by omega))) rfl ?_
          refine OG.sg rfl rfl ?_
          refine OG.nil ?_
          exact QG.next (i + 1, S2, σ2) ⟨by simp only; omega, by simp only; omega, by rw [show 8192 * (i + 1) = 8192 * i + 8192 by omega]; exact I2, hac2, hla.1, by simp only; omega⟩ (by simp only; omega) eS iM
    · skip
      refine CG.region ?_
      refine OG.mv rfl rfl ?_
      refine OG.mv rfl rfl ?_
      refine OG.yield (Yield.len_slice Tryz.underlying22 rfl rfl) rfl ?_
      refine OG.yield Yield.lssA rfl ?_
      refine OG.mv rfl rfl ?_
      refine OG.gy rfl rfl rfl ?_
      refine OG.mv rfl rfl ?_
      refine OG.gy rfl rfl rfl ?_
      refine OG.yield Yield.lssA rfl ?_
      refine OG.yield Yield.pickA rfl ?_
      refine OG.nil ?_
      refine QG.then ?_
      refine CG.cond_f rfl ?_
      refine CG.exit ?_
      refine QG.pass_exit ?_
      refine QG.pass_exit ?_
      refine QG.block_exit ?_
      exact QG.mid () trivial eS iM
    · skip
      refine CG.region ?_
      refine OG.mv rfl rfl ?_
      refine OG.mv rfl rfl ?_
      refine OG.yield (Yield.len_slice Tryz.underlying22 rfl rfl) rfl ?_
      refine OG.yield Yield.lssA rfl ?_
      refine OG.mv rfl rfl ?_
      refine OG.gn rfl rfl rfl rfl rfl ?_
      refine OG.gn rfl rfl rfl rfl rfl ?_
      refine OG.yield Yield.pickA rfl ?_
      refine OG.nil ?_
      refine QG.then ?_
      refine CG.cond_f rfl ?_
      refine CG.exit ?_
      refine QG.pass_exit ?_
      refine QG.pass_exit ?_
      refine QG.block_exit ?_
      exact QG.mid () trivial eS iM
  rintro ⟨⟩ -
  refine CG.seq ?_
  refine CG.region ?_
  refine OG.sg rfl rfl ?_
  refine OG.nil ?_
  refine QG.then ?_
  refine CG.ret ?_
  exact QG.ret1 rfl rfl () trivial rfl iM
open Go.ChangeShapes Go.WideShapes Go.ChangeAt
theorem own : ownKnob Tryz.prog.godebug = none := by kernel_rfl
theorem laid : laidOutB Tryz.prog = true := by kernel_rfl
set_option maxRecDepth 100000 in
theorem lifted (os : Os) (started : os.Started) (H : Type) (enc : TypeId × Value → H) :
    ReturnsInHanded {} Tryz.checked os 3 .any (Rows.hcallRefusedSpec.pre6 enc Tryz.prog Tryz.f3 Rows.hcallRefusedRow.domain false) (Rows.hcallRefusedSpec.post enc Tryz.prog Tryz.f3 false true false false) := by
  refine returnsInHanded_of_change_sized (C := Tryz.checked) own started (by kernel_rfl) Tryz.func3
    (ChangeSpec.witness6 (enc := enc) (C := Tryz.checked) false ⟨#[], #[.int .i64 0, .slice none 0 0], []⟩ 8 (by kernel_rfl) (by kernel_rfl) (by kernel_rfl) (by kernel_rfl)) ?_
  intro W base args ds gs before hval0 hW hcnd hsz0 _
  have hsz : (DataW.weightsEach Tryz.prog (Tryz.f3.params.toList ++ Rows.hcallRefusedSpec.plain.varTypes Tryz.prog) (ds ++ gs)).all (· ≤ reachBytes) = true := hsz0
  have hval : ∀ (j : Nat) t v, Tryz.f3.params[j]? = some t → args[j]? = some v → Value.okWide Tryz.prog W .any base t v := hval0
  have hW' := hW
  obtain ⟨p, q, hA0, hV, rfl, hfz, hnd⟩ := hW
  have hA : DataW.TrodAll enc Tryz.prog W 0 (fun _ => true) true Tryz.f3.params.toList args.toList ds p := hA0
  rw [Tryz.params3] at hA hval hsz
  obtain ⟨v0, vs0, d0, ds0, p0, q0, hargs, rfl, rfl, h0, r0⟩ := trodAll_cons hA
  obtain ⟨v1, vs1, d1, ds1, p1, q1, rfl, rfl, rfl, h1, r1⟩ := trodAll_cons r0
  obtain ⟨rfl, rfl, rfl⟩ := trodAll_nil r1
  obtain rfl : args = #[v0, v1] := by cases args; simp_all
  obtain ⟨rfl, rfl⟩ := trodVars_none hV
  obtain ⟨a0, rfl, rfl, rfl, w0⟩ := open_int Tryz.underlying3 (hval 0 3 v0 rfl rfl) h0
  have k1 := weights_le hsz 1 (t := 22) (d := d1) rfl rfl
  have s1 := Opn.param Tryz.underlying22 (HAct.list W) (hval 1 22 v1 rfl rfl) h1 k1
  obtain ⟨x0, c0, ops, e1, l0, ok0, s0, m0⟩ := s1
  cases e1
  clear hA0 hval0 hsz0 hsz
  refine ((walk W s0 ok0) W (Sat.start W)).mono fun e W' he => ?_
  obtain ⟨_, _, he, hs⟩ := he
  subst he
  exact ⟨_, rfl, law_post laid (params_ok (by kernel_rfl)) rfl Tryz.underlying4 hW' rfl rfl (Sat.below eX hs)⟩
theorem over : Rows.hcallRefusedRow.holds Tryz.pinned (OpenSpec.ofChange Rows.hcallRefusedSpec) :=
  OpenClaim.holds_of_wide 3 Tryz.f3 rfl rfl rfl rfl rfl rfl rfl ⟨rfl, rfl, rfl, rfl, rfl⟩ rfl rfl rfl rfl rfl (by kernel_rfl) Tryz.func3 (by kernel_rfl)
    (of_decide_eq_true (by kernel_rfl)) (by unfold Func.isWrapper; first | (rw [if_pos (by decide +kernel)]; kernel_rfl) | (rw [if_neg (by decide +kernel)]; exact ⟨rfl, rfl⟩))
    (fun os started H enc _ => lifted os started H enc)
theorem proved : Rows.HcallRefusedSaid := over
#print axioms proved
end Go.Proofs.YtphljkplokjonaaGreat.hcallRefused
