/- BlockPlays: whatever is asked of a disk, at whatever times: each answer, and all bytes behind it, are the document's: the law returns true and changes nothing that was there. -/
import Derived.Test.YtoejnhfcegchhaaBdr3
namespace Go.Proofs.Ytoejnhfcegchhaa.Bk
open Go Go.Sl Go.RowKit Go.Proofs Go.Proofs.Ytoejnhfcegchhaa.T Go.Proofs.Ytoejnhfcegchhaa.Ms Go.Proofs.Ytoejnhfcegchhaa.Vd
set_option linter.unusedVariables false
set_option linter.unusedSimpArgs false
set_option maxRecDepth 100000
def lows (l : List Int) (i : Nat) : List Int := List.replicate i (-9) ++ l.drop i
theorem lows_len (l : List Int) {i : Nat} (h : i ≤ l.length) : (lows l i).length = l.length := by simp [lows]; omega
theorem lows_step {l : List Int} {i : Nat} (h : i < l.length) : (lows l i).set i (-9) = lows l (i + 1) := by
  unfold lows
  rw [List.set_append_right _ _ (by simp), List.length_replicate, Nat.sub_self, List.drop_eq_getElem_cons h, List.set_cons_zero, List.replicate_succ', List.append_assoc]; rfl
theorem lows_get {l : List Int} {i : Nat} {x : Int} (h : l[i]? = some x) : (lows l i)[i]? = some x := by
  unfold lows; rw [List.getElem?_append_right (by simp), List.length_replicate, Nat.sub_self, List.getElem?_drop]; simpa using h
theorem intsV_set (k : IntKind) (l : List Int) (i : Nat) (x : Int) : (intsV k l).set i (.int k x) = intsV k (l.set i x) := by simp [intsV, List.map_set]
theorem pool_headC {G : List HProp} {m : Msg} {ms : List Msg} : Imp (pool (m :: ms) :: G) (m.own :: pool ms :: G) := star_take (L := (m :: ms).map Msg.own) (i := 0) rfl
theorem drop_cons {α : Type} {l : List α} {i : Nat} {x : α} (h : l[i]? = some x) : l.drop i = x :: l.drop (i + 1) := by
  obtain ⟨hlt, rfl⟩ := List.getElem?_eq_some_iff.1 h
  exact List.drop_eq_getElem_cons hlt
section
variable (W0 : World) (Fr : List HProp)
set_option maxHeartbeats 2000000 in
theorem spoil_spec {l : List CR} {a : Option Addr} {c : Nat} (hll : l.length ≤ 2 ^ 20) (hml : ∀ r ∈ l, r.m.b.length ≤ dmax) : Ctr Try.prog W0 32 [.slice a l.length c] (oreqs a c l :: pool (l.map CR.m) :: Fr) (fun _ : Unit => True) (fun _ => .tuple #[]) (fun _ => Fr) := by
  refine Ctr.of_body Try.func32 rfl Try.ntmps32 rfl ?_
  refine CG.seq ?_
  refine CG.region ?_
  refine OG.yield (Yield.assign rfl) rfl ?_
  refine OG.nil ?_
  refine QG.then ?_
  refine CG.block ?_
  refine CG.loop (fun t : Nat × List CR => t.1 ≤ l.length ∧ t.2.length = l.length ∧ ∀ j, t.1 ≤ j → t.2[j]? = l[j]?) (fun t => [(0, .slice a l.length c), (2, .int .i64 t.1)]) (fun t => oreqs a c t.2 :: pool ((l.map CR.m).drop t.1) :: Fr) (fun t => l.length - t.1) (0, l) ⟨Nat.zero_le _, rfl, fun _ _ => rfl⟩ (by repeat (first | exact Env.sub_nil _ | refine Env.sub_cons rfl ?_)) (Imp.refl _) ?_
  rintro ⟨i, l'⟩ ⟨hi, hl', hsame⟩
  dsimp only at hi hl' hsame ⊢
  refine CG.seq ?_
  refine CG.seq ?_
  refine CG.region ?_
  refine OG.yield (Yield.move rfl) rfl ?_
  refine OG.yield (Yield.move rfl) rfl ?_
  refine OG.yield (Yield.len_slice Try.underlying32 rfl rfl) rfl ?_
  refine OG.yield (by first | exact Yield.as (Yield.lss rfl rfl) (bT (by omega)) | exact Yield.as (Yield.lss rfl rfl) (bF (by omega)) | exact Yield.lss rfl rfl) rfl ?_
  refine OG.nil ?_
  refine QG.then ?_
  refine CG.cond rfl (fun hc => ?_) (fun hc => ?_)
  · try replace hc := of_decide_eq_true hc
    have hi' : i < l.length := by omega
    have hgl : l[i]? = some l[i] := by simp [hi']
    have hmm := hml l[i] (List.getElem_mem hi')
    generalize l[i] = cr at hgl hmm
    have hg' : l'[i]? = some cr := by rw [hsame i (Nat.le_refl _), hgl]
    have hmg : (l.map CR.m)[i]? = some cr.m := by rw [List.getElem?_map, hgl]; rfl
    unfold dmax at hmm
    rw [drop_cons hmg]
    refine CG.imp (Imp.trans (Imp.pull (A := pool (cr.m :: (l.map CR.m).drop (i + 1))) (by repeat (first | exact Ext.here | apply Ext.there)) (Imp.refl _)) pool_headC) ?_
    refine CG.pure (fun w hw => SlR.elem_shape (W0 := W0) (f := CR.cells) (xs := l') (i := i) (SlR.of_osl (E := 40) (a := a) (c := c) (by repeat (first | exact Ext.here | apply Ext.there))) CR.len (by decide) (by omega) w hw) ?_
    rintro ⟨b, o, rfl⟩
    obtain ⟨part, tag, write, sector, ma, mc, mb⟩ := cr
    dsimp only at hmm
    generalize hml0 : mb.length = ml at hmm
    refine CG.skip ?_
    refine QG.then ?_
    refine CG.seq ?_
    refine CG.block ?_
    refine CG.seq ?_
    refine CG.seq ?_
    refine CG.region ?_
    refine OG.yield (Yield.assign rfl) rfl ?_
    refine OG.nil ?_
    refine QG.then ?_
    refine CG.block ?_
    refine CG.loop (fun t : Nat × B => t.1 ≤ ml ∧ t.2.length = ml) (fun t => [(0, .slice (some ⟨b, o, none⟩) l.length c), (2, .int .i64 i), (3, .int .i64 t.1)]) (fun t => osl 5 1 ma mc ml (bytesV t.2) :: oreqs (some ⟨b, o, none⟩) c l' :: pool ((l.map CR.m).drop (i + 1)) :: Fr) (fun t => ml - t.1) (0, mb) ⟨Nat.zero_le _, hml0⟩ (by repeat (first | exact Env.sub_nil _ | refine Env.sub_cons rfl ?_)) (by rw [← hml0]; exact Imp.pull (A := Msg.own ⟨ma, mc, mb⟩) (by repeat (first | exact Ext.here | apply Ext.there)) (by repeat (first | exact Imp.refl _ | exact Imp.none _ | apply Imp.pull (by repeat (first | exact Ext.here | apply Ext.there)) | apply Imp.trans Imp.drop))) ?_
    rintro ⟨k, xs⟩ ⟨hk, hxl⟩
    dsimp only at hk hxl ⊢
    refine CG.seq ?_
    refine CG.seq ?_
    refine CG.region ?_
    refine OG.yield (Yield.move rfl) rfl ?_
    refine OG.yield (Yield.move rfl) rfl ?_
    refine OG.yield (Yield.move rfl) rfl ?_
    refine OG.yield (Yield.index_slice (b := b) (o := o) (m := l.length) (c := c) Try.underlying32 ti40 rfl rfl (by omega) (by omega)) rfl ?_
    refine OG.yield (Yield.fieldAddr fa40_4 rfl) rfl ?_
    refine OG.yield (Yield.load (v := .slice ma ml mc) ti36 rfl (by rw [show o + (i : Int).toNat * 5 = o + i * 5 by omega, ← hml0]; exact ((SlR.of_osl (E := 40) (a := some ⟨b, o, none⟩) (by repeat (first | exact Ext.here | apply Ext.there))).elem CR.len hg') 4 _ rfl)) rfl ?_
    refine OG.yield (Yield.len_slice (a := ma) (m := ml) (c := mc) Try.underlying36 rfl rfl) rfl ?_
    refine OG.yield (by first | exact Yield.as (Yield.lss rfl rfl) (bT (by omega)) | exact Yield.as (Yield.lss rfl rfl) (bF (by omega)) | exact Yield.lss rfl rfl) rfl ?_
    refine OG.nil ?_
    refine QG.then ?_
    refine CG.cond rfl (fun hc => ?_) (fun hc => ?_)
    · try replace hc := of_decide_eq_true hc
      have hk' : k < xs.length := by omega
      have hget : xs[k]? = some xs[k] := by simp [hk']
      generalize xs[k] = v at hget
      refine CG.pure (fun w hw => SlR.shape (SlR.of_osl (W0 := W0) (E := 5) (a := ma) (c := mc) (by repeat (first | exact Ext.here | apply Ext.there))) (by intro q; have := congrArg List.length q; rw [bytesV_length] at this; simp only [List.length_nil] at this; omega) w hw) ?_
      rintro ⟨bm, om, rfl⟩
      refine CG.skip ?_
      refine QG.then ?_
      refine CG.seq ?_
      refine CG.block ?_
      refine CG.region ?_
      refine OG.yield (Yield.move rfl) rfl ?_
      refine OG.yield (Yield.move rfl) rfl ?_
      refine OG.yield (Yield.index_slice (b := b) (o := o) (m := l.length) (c := c) Try.underlying32 ti40 rfl rfl (by omega) (by omega)) rfl ?_
      refine OG.yield (Yield.fieldAddr fa40_4 rfl) rfl ?_
      refine OG.yield (Yield.load (v := .slice (some ⟨bm, om, none⟩) ml mc) ti36 rfl (by rw [show o + (i : Int).toNat * 5 = o + i * 5 by omega, ← hml0]; exact ((SlR.of_osl (E := 40) (a := some ⟨b, o, none⟩) (by repeat (first | exact Ext.here | apply Ext.there))).elem CR.len hg') 4 _ rfl)) rfl ?_
      refine OG.yield (Yield.move rfl) rfl ?_
      refine OG.yield (Yield.index_slice Try.underlying36 ti5 rfl rfl (by omega) (by omega)) rfl ?_
      refine OG.yield (Yield.load ti5 rfl (v := byteV v) (by rw [show om + (k : Int).toNat * 1 = om + k by omega]; exact (SlR.of_osl (E := 5) (a := some ⟨bm, om, none⟩) (by repeat (first | exact Ext.here | apply Ext.there))).cel (bytesV_get hget))) rfl ?_
      refine OG.yield (Yield.add rfl rfl (wrap_u8_add v 1)) rfl ?_
      refine OG.yield (Yield.index_slice Try.underlying36 ti5 rfl rfl (by omega) (by omega)) rfl ?_
      refine OG.eff (Eff.storeElem (i := k) (v := byteV (v + 1)) ti5 (by rw [show om + (k : Int).toNat * 1 = om + k by omega]; rfl) rfl (Foc.here) rfl (by omega)) rfl ?_
      rintro ⟨⟩ -
      rw [bytesV_set]
      refine OG.nil ?_
      refine QG.block_normal ?_
      refine QG.then ?_
      refine CG.region ?_
      refine OG.yield (Yield.move rfl) rfl ?_
      refine OG.yield (Yield.add rfl rfl (w64 (by omega) (by omega))) rfl ?_
      refine OG.yield (Yield.assign rfl) rfl ?_
      refine OG.nil ?_
      exact QG.next (k + 1, xs.set k (v + 1)) ⟨by simp only; omega, by simpa using hxl⟩ (by simp only; omega) (by repeat (first | exact Env.sub_nil _ | refine Env.sub_cons rfl ?_)) (by repeat (first | exact Imp.refl _ | exact Imp.none _ | apply Imp.pull (by repeat (first | exact Ext.here | apply Ext.there)) | apply Imp.trans Imp.drop))
    · try replace hc := of_decide_eq_false hc
      refine CG.exit ?_
      refine QG.pass_exit ?_
      refine QG.pass_exit ?_
      refine QG.block_exit ?_
      refine QG.then ?_
      refine CG.region ?_
      refine OG.yield (Yield.move rfl) rfl ?_
      refine OG.yield (Yield.move rfl) rfl ?_
      refine OG.yield (Yield.index_slice (b := b) (o := o) (m := l.length) (c := c) Try.underlying32 ti40 rfl rfl (by omega) (by omega)) rfl ?_
      refine OG.yield (Yield.fieldAddr fa40_1 rfl) rfl ?_
      refine OG.yield (Yield.load (v := .int .u32 tag) ti35 rfl (by rw [show o + (i : Int).toNat * 5 = o + i * 5 by omega]; exact ((SlR.of_osl (E := 40) (a := some ⟨b, o, none⟩) (by repeat (first | exact Ext.here | apply Ext.there))).elem CR.len hg') 1 _ rfl)) rfl ?_
      refine OG.yield (Yield.add (c := w32 (tag + 1)) rfl rfl rfl) rfl ?_
      refine OG.yield (Yield.index_slice (b := b) (o := o) (m := l.length) (c := c) Try.underlying32 ti40 rfl rfl (by omega) (by omega)) rfl ?_
      refine OG.yield (Yield.fieldAddr fa40_1 rfl) rfl ?_
      refine OG.eff (Eff.storeFld (i := i) 1 (r := ⟨part, tag, write, sector, ma, mc, mb⟩) (r' := ⟨part, w32 (tag + 1), write, sector, ma, mc, mb⟩) (rs := l') CR.len hg' rfl (by decide) ti35 (by rw [show o + (i : Int).toNat * 5 = o + i * 5 by omega]; rfl) rfl (by repeat (first | exact Foc.here | apply Foc.there)) rfl rfl) rfl ?_
      rintro ⟨⟩ -
      refine OG.nil ?_
      refine QG.block_normal ?_
      refine QG.then ?_
      refine CG.region ?_
      refine OG.yield (Yield.move rfl) rfl ?_
      refine OG.yield (Yield.add rfl rfl (w64 (by omega) (by omega))) rfl ?_
      refine OG.yield (Yield.assign rfl) rfl ?_
      refine OG.nil ?_
      refine QG.next (i + 1, l'.set i ⟨part, w32 (tag + 1), write, sector, ma, mc, mb⟩) ⟨by simp only; omega, by simpa using hl', fun j hj => ?_⟩ (by simp only; omega) (by repeat (first | exact Env.sub_nil _ | refine Env.sub_cons rfl ?_)) ?_
      · dsimp only at hj ⊢; rw [List.getElem?_set_ne (by omega)]; exact hsame j (by omega)
      · dsimp only [oreqs]; rw [List.length_set]; exact (by repeat (first | exact Imp.refl _ | exact Imp.none _ | apply Imp.pull (by repeat (first | exact Ext.here | apply Ext.there)) | apply Imp.trans Imp.drop))
  · try replace hc := of_decide_eq_false hc
    refine CG.exit ?_
    refine QG.pass_exit ?_
    refine QG.pass_exit ?_
    refine QG.block_exit ?_
    exact QG.end0 rfl () trivial rfl (by repeat (first | exact Imp.refl _ | exact Imp.none _ | apply Imp.pull (by repeat (first | exact Ext.here | apply Ext.there)) | apply Imp.trans Imp.drop))
set_option maxHeartbeats 4000000 in
theorem begin_ok {a da : Option Addr} {c dc : Nat} {delays : List Int} {img : B} {n : Nat} (hi0 : RdB W0 Fr a c img) (hil : img.length ≤ 140737488351232) (hs : SlR W0 Fr 1 da delays.length (intsV .i64 delays)) (hl : delays.length ≤ 17592186043904) (he : newE n img.length delays = 0) :
    Ctr Try.prog W0 28 [.int .i64 (n : Int), .slice a img.length c, .slice da delays.length dc] Fr (fun _ : Nat × Nat => True) (fun q => .tuple #[.pointer (some ⟨q.1, 0, none⟩), .pointer (some ⟨q.2, 0, none⟩), .bool true]) (fun q => Bl q.1 ⟨newB n img, delays, 0, 0, []⟩ :: Rl q.2 ⟨newB n img, delays, 0, 0, []⟩ :: Fr) := by
  have hol := intsV_len .i64 delays
  refine Ctr.of_body Try.func28 rfl Try.ntmps28 rfl ?_
  refine CG.seq ?_
  refine CG.region ?_
  refine OG.yield (Yield.assign rfl) rfl ?_
  refine OG.yield (Yield.assign rfl) rfl ?_
  refine OG.yield (Yield.assign rfl) rfl ?_
  refine OG.nil ?_
  refine QG.then ?_
  refine CG.seq ?_
  refine CG.region ?_
  refine OG.effd (Eff.lit0 Try.underlying36 ti5 rfl) rfl ?_
  rintro b17 -
  refine OG.yield (Yield.move rfl) rfl ?_
  refine OG.effd (Eff.appendB (a := some ⟨b17, 0, none⟩) (c := 0) (bs := []) (ys := img) rfl rfl rfl Try.underlying36 Try.underlying36 ti5 (by decide) (by repeat (first | exact Foc.here | apply Foc.there)) (hi0.imp (by repeat (first | exact Imp.refl _ | exact Imp.none _ | apply Imp.pull (by repeat (first | exact Ext.here | apply Ext.there)) | apply Imp.trans Imp.drop))).slR (by simp only [List.length_nil]; omega)) rfl ?_
  rintro ⟨xa, xc⟩ -
  rw [List.nil_append]
  refine OG.yield (Yield.assign rfl) rfl ?_
  refine OG.nil ?_
  refine QG.then ?_
  refine CG.seq ?_
  refine CG.region ?_
  refine OG.effd (Eff.lit0 Try.underlying23 ti3 rfl) rfl ?_
  rintro b20 -
  refine OG.yield (Yield.move rfl) rfl ?_
  refine OG.effd (Eff.append (a := some ⟨b20, 0, none⟩) (c := 0) (m := 0) (xs := []) (k := delays.length) (ys := intsV .i64 delays) rfl rfl rfl Try.underlying23 Try.underlying23 ti3 rfl (by decide) (by repeat (first | exact Foc.here | apply Foc.there)) (hs.imp (by repeat (first | exact Imp.refl _ | exact Imp.none _ | apply Imp.pull (by repeat (first | exact Ext.here | apply Ext.there)) | apply Imp.trans Imp.drop))) (intsV_ones _ _) (by omega)) rfl ?_
  rintro ⟨ya, yc⟩ -
  rw [Nat.zero_add, List.nil_append]
  refine OG.yield (Yield.assign rfl) rfl ?_
  refine OG.nil ?_
  refine QG.then ?_
  refine CG.seq ?_
  refine CG.region ?_
  refine OG.yield (Yield.move rfl) rfl ?_
  refine OG.yield (Yield.move rfl) rfl ?_
  refine OG.yield (Yield.move rfl) rfl ?_
  refine OG.callo call18 rfl (Imp.refl _) (bnew_ok W0 _ (a := xa) (c := xc) (da := ya) (dc := yc) (n := n) (delays := delays) (img := img) (SlR.of_osl (E := 5) (by repeat (first | exact Ext.here | apply Ext.there))) (SlR.of_osl (E := 3) (by repeat (first | exact Ext.here | apply Ext.there))) hl he) rfl ?_
  rintro b -
  refine OG.yield (Yield.move rfl) rfl ?_
  refine OG.yield (Yield.extract rfl rfl) rfl ?_
  refine OG.yield (Yield.extract rfl rfl) rfl ?_
  refine OG.yield (Yield.assign rfl) rfl ?_
  refine OG.yield (Yield.assign rfl) rfl ?_
  refine OG.nil ?_
  refine QG.then ?_
  refine CG.seq ?_
  refine CG.region ?_
  refine OG.yield (Yield.move rfl) rfl ?_
  refine OG.yield (Yield.move rfl) rfl ?_
  refine OG.yield (Yield.move rfl) rfl ?_
  refine OG.callo call63 rfl (Imp.refl _) (rnew_ok W0 _ (a := a) (c := c) (da := da) (dc := dc) (n := n) (delays := delays) (img := img) (by exact (hi0.imp (by repeat (first | exact Imp.refl _ | exact Imp.none _ | apply Imp.pull (by repeat (first | exact Ext.here | apply Ext.there)) | apply Imp.trans Imp.drop))).slR) (hs.imp (by repeat (first | exact Imp.refl _ | exact Imp.none _ | apply Imp.pull (by repeat (first | exact Ext.here | apply Ext.there)) | apply Imp.trans Imp.drop))) hl he) rfl ?_
  rintro r -
  refine OG.yield (Yield.move rfl) rfl ?_
  refine OG.yield (Yield.extract rfl rfl) rfl ?_
  refine OG.yield (Yield.extract rfl rfl) rfl ?_
  refine OG.yield (Yield.assign rfl) rfl ?_
  refine OG.yield (Yield.assign rfl) rfl ?_
  refine OG.nil ?_
  refine QG.then ?_
  refine CG.seq ?_
  refine CG.seq ?_
  refine CG.region ?_
  refine OG.yield (Yield.move rfl) rfl ?_
  refine OG.yield (Yield.move rfl) rfl ?_
  refine OG.yield (Yield.as (Yield.neq rfl rfl) (bF (not_not_intro rfl))) rfl ?_
  refine OG.yield (Yield.move rfl) rfl ?_
  refine OG.guard_yes rfl rfl rfl (by decide) ?_
  refine OG.yield (Yield.move rfl) rfl ?_
  refine OG.guard_yes rfl rfl rfl (by decide) ?_
  refine OG.yield (by first | exact Yield.ptr_nil Try.underlying51 rfl rfl | exact Yield.nil_nil Try.underlying51 rfl rfl) rfl ?_
  refine OG.guard_yes rfl rfl rfl (by decide) ?_
  refine OG.yield (Yield.move rfl) rfl ?_
  refine OG.guard_yes rfl rfl rfl (by decide) ?_
  refine OG.yield (by first | exact Yield.ptr_nil Try.underlying68 rfl rfl | exact Yield.nil_nil Try.underlying68 rfl rfl) rfl ?_
  refine OG.guard_yes rfl rfl rfl (by decide) ?_
  refine OG.yield (Yield.as (Yield.bool_neq Try.underlying4 rfl rfl) (v' := .bool false) (by simp)) rfl ?_
  refine OG.yield (by first | exact Yield.pick_t rfl rfl | exact Yield.pick_f rfl rfl | exact Yield.pick rfl (fun _ => rfl) (fun _ => rfl)) rfl ?_
  refine OG.yield (Yield.move rfl) rfl ?_
  refine OG.guard_yes rfl rfl rfl (by decide) ?_
  refine OG.yield (Yield.move rfl) rfl ?_
  refine OG.guard_yes rfl rfl rfl (by decide) ?_
  refine OG.yield (Yield.toStr (bs := img) Try.underlying36 Try.underlying9 Try.underlying5 rfl (SlR.of_osl (E := 5) (by repeat (first | exact Ext.here | apply Ext.there)))) rfl ?_
  refine OG.guard_yes rfl rfl rfl (by decide) ?_
  refine OG.yield (Yield.move rfl) rfl ?_
  refine OG.guard_yes rfl rfl rfl (by decide) ?_
  refine OG.yield (Yield.toStr (bs := img) Try.underlying36 Try.underlying9 Try.underlying5 rfl (hi0.imp (by repeat (first | exact Imp.refl _ | exact Imp.none _ | apply Imp.pull (by repeat (first | exact Ext.here | apply Ext.there)) | apply Imp.trans Imp.drop))).slR) rfl ?_
  refine OG.guard_yes rfl rfl rfl (by decide) ?_
  refine OG.yield (Yield.as (Yield.str_neq rfl rfl) (v' := .bool false) (by simp)) rfl ?_
  refine OG.yield (by first | exact Yield.pick_t rfl rfl | exact Yield.pick_f rfl rfl | exact Yield.pick rfl (fun _ => rfl) (fun _ => rfl)) rfl ?_
  refine OG.nil ?_
  refine QG.then ?_
  refine CG.cond_f rfl ?_
  refine CG.skip ?_
  refine QG.then ?_
  refine CG.seq ?_
  refine CG.seq ?_
  refine CG.region ?_
  refine OG.yield (Yield.assign rfl) rfl ?_
  refine OG.nil ?_
  refine QG.then ?_
  refine CG.block ?_
  refine CG.loop (fun x : Nat × B => x.1 ≤ img.length ∧ x.2.length = img.length) (fun x => [(2, .slice da delays.length dc), (9, .slice xa img.length xc), (10, .slice ya delays.length yc), (11, .pointer (some ⟨b, 0, none⟩)), (13, .pointer (some ⟨r, 0, none⟩)), (15, .int .i64 x.1)]) (fun x => osl 5 1 xa xc img.length (bytesV x.2) :: onum 3 .i64 ya yc delays :: Bl b ⟨newB n img, delays, 0, 0, []⟩ :: Rl r ⟨newB n img, delays, 0, 0, []⟩ :: Fr) (fun x => img.length - x.1) (0, img) ⟨Nat.zero_le _, rfl⟩ (by repeat (first | exact Env.sub_nil _ | refine Env.sub_cons rfl ?_)) (Imp.pull (A := oby 5 xa xc img) (by repeat (first | exact Ext.here | apply Ext.there)) (Imp.pull (A := onum 3 .i64 ya yc delays) (by repeat (first | exact Ext.here | apply Ext.there)) (by repeat (first | exact Imp.refl _ | exact Imp.none _ | apply Imp.pull (by repeat (first | exact Ext.here | apply Ext.there)) | apply Imp.trans Imp.drop)))) ?_
  rintro ⟨i, xs⟩ ⟨hi, hxl⟩
  dsimp only at hi hxl ⊢
  refine CG.seq ?_
  refine CG.seq ?_
  refine CG.region ?_
  refine OG.yield (Yield.move rfl) rfl ?_
  refine OG.yield (Yield.move rfl) rfl ?_
  refine OG.yield (Yield.len_slice Try.underlying36 rfl rfl) rfl ?_
  refine OG.yield (by first | exact Yield.as (Yield.lss rfl rfl) (bT (by omega)) | exact Yield.as (Yield.lss rfl rfl) (bF (by omega)) | exact Yield.lss rfl rfl) rfl ?_
  refine OG.nil ?_
  refine QG.then ?_
  refine CG.cond rfl (fun hc => ?_) (fun hc => ?_)
  · try replace hc := of_decide_eq_true hc
    have hi' : i < xs.length := by omega
    have hget : xs[i]? = some xs[i] := by simp [hi']
    generalize xs[i] = v at hget
    refine CG.pure (fun w hw => SlR.shape (SlR.of_osl (W0 := W0) (E := 5) (a := xa) (c := xc) (by repeat (first | exact Ext.here | apply Ext.there))) (by intro q; have := congrArg List.length q; rw [bytesV_length] at this; simp only [List.length_nil] at this; omega) w hw) ?_
    rintro ⟨bw, ow, rfl⟩
    refine CG.skip ?_
    refine QG.then ?_
    refine CG.seq ?_
    refine CG.block ?_
    refine CG.region ?_
    refine OG.yield (Yield.move rfl) rfl ?_
    refine OG.yield (Yield.move rfl) rfl ?_
    refine OG.yield (Yield.index_slice Try.underlying36 ti5 rfl rfl (by omega) (by omega)) rfl ?_
    refine OG.yield (Yield.load ti5 rfl (v := byteV v) (by rw [show ow + (i : Int).toNat * 1 = ow + i by omega]; exact (SlR.of_osl (E := 5) (a := some ⟨bw, ow, none⟩) (by repeat (first | exact Ext.here | apply Ext.there))).cel (bytesV_get hget))) rfl ?_
    refine OG.yield (Yield.add rfl rfl (wrap_u8_add v 1)) rfl ?_
    refine OG.yield (Yield.index_slice Try.underlying36 ti5 rfl rfl (by omega) (by omega)) rfl ?_
    refine OG.eff (Eff.storeElem (i := i) (v := byteV (v + 1)) ti5 (by rw [show ow + (i : Int).toNat * 1 = ow + i by omega]; rfl) rfl (Foc.here) rfl (by omega)) rfl ?_
    rintro ⟨⟩ -
    rw [bytesV_set]
    refine OG.nil ?_
    refine QG.block_normal ?_
    refine QG.then ?_
    refine CG.region ?_
    refine OG.yield (Yield.move rfl) rfl ?_
    refine OG.yield (Yield.add rfl rfl (w64 (by omega) (by omega))) rfl ?_
    refine OG.yield (Yield.assign rfl) rfl ?_
    refine OG.nil ?_
    exact QG.next (i + 1, xs.set i (v + 1)) ⟨by simp only; omega, by simpa using hxl⟩ (by simp only; omega) (by repeat (first | exact Env.sub_nil _ | refine Env.sub_cons rfl ?_)) (by repeat (first | exact Imp.refl _ | exact Imp.none _ | apply Imp.pull (by repeat (first | exact Ext.here | apply Ext.there)) | apply Imp.trans Imp.drop))
  · try replace hc := of_decide_eq_false hc
    refine CG.exit ?_
    refine QG.pass_exit ?_
    refine QG.pass_exit ?_
    refine QG.block_exit ?_
    refine QG.then ?_
    refine CG.seq ?_
    refine CG.seq ?_
    refine CG.region ?_
    refine OG.yield (Yield.assign rfl) rfl ?_
    refine OG.nil ?_
    refine QG.then ?_
    refine CG.block ?_
    refine CG.loop (fun j : Nat => j ≤ delays.length) (fun j => [(2, .slice da delays.length dc), (10, .slice ya delays.length yc), (11, .pointer (some ⟨b, 0, none⟩)), (13, .pointer (some ⟨r, 0, none⟩)), (16, .int .i64 j)]) (fun j => osl 3 1 ya yc delays.length (intsV .i64 (lows delays j)) :: Bl b ⟨newB n img, delays, 0, 0, []⟩ :: Rl r ⟨newB n img, delays, 0, 0, []⟩ :: Fr) (fun j => delays.length - j) 0 (Nat.zero_le _) (by repeat (first | exact Env.sub_nil _ | refine Env.sub_cons rfl ?_)) (Imp.pull (A := onum 3 .i64 ya yc delays) (by repeat (first | exact Ext.here | apply Ext.there)) (by repeat (first | exact Imp.refl _ | exact Imp.none _ | apply Imp.pull (by repeat (first | exact Ext.here | apply Ext.there)) | apply Imp.trans Imp.drop))) ?_
    intro j hj
    have hnl := lows_len delays hj
    refine CG.seq ?_
    refine CG.seq ?_
    refine CG.region ?_
    refine OG.yield (Yield.move rfl) rfl ?_
    refine OG.yield (Yield.move rfl) rfl ?_
    refine OG.yield (Yield.len_slice Try.underlying23 rfl rfl) rfl ?_
    refine OG.yield (by first | exact Yield.as (Yield.lss rfl rfl) (bT (by omega)) | exact Yield.as (Yield.lss rfl rfl) (bF (by omega)) | exact Yield.lss rfl rfl) rfl ?_
    refine OG.nil ?_
    refine QG.then ?_
    refine CG.cond rfl (fun hc => ?_) (fun hc => ?_)
    · try replace hc := of_decide_eq_true hc
      have hj' : j < delays.length := by omega
      have hget : delays[j]? = some delays[j] := by simp [hj']
      have hget2 := lows_get hget
      generalize delays[j] = d at hget hget2
      refine CG.pure (fun w hw => SlR.shape (SlR.of_osl (W0 := W0) (E := 3) (a := ya) (c := yc) (by repeat (first | exact Ext.here | apply Ext.there))) (by intro q; have := congrArg List.length q; rw [intsV_len, hnl] at this; simp only [List.length_nil] at this; omega) w hw) ?_
      rintro ⟨bw, ow, rfl⟩
      refine CG.pure (fun w hw => SlR.shape (hs.imp (G := osl 3 1 (some ⟨bw, ow, none⟩) yc delays.length (intsV .i64 (lows delays j)) :: Bl b ⟨newB n img, delays, 0, 0, []⟩ :: Rl r ⟨newB n img, delays, 0, 0, []⟩ :: Fr) (by repeat (first | exact Imp.refl _ | exact Imp.none _ | apply Imp.pull (by repeat (first | exact Ext.here | apply Ext.there)) | apply Imp.trans Imp.drop))) (by intro q; rw [q] at hol; simp only [List.length_nil] at hol; omega) w hw) ?_
      rintro ⟨bd, od, rfl⟩
      refine CG.skip ?_
      refine QG.then ?_
      refine CG.seq ?_
      refine CG.block ?_
      refine CG.seq ?_
      refine CG.seq ?_
      refine CG.draw (.look 0 1 (.look 1 1 (.look 2 1 (.look 3 1 (.look 4 1 (.look 5 1 (.look 6 1 (.look 7 1 (.look 8 1 (.done)))))))))) [] [] ([]) ([]) mixed (by kernel_rfl) (Imp.none _) (Imp.none _) ?_
      refine DG.look rfl rfl (Yield.move rfl) rfl ?_
      refine DG.look rfl rfl (Yield.move rfl) rfl ?_
      refine DG.look rfl rfl (Yield.index_slice Try.underlying23 ti3 rfl rfl (by omega) (by omega)) rfl ?_
      refine DG.look rfl rfl (Yield.load (v := .int .i64 d) ti3 rfl (by rw [show ow + (j : Int).toNat * 1 = ow + j by omega]; exact (SlR.of_osl (E := 3) (a := some ⟨bw, ow, none⟩) (by repeat (first | exact Ext.here | apply Ext.there))).cel (intsV_get hget2))) rfl ?_
      refine DG.look rfl rfl (Yield.move rfl) rfl ?_
      refine DG.look rfl rfl (Yield.move rfl) rfl ?_
      refine DG.look rfl rfl (Yield.index_slice Try.underlying23 ti3 rfl rfl (by omega) (by omega)) rfl ?_
      refine DG.look rfl rfl (Yield.load (v := .int .i64 d) ti3 rfl (by rw [show od + (j : Int).toNat * 1 = od + j by omega]; exact (hs.imp (by repeat (first | exact Imp.refl _ | exact Imp.none _ | apply Imp.pull (by repeat (first | exact Ext.here | apply Ext.there)) | apply Imp.trans Imp.drop))).cel (intsV_get hget))) rfl ?_
      refine DG.look rfl rfl (Yield.as (Yield.neq rfl rfl) (bF (not_not_intro rfl))) rfl ?_
      refine DG.done ?_
      refine QG.then ?_
      refine CG.cond_f rfl ?_
      refine CG.skip ?_
      refine QG.then ?_
      refine CG.region ?_
      refine OG.yield (Yield.move rfl) rfl ?_
      refine OG.yield (Yield.move rfl) rfl ?_
      refine OG.yield (Yield.index_slice Try.underlying23 ti3 rfl rfl (by omega) (by omega)) rfl ?_
      refine OG.eff (Eff.storeElem (i := j) ti3 (by rw [show ow + (j : Int).toNat * 1 = ow + j by omega]; rfl) rfl (Foc.here) rfl (by omega)) rfl ?_
      rintro ⟨⟩ -
      rw [intsV_set, lows_step hj']
      refine OG.nil ?_
      refine QG.block_normal ?_
      refine QG.then ?_
      refine CG.region ?_
      refine OG.yield (Yield.move rfl) rfl ?_
      refine OG.yield (Yield.add rfl rfl (w64 (by omega) (by omega))) rfl ?_
      refine OG.yield (Yield.assign rfl) rfl ?_
      refine OG.nil ?_
      exact QG.next (j + 1) (show j + 1 ≤ delays.length by omega) (show delays.length - (j + 1) < delays.length - j by omega) (by repeat (first | exact Env.sub_nil _ | refine Env.sub_cons rfl ?_)) (by repeat (first | exact Imp.refl _ | exact Imp.none _ | apply Imp.pull (by repeat (first | exact Ext.here | apply Ext.there)) | apply Imp.trans Imp.drop))
    · try replace hc := of_decide_eq_false hc
      refine CG.exit ?_
      refine QG.pass_exit ?_
      refine QG.pass_exit ?_
      refine QG.block_exit ?_
      refine QG.then ?_
      refine CG.seq ?_
      refine CG.region ?_
      refine OG.yield (Yield.move rfl) rfl ?_
      refine OG.yield (Yield.move rfl) rfl ?_
      refine OG.yield (Yield.assign rfl) rfl ?_
      refine OG.yield (Yield.assign rfl) rfl ?_
      refine OG.yield (Yield.assign rfl) rfl ?_
      refine OG.nil ?_
      refine QG.then ?_
      refine CG.ret ?_
      exact QG.rets [.pointer (some ⟨b, 0, none⟩), .pointer (some ⟨r, 0, none⟩), .bool true] rfl ⟨rfl, rfl, rfl, trivial⟩ (b, r) trivial rfl (by repeat (first | exact Imp.refl _ | exact Imp.none _ | apply Imp.pull (by repeat (first | exact Ext.here | apply Ext.there)) | apply Imp.trans Imp.drop))
set_option maxHeartbeats 4000000 in
theorem begin_bad {a da : Option Addr} {c dc : Nat} {delays : List Int} {img : B} {sectors : Int} (hi0 : RdB W0 Fr a c img) (hil : img.length ≤ 140737488351232) (hs : SlR W0 Fr 1 da delays.length (intsV .i64 delays)) (hl : delays.length ≤ 17592186043904) (he : newE sectors img.length delays ≠ 0) :
    Ctr Try.prog W0 28 [.int .i64 sectors, .slice a img.length c, .slice da delays.length dc] Fr (fun _ : Unit => True) (fun _ => .tuple #[.pointer none, .pointer none, .bool true]) (fun _ => Fr) := by
  have hol := intsV_len .i64 delays
  refine Ctr.of_body Try.func28 rfl Try.ntmps28 rfl ?_
  refine CG.seq ?_
  refine CG.region ?_
  refine OG.yield (Yield.assign rfl) rfl ?_
  refine OG.yield (Yield.assign rfl) rfl ?_
  refine OG.yield (Yield.assign rfl) rfl ?_
  refine OG.nil ?_
  refine QG.then ?_
  refine CG.seq ?_
  refine CG.region ?_
  refine OG.effd (Eff.lit0 Try.underlying36 ti5 rfl) rfl ?_
  rintro b17 -
  refine OG.yield (Yield.move rfl) rfl ?_
  refine OG.effd (Eff.appendB (a := some ⟨b17, 0, none⟩) (c := 0) (bs := []) (ys := img) rfl rfl rfl Try.underlying36 Try.underlying36 ti5 (by decide) (by repeat (first | exact Foc.here | apply Foc.there)) (hi0.imp (by repeat (first | exact Imp.refl _ | exact Imp.none _ | apply Imp.pull (by repeat (first | exact Ext.here | apply Ext.there)) | apply Imp.trans Imp.drop))).slR (by simp only [List.length_nil]; omega)) rfl ?_
  rintro ⟨xa, xc⟩ -
  rw [List.nil_append]
  refine OG.yield (Yield.assign rfl) rfl ?_
  refine OG.nil ?_
  refine QG.then ?_
  refine CG.seq ?_
  refine CG.region ?_
  refine OG.effd (Eff.lit0 Try.underlying23 ti3 rfl) rfl ?_
  rintro b20 -
  refine OG.yield (Yield.move rfl) rfl ?_
  refine OG.effd (Eff.append (a := some ⟨b20, 0, none⟩) (c := 0) (m := 0) (xs := []) (k := delays.length) (ys := intsV .i64 delays) rfl rfl rfl Try.underlying23 Try.underlying23 ti3 rfl (by decide) (by repeat (first | exact Foc.here | apply Foc.there)) (hs.imp (by repeat (first | exact Imp.refl _ | exact Imp.none _ | apply Imp.pull (by repeat (first | exact Ext.here | apply Ext.there)) | apply Imp.trans Imp.drop))) (intsV_ones _ _) (by omega)) rfl ?_
  rintro ⟨ya, yc⟩ -
  rw [Nat.zero_add, List.nil_append]
  refine OG.yield (Yield.assign rfl) rfl ?_
  refine OG.nil ?_
  refine QG.then ?_
  refine CG.seq ?_
  refine CG.region ?_
  refine OG.yield (Yield.move rfl) rfl ?_
  refine OG.yield (Yield.move rfl) rfl ?_
  refine OG.yield (Yield.move rfl) rfl ?_
  refine OG.callo call18 rfl (Imp.refl _) (bnew_bad W0 _ (a := xa) (c := xc) (da := ya) (dc := yc) (sectors := sectors) (delays := delays) (m := img.length) (SlR.of_osl (E := 3) (by repeat (first | exact Ext.here | apply Ext.there))) hl he) rfl ?_
  rintro ⟨⟩ -
  refine OG.yield (Yield.move rfl) rfl ?_
  refine OG.yield (Yield.extract rfl rfl) rfl ?_
  refine OG.yield (Yield.extract rfl rfl) rfl ?_
  refine OG.yield (Yield.assign rfl) rfl ?_
  refine OG.yield (Yield.assign rfl) rfl ?_
  refine OG.nil ?_
  refine QG.then ?_
  refine CG.seq ?_
  refine CG.region ?_
  refine OG.yield (Yield.move rfl) rfl ?_
  refine OG.yield (Yield.move rfl) rfl ?_
  refine OG.yield (Yield.move rfl) rfl ?_
  refine OG.callo call63 rfl (Imp.refl _) (rnew_bad W0 _ (a := a) (c := c) (da := da) (dc := dc) (sectors := sectors) (delays := delays) (m := img.length) (hs.imp (by repeat (first | exact Imp.refl _ | exact Imp.none _ | apply Imp.pull (by repeat (first | exact Ext.here | apply Ext.there)) | apply Imp.trans Imp.drop))) hl he) rfl ?_
  rintro ⟨⟩ -
  refine OG.yield (Yield.move rfl) rfl ?_
  refine OG.yield (Yield.extract rfl rfl) rfl ?_
  refine OG.yield (Yield.extract rfl rfl) rfl ?_
  refine OG.yield (Yield.assign rfl) rfl ?_
  refine OG.yield (Yield.assign rfl) rfl ?_
  refine OG.nil ?_
  refine QG.then ?_
  refine CG.seq ?_
  refine CG.seq ?_
  refine CG.region ?_
  refine OG.yield (Yield.move rfl) rfl ?_
  refine OG.yield (Yield.move rfl) rfl ?_
  refine OG.yield (Yield.as (Yield.neq rfl rfl) (bF (not_not_intro rfl))) rfl ?_
  refine OG.yield (Yield.move rfl) rfl ?_
  refine OG.guard_yes rfl rfl rfl (by decide) ?_
  refine OG.yield (Yield.move rfl) rfl ?_
  refine OG.guard_yes rfl rfl rfl (by decide) ?_
  refine OG.yield (by first | exact Yield.ptr_nil Try.underlying51 rfl rfl | exact Yield.nil_nil Try.underlying51 rfl rfl) rfl ?_
  refine OG.guard_yes rfl rfl rfl (by decide) ?_
  refine OG.yield (Yield.move rfl) rfl ?_
  refine OG.guard_yes rfl rfl rfl (by decide) ?_
  refine OG.yield (by first | exact Yield.ptr_nil Try.underlying68 rfl rfl | exact Yield.nil_nil Try.underlying68 rfl rfl) rfl ?_
  refine OG.guard_yes rfl rfl rfl (by decide) ?_
  refine OG.yield (Yield.as (Yield.bool_neq Try.underlying4 rfl rfl) (v' := .bool false) (by simp)) rfl ?_
  refine OG.yield (by first | exact Yield.pick_t rfl rfl | exact Yield.pick_f rfl rfl | exact Yield.pick rfl (fun _ => rfl) (fun _ => rfl)) rfl ?_
  refine OG.yield (Yield.move rfl) rfl ?_
  refine OG.guard_yes rfl rfl rfl (by decide) ?_
  refine OG.yield (Yield.move rfl) rfl ?_
  refine OG.guard_yes rfl rfl rfl (by decide) ?_
  refine OG.yield (Yield.toStr (bs := img) Try.underlying36 Try.underlying9 Try.underlying5 rfl (SlR.of_osl (E := 5) (by repeat (first | exact Ext.here | apply Ext.there)))) rfl ?_
  refine OG.guard_yes rfl rfl rfl (by decide) ?_
  refine OG.yield (Yield.move rfl) rfl ?_
  refine OG.guard_yes rfl rfl rfl (by decide) ?_
  refine OG.yield (Yield.toStr (bs := img) Try.underlying36 Try.underlying9 Try.underlying5 rfl (hi0.imp (by repeat (first | exact Imp.refl _ | exact Imp.none _ | apply Imp.pull (by repeat (first | exact Ext.here | apply Ext.there)) | apply Imp.trans Imp.drop))).slR) rfl ?_
  refine OG.guard_yes rfl rfl rfl (by decide) ?_
  refine OG.yield (Yield.as (Yield.str_neq rfl rfl) (v' := .bool false) (by simp)) rfl ?_
  refine OG.yield (by first | exact Yield.pick_t rfl rfl | exact Yield.pick_f rfl rfl | exact Yield.pick rfl (fun _ => rfl) (fun _ => rfl)) rfl ?_
  refine OG.nil ?_
  refine QG.then ?_
  refine CG.cond_f rfl ?_
  refine CG.skip ?_
  refine QG.then ?_
  refine CG.seq ?_
  refine CG.seq ?_
  refine CG.region ?_
  refine OG.yield (Yield.assign rfl) rfl ?_
  refine OG.nil ?_
  refine QG.then ?_
  refine CG.block ?_
  refine CG.loop (fun x : Nat × B => x.1 ≤ img.length ∧ x.2.length = img.length) (fun x => [(2, .slice da delays.length dc), (9, .slice xa img.length xc), (10, .slice ya delays.length yc), (11, .pointer none), (13, .pointer none), (15, .int .i64 x.1)]) (fun x => osl 5 1 xa xc img.length (bytesV x.2) :: onum 3 .i64 ya yc delays :: Fr) (fun x => img.length - x.1) (0, img) ⟨Nat.zero_le _, rfl⟩ (by repeat (first | exact Env.sub_nil _ | refine Env.sub_cons rfl ?_)) (Imp.pull (A := oby 5 xa xc img) (by repeat (first | exact Ext.here | apply Ext.there)) (Imp.pull (A := onum 3 .i64 ya yc delays) (by repeat (first | exact Ext.here | apply Ext.there)) (by repeat (first | exact Imp.refl _ | exact Imp.none _ | apply Imp.pull (by repeat (first | exact Ext.here | apply Ext.there)) | apply Imp.trans Imp.drop)))) ?_
  rintro ⟨i, xs⟩ ⟨hi, hxl⟩
  dsimp only at hi hxl ⊢
  refine CG.seq ?_
  refine CG.seq ?_
  refine CG.region ?_
  refine OG.yield (Yield.move rfl) rfl ?_
  refine OG.yield (Yield.move rfl) rfl ?_
  refine OG.yield (Yield.len_slice Try.underlying36 rfl rfl) rfl ?_
  refine OG.yield (by first | exact Yield.as (Yield.lss rfl rfl) (bT (by omega)) | exact Yield.as (Yield.lss rfl rfl) (bF (by omega)) | exact Yield.lss rfl rfl) rfl ?_
  refine OG.nil ?_
  refine QG.then ?_
  refine CG.cond rfl (fun hc => ?_) (fun hc => ?_)
  · try replace hc := of_decide_eq_true hc
    have hi' : i < xs.length := by omega
    have hget : xs[i]? = some xs[i] := by simp [hi']
    generalize xs[i] = v at hget
    refine CG.pure (fun w hw => SlR.shape (SlR.of_osl (W0 := W0) (E := 5) (a := xa) (c := xc) (by repeat (first | exact Ext.here | apply Ext.there))) (by intro q; have := congrArg List.length q; rw [bytesV_length] at this; simp only [List.length_nil] at this; omega) w hw) ?_
    rintro ⟨bw, ow, rfl⟩
    refine CG.skip ?_
    refine QG.then ?_
    refine CG.seq ?_
    refine CG.block ?_
    refine CG.region ?_
    refine OG.yield (Yield.move rfl) rfl ?_
    refine OG.yield (Yield.move rfl) rfl ?_
    refine OG.yield (Yield.index_slice Try.underlying36 ti5 rfl rfl (by omega) (by omega)) rfl ?_
    refine OG.yield (Yield.load ti5 rfl (v := byteV v) (by rw [show ow + (i : Int).toNat * 1 = ow + i by omega]; exact (SlR.of_osl (E := 5) (a := some ⟨bw, ow, none⟩) (by repeat (first | exact Ext.here | apply Ext.there))).cel (bytesV_get hget))) rfl ?_
    refine OG.yield (Yield.add rfl rfl (wrap_u8_add v 1)) rfl ?_
    refine OG.yield (Yield.index_slice Try.underlying36 ti5 rfl rfl (by omega) (by omega)) rfl ?_
    refine OG.eff (Eff.storeElem (i := i) (v := byteV (v + 1)) ti5 (by rw [show ow + (i : Int).toNat * 1 = ow + i by omega]; rfl) rfl (Foc.here) rfl (by omega)) rfl ?_
    rintro ⟨⟩ -
    rw [bytesV_set]
    refine OG.nil ?_
    refine QG.block_normal ?_
    refine QG.then ?_
    refine CG.region ?_
    refine OG.yield (Yield.move rfl) rfl ?_
    refine OG.yield (Yield.add rfl rfl (w64 (by omega) (by omega))) rfl ?_
    refine OG.yield (Yield.assign rfl) rfl ?_
    refine OG.nil ?_
    exact QG.next (i + 1, xs.set i (v + 1)) ⟨by simp only; omega, by simpa using hxl⟩ (by simp only; omega) (by repeat (first | exact Env.sub_nil _ | refine Env.sub_cons rfl ?_)) (by repeat (first | exact Imp.refl _ | exact Imp.none _ | apply Imp.pull (by repeat (first | exact Ext.here | apply Ext.there)) | apply Imp.trans Imp.drop))
  · try replace hc := of_decide_eq_false hc
    refine CG.exit ?_
    refine QG.pass_exit ?_
    refine QG.pass_exit ?_
    refine QG.block_exit ?_
    refine QG.then ?_
    refine CG.seq ?_
    refine CG.seq ?_
    refine CG.region ?_
    refine OG.yield (Yield.assign rfl) rfl ?_
    refine OG.nil ?_
    refine QG.then ?_
    refine CG.block ?_
    refine CG.loop (fun j : Nat => j ≤ delays.length) (fun j => [(2, .slice da delays.length dc), (10, .slice ya delays.length yc), (11, .pointer none), (13, .pointer none), (16, .int .i64 j)]) (fun j => osl 3 1 ya yc delays.length (intsV .i64 (lows delays j)) :: Fr) (fun j => delays.length - j) 0 (Nat.zero_le _) (by repeat (first | exact Env.sub_nil _ | refine Env.sub_cons rfl ?_)) (Imp.pull (A := onum 3 .i64 ya yc delays) (by repeat (first | exact Ext.here | apply Ext.there)) (by repeat (first | exact Imp.refl _ | exact Imp.none _ | apply Imp.pull (by repeat (first | exact Ext.here | apply Ext.there)) | apply Imp.trans Imp.drop))) ?_
    intro j hj
    have hnl := lows_len delays hj
    refine CG.seq ?_
    refine CG.seq ?_
    refine CG.region ?_
    refine OG.yield (Yield.move rfl) rfl ?_
    refine OG.yield (Yield.move rfl) rfl ?_
    refine OG.yield (Yield.len_slice Try.underlying23 rfl rfl) rfl ?_
    refine OG.yield (by first | exact Yield.as (Yield.lss rfl rfl) (bT (by omega)) | exact Yield.as (Yield.lss rfl rfl) (bF (by omega)) | exact Yield.lss rfl rfl) rfl ?_
    refine OG.nil ?_
    refine QG.then ?_
    refine CG.cond rfl (fun hc => ?_) (fun hc => ?_)
    · try replace hc := of_decide_eq_true hc
      have hj' : j < delays.length := by omega
      have hget : delays[j]? = some delays[j] := by simp [hj']
      have hget2 := lows_get hget
      generalize delays[j] = d at hget hget2
      refine CG.pure (fun w hw => SlR.shape (SlR.of_osl (W0 := W0) (E := 3) (a := ya) (c := yc) (by repeat (first | exact Ext.here | apply Ext.there))) (by intro q; have := congrArg List.length q; rw [intsV_len, hnl] at this; simp only [List.length_nil] at this; omega) w hw) ?_
      rintro ⟨bw, ow, rfl⟩
      refine CG.pure (fun w hw => SlR.shape (hs.imp (G := osl 3 1 (some ⟨bw, ow, none⟩) yc delays.length (intsV .i64 (lows delays j)) :: Fr) (by repeat (first | exact Imp.refl _ | exact Imp.none _ | apply Imp.pull (by repeat (first | exact Ext.here | apply Ext.there)) | apply Imp.trans Imp.drop))) (by intro q; rw [q] at hol; simp only [List.length_nil] at hol; omega) w hw) ?_
      rintro ⟨bd, od, rfl⟩
      refine CG.skip ?_
      refine QG.then ?_
      refine CG.seq ?_
      refine CG.block ?_
      refine CG.seq ?_
      refine CG.seq ?_
      refine CG.draw (.look 0 1 (.look 1 1 (.look 2 1 (.look 3 1 (.look 4 1 (.look 5 1 (.look 6 1 (.look 7 1 (.look 8 1 (.done)))))))))) [] [] ([]) ([]) mixed (by kernel_rfl) (Imp.none _) (Imp.none _) ?_
      refine DG.look rfl rfl (Yield.move rfl) rfl ?_
      refine DG.look rfl rfl (Yield.move rfl) rfl ?_
      refine DG.look rfl rfl (Yield.index_slice Try.underlying23 ti3 rfl rfl (by omega) (by omega)) rfl ?_
      refine DG.look rfl rfl (Yield.load (v := .int .i64 d) ti3 rfl (by rw [show ow + (j : Int).toNat * 1 = ow + j by omega]; exact (SlR.of_osl (E := 3) (a := some ⟨bw, ow, none⟩) (by repeat (first | exact Ext.here | apply Ext.there))).cel (intsV_get hget2))) rfl ?_
      refine DG.look rfl rfl (Yield.move rfl) rfl ?_
      refine DG.look rfl rfl (Yield.move rfl) rfl ?_
      refine DG.look rfl rfl (Yield.index_slice Try.underlying23 ti3 rfl rfl (by omega) (by omega)) rfl ?_
      refine DG.look rfl rfl (Yield.load (v := .int .i64 d) ti3 rfl (by rw [show od + (j : Int).toNat * 1 = od + j by omega]; exact (hs.imp (by repeat (first | exact Imp.refl _ | exact Imp.none _ | apply Imp.pull (by repeat (first | exact Ext.here | apply Ext.there)) | apply Imp.trans Imp.drop))).cel (intsV_get hget))) rfl ?_
      refine DG.look rfl rfl (Yield.as (Yield.neq rfl rfl) (bF (not_not_intro rfl))) rfl ?_
      refine DG.done ?_
      refine QG.then ?_
      refine CG.cond_f rfl ?_
      refine CG.skip ?_
      refine QG.then ?_
      refine CG.region ?_
      refine OG.yield (Yield.move rfl) rfl ?_
      refine OG.yield (Yield.move rfl) rfl ?_
      refine OG.yield (Yield.index_slice Try.underlying23 ti3 rfl rfl (by omega) (by omega)) rfl ?_
      refine OG.eff (Eff.storeElem (i := j) ti3 (by rw [show ow + (j : Int).toNat * 1 = ow + j by omega]; rfl) rfl (Foc.here) rfl (by omega)) rfl ?_
      rintro ⟨⟩ -
      rw [intsV_set, lows_step hj']
      refine OG.nil ?_
      refine QG.block_normal ?_
      refine QG.then ?_
      refine CG.region ?_
      refine OG.yield (Yield.move rfl) rfl ?_
      refine OG.yield (Yield.add rfl rfl (w64 (by omega) (by omega))) rfl ?_
      refine OG.yield (Yield.assign rfl) rfl ?_
      refine OG.nil ?_
      exact QG.next (j + 1) (show j + 1 ≤ delays.length by omega) (show delays.length - (j + 1) < delays.length - j by omega) (by repeat (first | exact Env.sub_nil _ | refine Env.sub_cons rfl ?_)) (by repeat (first | exact Imp.refl _ | exact Imp.none _ | apply Imp.pull (by repeat (first | exact Ext.here | apply Ext.there)) | apply Imp.trans Imp.drop))
    · try replace hc := of_decide_eq_false hc
      refine CG.exit ?_
      refine QG.pass_exit ?_
      refine QG.pass_exit ?_
      refine QG.block_exit ?_
      refine QG.then ?_
      refine CG.seq ?_
      refine CG.region ?_
      refine OG.yield (Yield.move rfl) rfl ?_
      refine OG.yield (Yield.move rfl) rfl ?_
      refine OG.yield (Yield.assign rfl) rfl ?_
      refine OG.yield (Yield.assign rfl) rfl ?_
      refine OG.yield (Yield.assign rfl) rfl ?_
      refine OG.nil ?_
      refine QG.then ?_
      refine CG.ret ?_
      exact QG.rets [.pointer none, .pointer none, .bool true] rfl ⟨rfl, rfl, rfl, trivial⟩ () trivial rfl (by repeat (first | exact Imp.refl _ | exact Imp.none _ | apply Imp.pull (by repeat (first | exact Ext.here | apply Ext.there)) | apply Imp.trans Imp.drop))
theorem bsec_spec {b : Nat} {s : Bs} : Ctr Try.prog W0 48 [.pointer (some ⟨b, 0, none⟩)] (Bl b s :: Fr) (fun _ : Unit => True) (fun _ => .int .i64 ((s.bytes.length / 64 : Nat) : Int)) (fun _ => Bl b s :: Fr) := by
  refine Ctr.ex Ext.here bl_open ?_
  intro x hx
  refine Ctr.imp star_open ?_
  obtain ⟨nn, hbl, hnn⟩ := hx.ok.len
  have hcl := bl_close (b := b) (G := Fr) x hx
  dsimp only [BO, List.cons_append, List.nil_append] at hcl ⊢
  exact (sectors_spec W0 _ (b := b) (m := s.bytes.length) (c := x.bc) (a := x.ba) (Cel.of_blk (b := b) Ext.here rfl) (by omega)).to (fun _ => ()) (fun _ _ => trivial) (fun _ => rfl) (fun _ => hcl)
set_option maxHeartbeats 4000000 in
theorem alike_spec {b r : Nat} {s : Bs} : Ctr Try.prog W0 35 [.pointer (some ⟨b, 0, none⟩), .pointer (some ⟨r, 0, none⟩)] (Bl b s :: Rl r s :: Fr) (fun _ : Unit => True) (fun _ => .bool true) (fun _ => Bl b s :: Rl r s :: Fr) := by
  refine Ctr.pure (fun w hw => bl_facts (b := b) (s := s) Ext.here w hw) fun hbs => ?_
  obtain ⟨nn, hbl, hnn⟩ := hbs.len
  refine Ctr.of_body Try.func35 rfl Try.ntmps35 rfl ?_
  refine CG.seq ?_
  refine CG.region ?_
  refine OG.yield (Yield.assign rfl) rfl ?_
  refine OG.nil ?_
  refine QG.then ?_
  refine CG.seq ?_
  refine CG.region ?_
  refine OG.yield (Yield.move rfl) rfl ?_
  refine OG.callo call41 rfl ((by repeat (first | exact Imp.refl _ | exact Imp.none _ | apply Imp.pull (by repeat (first | exact Ext.here | apply Ext.there)) | apply Imp.trans Imp.drop))) (next_spec W0 _ (b := b) (s := s)) rfl ?_
  rintro ⟨⟩ -
  refine OG.yield (Yield.move rfl) rfl ?_
  refine OG.yield (Yield.extract rfl rfl) rfl ?_
  refine OG.yield (Yield.extract rfl rfl) rfl ?_
  refine OG.yield (Yield.assign rfl) rfl ?_
  refine OG.yield (Yield.assign rfl) rfl ?_
  refine OG.nil ?_
  refine QG.then ?_
  refine CG.seq ?_
  refine CG.region ?_
  refine OG.yield (Yield.move rfl) rfl ?_
  refine OG.callo call65 rfl ((by repeat (first | exact Imp.refl _ | exact Imp.none _ | apply Imp.pull (by repeat (first | exact Ext.here | apply Ext.there)) | apply Imp.trans Imp.drop))) (rnext_spec W0 _ (b := r) (s := s)) rfl ?_
  rintro ⟨⟩ -
  refine OG.yield (Yield.move rfl) rfl ?_
  refine OG.yield (Yield.extract rfl rfl) rfl ?_
  refine OG.yield (Yield.extract rfl rfl) rfl ?_
  refine OG.yield (Yield.assign rfl) rfl ?_
  refine OG.yield (Yield.assign rfl) rfl ?_
  refine OG.nil ?_
  refine QG.then ?_
  refine CG.seq ?_
  refine CG.region ?_
  refine OG.yield (Yield.move rfl) rfl ?_
  refine OG.callo call36 rfl ((by repeat (first | exact Imp.refl _ | exact Imp.none _ | apply Imp.pull (by repeat (first | exact Ext.here | apply Ext.there)) | apply Imp.trans Imp.drop))) (image_spec W0 _ (b := b) (s := s)) rfl ?_
  rintro ⟨am, cm, bm⟩ hm
  dsimp only at hm
  subst hm
  refine OG.yield (Yield.assign rfl) rfl ?_
  refine OG.nil ?_
  refine QG.then ?_
  refine CG.seq ?_
  refine CG.ex (A := Rl r s) (by repeat (first | exact Ext.here | apply Ext.there)) rl_open ?_
  intro x hx
  refine CG.imp star_open ?_
  have hxl := hx.len
  have hcl := fun G => rl_close (b := r) (G := G) x hx
  dsimp only [RO, List.cons_append, List.nil_append] at hcl ⊢
  refine CG.draw (.look 0 1 (.look 1 1 (.look 2 1 (.look 3 1 (.look 4 1 (.look 5 1 (.look 6 1 (.look 7 1 (.look 8 1 (.look 9 1 (.look 11 0 (.look 12 0 (.look 13 0 (.look 14 0 (.look 15 0 (.eff1 10 false (.look 16 1 (.look 17 1 (.look 18 1 (.look 19 1 (.look 20 1 (.look 21 1 (.look 22 1 (.look 23 1 (.look 24 1 (.look 25 1 (.look 26 1 (.look 27 1 (.look 28 1 (.look 29 1 (.look 31 0 (.eff1 30 false (.eff1 32 false (.look 33 1 (.look 34 1 (.look 35 1 (.done))))))))))))))))))))))))))))))))))))) [10, 30, 32] [] ([RH r x.ba s.bytes.length x.bc x.da s.delays.length x.dc s.taken s.free x.qa x.js.length x.qc]) ([]) mixed (by kernel_rfl) ((by repeat (first | exact Imp.refl _ | exact Imp.none _ | apply Imp.pull (by repeat (first | exact Ext.here | apply Ext.there)) | apply Imp.trans Imp.drop))) (Imp.none _) ?_
  refine DG.look rfl rfl (Yield.move rfl) rfl ?_
  refine DG.look rfl rfl (Yield.move rfl) rfl ?_
  refine DG.look rfl rfl (Yield.as (Yield.eql rfl rfl) (bT rfl)) rfl ?_
  refine DG.look rfl rfl (Yield.move rfl) rfl ?_
  refine DG.look rfl rfl (Yield.move rfl) rfl ?_
  refine DG.look rfl rfl (Yield.move rfl) rfl ?_
  refine DG.look rfl rfl (Yield.as (Yield.bool_eql Try.underlying4 rfl rfl) (v' := .bool true) (by simp)) rfl ?_
  refine DG.look rfl rfl (by first | exact Yield.pick_t rfl rfl | exact Yield.pick_f rfl rfl | exact Yield.pick rfl (fun _ => rfl) (fun _ => rfl)) rfl ?_
  refine DG.look rfl rfl (Yield.move rfl) rfl ?_
  refine DG.look rfl rfl (Yield.move rfl) rfl ?_
  refine DG.look rfl rfl (Yield.move rfl) rfl ?_
  refine DG.look rfl rfl (Yield.nilCheck rfl) rfl ?_
  refine DG.look rfl rfl (Yield.fieldAddr fa121_4 rfl) rfl ?_
  refine DG.look rfl rfl (Yield.load (v := .slice x.qa x.js.length x.qc) ti119 rfl (Cel.of_blk (b := r) (by repeat (first | exact Ext.here | apply Ext.there)) rfl)) rfl ?_
  refine DG.look rfl rfl (Yield.len_slice (a := x.qa) (m := x.js.length) (c := x.qc) Try.underlying119 rfl rfl) rfl ?_
  refine DG.eff1 ?_
  refine Chg.callo rfl rfl call22 rfl ((by repeat (first | exact Imp.refl _ | exact Imp.none _ | apply Imp.pull (by repeat (first | exact Ext.here | apply Ext.there)) | apply Imp.trans Imp.drop))) (waiting_spec W0 _ (b := b) (s := s)) rfl (fun _ => (by repeat (first | exact Imp.refl _ | exact Imp.none _ | apply Imp.pull (by repeat (first | exact Ext.here | apply Ext.there)) | apply Imp.trans Imp.drop))) (fun _ => Imp.refl _) (fun _ => (by repeat (first | exact Imp.refl _ | exact Imp.none _ | apply Imp.pull (by repeat (first | exact Ext.here | apply Ext.there)) | apply Imp.trans Imp.drop))) ?_
  rintro ⟨⟩ -
  refine DG.look rfl rfl (Yield.as (Yield.eql rfl rfl) (bT (by rw [hxl]))) rfl ?_
  refine DG.look rfl rfl (by first | exact Yield.pick_t rfl rfl | exact Yield.pick_f rfl rfl | exact Yield.pick rfl (fun _ => rfl) (fun _ => rfl)) rfl ?_
  refine DG.look rfl rfl (Yield.move rfl) rfl ?_
  refine DG.look rfl rfl (Yield.move rfl) rfl ?_
  refine DG.look rfl rfl (Yield.toStr (bs := s.bytes) Try.underlying36 Try.underlying9 Try.underlying5 rfl (SlR.of_osl (E := 5) (a := am) (by repeat (first | exact Ext.here | apply Ext.there)))) rfl ?_
  refine DG.look rfl rfl (Yield.move rfl) rfl ?_
  refine DG.look rfl rfl (Yield.nilCheck rfl) rfl ?_
  refine DG.look rfl rfl (Yield.fieldAddr fa121_0 rfl) rfl ?_
  refine DG.look rfl rfl (Yield.load (v := .slice x.ba s.bytes.length x.bc) ti36 rfl (Cel.of_blk (b := r) (by repeat (first | exact Ext.here | apply Ext.there)) rfl)) rfl ?_
  refine DG.look rfl rfl (Yield.toStr (bs := s.bytes) Try.underlying36 Try.underlying9 Try.underlying5 rfl (SlR.of_osl (E := 5) (a := x.ba) (by repeat (first | exact Ext.here | apply Ext.there)))) rfl ?_
  refine DG.look rfl rfl (Yield.as (Yield.str_eql rfl rfl) (v' := .bool true) (by simp)) rfl ?_
  refine DG.look rfl rfl (by first | exact Yield.pick_t rfl rfl | exact Yield.pick_f rfl rfl | exact Yield.pick rfl (fun _ => rfl) (fun _ => rfl)) rfl ?_
  refine DG.look rfl rfl (Yield.move rfl) rfl ?_
  refine DG.look rfl rfl (Yield.move rfl) rfl ?_
  refine DG.look rfl rfl (Yield.move rfl) rfl ?_
  refine DG.eff1 ?_
  refine Chg.callo rfl rfl call48 rfl ((by repeat (first | exact Imp.refl _ | exact Imp.none _ | apply Imp.pull (by repeat (first | exact Ext.here | apply Ext.there)) | apply Imp.trans Imp.drop))) (bsec_spec W0 _ (b := b) (s := s)) rfl (fun _ => (by repeat (first | exact Imp.refl _ | exact Imp.none _ | apply Imp.pull (by repeat (first | exact Ext.here | apply Ext.there)) | apply Imp.trans Imp.drop))) (fun _ => Imp.refl _) (fun _ => (by repeat (first | exact Imp.refl _ | exact Imp.none _ | apply Imp.pull (by repeat (first | exact Ext.here | apply Ext.there)) | apply Imp.trans Imp.drop))) ?_
  rintro ⟨⟩ -
  refine DG.eff1 ?_
  refine Chg.callo rfl rfl call64 rfl (Imp.refl _) (rsectors_spec W0 _ (b := r) (m := s.bytes.length) (Cel.of_blk (b := r) (by repeat (first | exact Ext.here | apply Ext.there)) rfl) (by omega)) rfl (fun _ => (by repeat (first | exact Imp.refl _ | exact Imp.none _ | apply Imp.pull (by repeat (first | exact Ext.here | apply Ext.there)) | apply Imp.trans Imp.drop))) (fun _ => Imp.refl _) (fun _ => (by repeat (first | exact Imp.refl _ | exact Imp.none _ | apply Imp.pull (by repeat (first | exact Ext.here | apply Ext.there)) | apply Imp.trans Imp.drop))) ?_
  rintro ⟨⟩ -
  refine DG.look rfl rfl (Yield.as (Yield.eql rfl rfl) (bT rfl)) rfl ?_
  refine DG.look rfl rfl (by first | exact Yield.pick_t rfl rfl | exact Yield.pick_f rfl rfl | exact Yield.pick rfl (fun _ => rfl) (fun _ => rfl)) rfl ?_
  refine DG.look rfl rfl (Yield.assign rfl) rfl ?_
  refine DG.done ?_
  refine QG.imp (G' := Rl r s :: Bl b s :: oby 5 am cm s.bytes :: Fr) (Imp.trans (Imp.pull (A := RH r x.ba s.bytes.length x.bc x.da s.delays.length x.dc s.taken s.free x.qa x.js.length x.qc) (by repeat (first | exact Ext.here | apply Ext.there)) (Imp.pull (A := oby 5 x.ba x.bc s.bytes) (by repeat (first | exact Ext.here | apply Ext.there)) (Imp.pull (A := onum 3 .i64 x.da x.dc s.delays) (by repeat (first | exact Ext.here | apply Ext.there)) (Imp.pull (A := owait x.qa x.qc x.js) (by repeat (first | exact Ext.here | apply Ext.there)) (Imp.pull (A := jpool x.js) (by repeat (first | exact Ext.here | apply Ext.there)) (Imp.pull (A := Bl b s) (by repeat (first | exact Ext.here | apply Ext.there)) (Imp.pull (A := Msg.own ⟨am, cm, s.bytes⟩) (by repeat (first | exact Ext.here | apply Ext.there)) (by repeat (first | exact Imp.refl _ | exact Imp.none _ | apply Imp.pull (by repeat (first | exact Ext.here | apply Ext.there)) | apply Imp.trans Imp.drop))))))))) (hcl _)) ?_
  clear hcl
  refine QG.then ?_
  refine CG.seq ?_
  refine CG.seq ?_
  refine CG.region ?_
  refine OG.yield (Yield.assign rfl) rfl ?_
  refine OG.nil ?_
  refine QG.then ?_
  refine CG.block ?_
  refine CG.loop (fun t : Nat × B => t.1 ≤ s.bytes.length ∧ t.2.length = s.bytes.length) (fun t => [(9, .slice am s.bytes.length cm), (10, .bool true), (11, .int .i64 t.1)]) (fun t => osl 5 1 am cm s.bytes.length (bytesV t.2) :: Bl b s :: Rl r s :: Fr) (fun t => s.bytes.length - t.1) (0, s.bytes) ⟨Nat.zero_le _, rfl⟩ (by repeat (first | exact Env.sub_nil _ | refine Env.sub_cons rfl ?_)) (Imp.pull (A := oby 5 am cm s.bytes) (by repeat (first | exact Ext.here | apply Ext.there)) (by repeat (first | exact Imp.refl _ | exact Imp.none _ | apply Imp.pull (by repeat (first | exact Ext.here | apply Ext.there)) | apply Imp.trans Imp.drop))) ?_
  rintro ⟨i, xs⟩ ⟨hi, hxl⟩
  dsimp only at hi hxl ⊢
  refine CG.seq ?_
  refine CG.seq ?_
  refine CG.region ?_
  refine OG.yield (Yield.move rfl) rfl ?_
  refine OG.yield (Yield.move rfl) rfl ?_
  refine OG.yield (Yield.len_slice Try.underlying36 rfl rfl) rfl ?_
  refine OG.yield (by first | exact Yield.as (Yield.lss rfl rfl) (bT (by omega)) | exact Yield.as (Yield.lss rfl rfl) (bF (by omega)) | exact Yield.lss rfl rfl) rfl ?_
  refine OG.nil ?_
  refine QG.then ?_
  refine CG.cond rfl (fun hc => ?_) (fun hc => ?_)
  · try replace hc := of_decide_eq_true hc
    have hi' : i < xs.length := by omega
    have hget : xs[i]? = some xs[i] := by simp [hi']
    generalize xs[i] = v at hget
    refine CG.pure (fun w hw => SlR.shape (SlR.of_osl (W0 := W0) (E := 5) (a := am) (c := cm) (by repeat (first | exact Ext.here | apply Ext.there))) (by intro q; have := congrArg List.length q; rw [bytesV_length] at this; simp only [List.length_nil] at this; omega) w hw) ?_
    rintro ⟨bw, ow, rfl⟩
    refine CG.skip ?_
    refine QG.then ?_
    refine CG.seq ?_
    refine CG.block ?_
    refine CG.region ?_
    refine OG.yield (Yield.move rfl) rfl ?_
    refine OG.yield (Yield.move rfl) rfl ?_
    refine OG.yield (Yield.index_slice Try.underlying36 ti5 rfl rfl (by omega) (by omega)) rfl ?_
    refine OG.yield (Yield.load ti5 rfl (v := byteV v) (by rw [show ow + (i : Int).toNat * 1 = ow + i by omega]; exact (SlR.of_osl (E := 5) (a := some ⟨bw, ow, none⟩) (by repeat (first | exact Ext.here | apply Ext.there))).cel (bytesV_get hget))) rfl ?_
    refine OG.yield (Yield.add rfl rfl (wrap_u8_add v 1)) rfl ?_
    refine OG.yield (Yield.index_slice Try.underlying36 ti5 rfl rfl (by omega) (by omega)) rfl ?_
    refine OG.eff (Eff.storeElem (i := i) (v := byteV (v + 1)) ti5 (by rw [show ow + (i : Int).toNat * 1 = ow + i by omega]; rfl) rfl (Foc.here) rfl (by omega)) rfl ?_
    rintro ⟨⟩ -
    rw [bytesV_set]
    refine OG.nil ?_
    refine QG.block_normal ?_
    refine QG.then ?_
    refine CG.region ?_
    refine OG.yield (Yield.move rfl) rfl ?_
    refine OG.yield (Yield.add rfl rfl (w64 (by omega) (by omega))) rfl ?_
    refine OG.yield (Yield.assign rfl) rfl ?_
    refine OG.nil ?_
    exact QG.next (i + 1, xs.set i (v + 1)) ⟨by simp only; omega, by simpa using hxl⟩ (by simp only; omega) (by repeat (first | exact Env.sub_nil _ | refine Env.sub_cons rfl ?_)) (by repeat (first | exact Imp.refl _ | exact Imp.none _ | apply Imp.pull (by repeat (first | exact Ext.here | apply Ext.there)) | apply Imp.trans Imp.drop))
  · try replace hc := of_decide_eq_false hc
    refine CG.exit ?_
    refine QG.pass_exit ?_
    refine QG.pass_exit ?_
    refine QG.block_exit ?_
    refine QG.then ?_
    refine CG.seq ?_
    refine CG.region ?_
    refine OG.yield (Yield.move rfl) rfl ?_
    refine OG.yield (Yield.assign rfl) rfl ?_
    refine OG.nil ?_
    refine QG.then ?_
    refine CG.ret ?_
    exact QG.ret1 rfl rfl () trivial rfl (by repeat (first | exact Imp.refl _ | exact Imp.none _ | apply Imp.pull (by repeat (first | exact Ext.here | apply Ext.there)) | apply Imp.trans Imp.drop))
end
end Go.Proofs.Ytoejnhfcegchhaa.Bk
