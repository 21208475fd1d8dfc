/- PortsSample: what is received on a sampling channel is what was written last ahead of the last moment at which it was carried over: the law returns true and changes nothing that was there. -/
import Derived.Test.YtjigjbcdopmeeaaPfull
namespace Go.Proofs.Ytjigjbcdopmeeaa.portsSample
open Go Go.Sl Go.RowKit Go.Proofs Go.Proofs.Ytjigjbcdopmeeaa.T Go.Proofs.Ytjigjbcdopmeeaa.Po
set_option linter.unusedVariables false
set_option linter.unusedSimpArgs false
set_option maxRecDepth 100000
abbrev Z (s r : Option B) : AC := ⟨1, 3, 5, 64, 1, s.toList, r.toList⟩
theorem send_short {bs : B} {s r : Option B} (hb : bs.length ≤ 64) : sendR (Z s r) 3 bs = (0, Z (some bs) r) := by
  unfold sendR
  rw [if_neg (by simp), if_neg (by show ¬ max 0 (min (64 : Int) 64) < (bs.length : Int); omega), if_pos (by simp)]; rfl
theorem send_long {bs : B} {s r : Option B} (hb : 64 < bs.length) : sendR (Z s r) 3 bs = (9, Z s r) := by
  unfold sendR
  rw [if_neg (by simp), if_pos (by show max 0 (min (64 : Int) 64) < (bs.length : Int); omega)]
theorem tr_some (w : B) (r : Option B) : (Z (some w) r).tr = Z none (some w) ∧ (Z (some w) r).went = true := ⟨rfl, rfl⟩
theorem tr_none (r : Option B) : (Z none r).tr = Z none r ∧ (Z none r).went = false := ⟨rfl, rfl⟩
structure St where
  i : Nat
  s : Option B
  r : Option B
  wr : ByteArray
  sn : ByteArray
structure St.OK (m : Nat) (x : St) : Prop where
  im : x.i ≤ m
  ws : ∀ w, x.s = some w → x.wr = strOf w
  wn : ∀ w, x.r = some w → x.sn = strOf w
def St.env (a0 : Option Addr) (m c0 p : Nat) (x : St) : Env := [(0, .slice a0 m c0), (3, .pointer (some ⟨p, 0, none⟩)), (4, .string x.wr), (5, .bool x.s.isSome), (6, .string x.sn), (7, .bool x.r.isSome), (8, .int .i64 x.i)]
abbrev St.G (W : World) (p : Nat) (x : St) : List HProp := [Po p [Z x.s x.r], old W]
set_option maxHeartbeats 4000000 in
theorem walk (W : World) {a0 : Option Addr} {c0 : Nat} {ops : List POp} (hops : SlAt W 4 a0 ops.length ((ops.map POp.cells).flatten)) (hok : ∀ o ∈ ops, o.OK W) :
    Ctr Try.prog W 6 [.slice a0 ops.length c0] [old W] (fun _ : Unit => True) (fun _ => .bool true) (fun _ => [old W]) := by
  refine Ctr.of_body Try.func6 rfl Try.ntmps6 rfl ?_
  refine CG.seq ?_
  refine CG.region ?_
  refine OG.yield (Yield.assign rfl) rfl ?_
  refine OG.nil ?_
  refine QG.then ?_
  refine CG.seq ?_
  refine CG.seq ?_
  refine CG.region ?_
  refine OG.callo call21 rfl (Imp.refl _) (works_spec W _) rfl ?_
  rintro ⟨⟩ -
  refine OG.yield (Yield.not rfl) rfl ?_
  refine OG.nil ?_
  refine QG.then ?_
  refine CG.cond_f rfl ?_
  refine CG.skip ?_
  refine QG.then ?_
  refine CG.seq ?_
  refine CG.region ?_
  refine OG.yield (Yield.build bu47 ti47 rfl (cells := [_, _, _, _, _]) rfl) rfl ?_
  refine OG.effd (Eff.lit [.tmp 16] (vs := [.agg (Cf.cells ⟨1, 3, 5, 64, 1⟩).toArray]) (cells := Cf.cells ⟨1, 3, 5, 64, 1⟩) Try.underlying48 ti47 rfl rfl rfl rfl (by decide) (by simp [Value.cells, Cf.cells]) (by simp [Value.cells])) rfl ?_
  rintro b17 -
  refine OG.callo call22 rfl ((by repeat (first | exact Imp.refl _ | exact Imp.none _ | apply Imp.pull (by repeat (first | exact Ext.here | apply Ext.there)) | apply Imp.trans Imp.drop))) (new_spec W _ (l := [⟨1, 3, 5, 64, 1⟩]) (by exact SlR.of_osl_eq (a := some ⟨b17, 0, none⟩) (by repeat (first | exact Ext.here | apply Ext.there)) rfl (by simp)) (by simp)) rfl ?_
  rintro p -
  rw [show [(⟨1, 3, 5, 64, 1⟩ : Cf)].map Cf.ac = [Z none none] from rfl]
  refine OG.yield (Yield.assign rfl) rfl ?_
  refine OG.nil ?_
  refine QG.then ?_
  refine CG.seq ?_
  refine CG.seq ?_
  refine CG.region ?_
  refine OG.yield (Yield.move rfl) rfl ?_
  refine OG.yield (by first | exact Yield.ptr_nil Try.underlying44 rfl rfl | exact Yield.nil_nil Try.underlying44 rfl rfl) rfl ?_
  refine OG.nil ?_
  refine QG.then ?_
  refine CG.cond_f rfl ?_
  refine CG.skip ?_
  refine QG.then ?_
  refine CG.seq ?_
  refine CG.region ?_
  refine OG.yield (Yield.assign rfl) rfl ?_
  refine OG.yield (Yield.assign rfl) rfl ?_
  refine OG.nil ?_
  refine QG.then ?_
  refine CG.seq ?_
  refine CG.region ?_
  refine OG.yield (Yield.assign rfl) rfl ?_
  refine OG.yield (Yield.assign rfl) rfl ?_
  refine OG.nil ?_
  refine QG.then ?_
  refine CG.cut (fun _ : Unit => True) (fun _ => []) (fun _ => [old W]) ?_ ?_
  · skip
    refine CG.seq ?_
    refine CG.region ?_
    refine OG.yield (Yield.assign rfl) rfl ?_
    refine OG.nil ?_
    refine QG.then ?_
    refine CG.block ?_
    refine CG.loop (fun x : St => x.OK ops.length) (St.env a0 ops.length c0 p) (St.G W p) (fun x => ops.length - x.i) ⟨0, none, none, ⟨#[]⟩, ⟨#[]⟩⟩ ⟨Nat.zero_le _, fun w h => (by cases h), fun w h => (by cases h)⟩ (by repeat (first | exact Env.sub_nil _ | refine Env.sub_cons rfl ?_)) (by repeat (first | exact Imp.refl _ | exact Imp.none _ | apply Imp.pull (by repeat (first | exact Ext.here | apply Ext.there)) | apply Imp.trans Imp.drop)) ?_
    rintro ⟨i, s, r, wr, sn⟩ ⟨im, ws, wn⟩
    unfold St.env
    dsimp only at im ws wn ⊢
    refine CG.seq ?_
    refine CG.seq ?_
    rcases loop_head (i) (ops.length) 150 with hh | hh | hh
    · skip
      refine CG.region ?_
      refine OG.yield (Yield.move rfl) rfl ?_
      refine OG.yield (Yield.move rfl) rfl ?_
      refine OG.yield (Yield.len_slice Try.underlying43 rfl rfl) rfl ?_
      refine OG.yield (by first | exact Yield.as (Yield.lss rfl rfl) (bT (by omega)) | exact Yield.as (Yield.lss rfl rfl) (bF (by omega)) | exact Yield.lss rfl rfl) rfl ?_
      refine OG.yield (Yield.move rfl) rfl ?_
      refine OG.guard_yes rfl rfl rfl (by decide) ?_
      refine OG.yield (Yield.move rfl) rfl ?_
      refine OG.guard_yes rfl rfl rfl (by decide) ?_
      refine OG.yield (by first | exact Yield.as (Yield.lss rfl rfl) (bT (by omega)) | exact Yield.as (Yield.lss rfl rfl) (bF (by omega)) | exact Yield.lss rfl rfl) rfl ?_
      refine OG.yield (by first | exact Yield.pick_t rfl rfl | exact Yield.pick_f rfl rfl | exact Yield.pick rfl (fun _ => rfl) (fun _ => rfl)) rfl ?_
      refine OG.nil ?_
      refine QG.then ?_
      refine CG.cond_t rfl ?_
      refine CG.skip ?_
      refine QG.then ?_
      refine CG.seq ?_
      refine CG.block ?_
      refine CG.seq ?_
      obtain ⟨h1, h2⟩ := hh
      have hget : ops[i]? = some ops[i] := by simp [h1]
      have hko := hok ops[i] (List.getElem_mem h1)
      generalize ops[i] = op at hget hko
      refine CG.pure (fun w hw => (hops.old (G := St.G W p ⟨i, s, r, wr, sn⟩) (by repeat (first | exact Ext.here | apply Ext.there))).elem_shape POp.len (by decide) h1 w hw) ?_
      rintro ⟨b, o, rfl⟩
      obtain ⟨Kind, Part, Chn, Ba, Bc, Bs⟩ := op
      have hBc := hko.Bc
      have hB := hko.B
      have hBm := hko.Bm
      dsimp only at hBc hB hBm
      clear hko
      unfold reachBytes at hBm
      have hrow : ∀ {G R : List HProp}, Ext G (old W) R → Row W G b (o + i * 4) (POp.cells ⟨Kind, Part, Chn, Ba, Bc, Bs⟩) := fun x => (hops.old x).elem POp.len hget
      refine CG.region ?_
      refine OG.yield (Yield.move rfl) rfl ?_
      refine OG.yield (Yield.move rfl) rfl ?_
      refine OG.yield (Yield.index_slice Try.underlying43 ti51 rfl rfl (by omega) (by omega)) rfl ?_
      refine OG.yield (Yield.load_agg (vs := POp.cells ⟨Kind, Part, Chn, Ba, Bc, Bs⟩) ti51 rfl rfl (hrow (by repeat (first | exact Ext.here | apply Ext.there)))) rfl ?_
      refine OG.effd (Eff.alloc ti51) rfl ?_
      rintro b9 -
      refine OG.eff (Eff.storeAll ti51 rfl rfl (by repeat (first | exact Foc.here | apply Foc.there)) (POp.len ⟨Kind, Part, Chn, Ba, Bc, Bs⟩) (POp.ones ⟨Kind, Part, Chn, Ba, Bc, Bs⟩) rfl) rfl ?_
      rintro ⟨⟩ -
      refine OG.nil ?_
      refine QG.then ?_
      refine CG.seq ?_
      refine CG.region ?_
      refine OG.yield (Yield.fieldAddr fa51_0 rfl) rfl ?_
      refine OG.yield (Yield.load (v := .int .i64 Kind) ti3 rfl (Cel.of_blk (b := b9) (by repeat (first | exact Ext.here | apply Ext.there)) rfl)) rfl ?_
      refine OG.nil ?_
      refine QG.then ?_
      refine CG.block ?_
      refine CG.seq ?_
      refine CG.region ?_
      refine OG.yield (Yield.eql rfl rfl) rfl ?_
      refine OG.yield (Yield.assign rfl) rfl ?_
      refine OG.nil ?_
      refine QG.then ?_
      refine CG.cond rfl (fun hc => ?_) (fun hc => ?_)
      · try replace hc := of_decide_eq_true hc
        refine CG.seq ?_
        rcases (show Bs.length ≤ 64 ∨ 64 < Bs.length by omega) with hl | hl
        · skip
          refine CG.region ?_
          refine OG.yield (Yield.move rfl) rfl ?_
          refine OG.effd (Eff.lit0 Try.underlying49 ti5 rfl) rfl ?_
          rintro b58 -
          refine OG.yield (Yield.fieldAddr fa51_3 rfl) rfl ?_
          refine OG.yield (Yield.load (v := .slice Ba Bs.length Bc) ti49 rfl (Cel.of_blk (b := b9) (by repeat (first | exact Ext.here | apply Ext.there)) rfl)) rfl ?_
          refine OG.effd (Eff.appendB0 (ys := Bs) rfl rfl rfl Try.underlying49 Try.underlying49 ti5 (by decide) (by repeat (first | exact Foc.here | apply Foc.there)) (hB.old (by repeat (first | exact Ext.here | apply Ext.there))) (by omega)) rfl ?_
          rintro ⟨a61, c61⟩ -
          refine OG.callo call23 rfl ((by repeat (first | exact Imp.refl _ | exact Imp.none _ | apply Imp.pull (by repeat (first | exact Ext.here | apply Ext.there)) | apply Imp.trans Imp.drop))) (send_in W _ (n := 0) (ac := Z s r) 3 (bs := Bs) (by exact SlR.of_osl (E := 5) (a := a61) (c := c61) (by repeat (first | exact Ext.here | apply Ext.there))) (by omega) rfl) rfl ?_
          rintro ⟨⟩ -
          first | rw [send_short hl] | rw [send_long hl]
          dsimp only [List.set_cons_zero]
          refine OG.yield (Yield.assign rfl) rfl ?_
          refine OG.nil ?_
          refine QG.then ?_
          refine CG.seq ?_
          refine CG.seq ?_
          refine CG.region ?_
          refine OG.yield (Yield.fieldAddr fa51_3 rfl) rfl ?_
          refine OG.yield (Yield.load (v := .slice Ba Bs.length Bc) ti49 rfl (Cel.of_blk (b := b9) (by repeat (first | exact Ext.here | apply Ext.there)) rfl)) rfl ?_
          refine OG.yield (Yield.len_slice Try.underlying49 rfl rfl) rfl ?_
          refine OG.yield (by first | exact Yield.as (Yield.gtr rfl rfl) (bT (by omega)) | exact Yield.as (Yield.gtr rfl rfl) (bF (by omega)) | exact Yield.gtr rfl rfl) rfl ?_
          refine OG.yield (Yield.move rfl) rfl ?_
          refine OG.yield (by first | exact Yield.as (Yield.eql rfl rfl) (bT (by omega)) | exact Yield.as (Yield.eql rfl rfl) (bF (by omega)) | exact Yield.eql rfl rfl) rfl ?_
          refine OG.yield (by first | exact Yield.bool_samen Try.underlying4 rfl rfl | exact Yield.bool_neq Try.underlying4 rfl rfl) rfl ?_
          refine OG.yield (Yield.move rfl) rfl ?_
          refine OG.guard_yes rfl rfl rfl (by decide) ?_
          refine OG.yield (Yield.fieldAddr fa51_3 rfl) rfl ?_
          refine OG.guard_yes rfl rfl rfl (by decide) ?_
          refine OG.yield (Yield.load (v := .slice Ba Bs.length Bc) ti49 rfl (Cel.of_blk (b := b9) (by repeat (first | exact Ext.here | apply Ext.there)) rfl)) rfl ?_
          refine OG.guard_yes rfl rfl rfl (by decide) ?_
          refine OG.yield (Yield.len_slice Try.underlying49 rfl rfl) rfl ?_
          refine OG.guard_yes rfl rfl rfl (by decide) ?_
          refine OG.yield (by first | exact Yield.as (Yield.leq rfl rfl) (bT (by omega)) | exact Yield.as (Yield.leq rfl rfl) (bF (by omega)) | exact Yield.leq rfl rfl) rfl ?_
          refine OG.guard_yes rfl rfl rfl (by decide) ?_
          refine OG.yield (Yield.move rfl) rfl ?_
          refine OG.guard_yes rfl rfl rfl (by decide) ?_
          refine OG.yield (Yield.move rfl) rfl ?_
          refine OG.guard_yes rfl rfl rfl (by decide) ?_
          refine OG.yield (by first | exact Yield.as (Yield.neq rfl rfl) (bT (by omega)) | exact Yield.as (Yield.neq rfl rfl) (bF (by omega)) | exact Yield.neq rfl rfl) rfl ?_
          refine OG.guard_yes rfl rfl rfl (by decide) ?_
          refine OG.yield (by first | exact Yield.pick_t rfl rfl | exact Yield.pick_f rfl rfl | exact Yield.pick rfl (fun _ => rfl) (fun _ => rfl)) rfl ?_
          refine OG.yield (by first | exact Yield.pick_t rfl rfl | exact Yield.pick_f rfl rfl | exact Yield.pick rfl (fun _ => rfl) (fun _ => rfl)) rfl ?_
          refine OG.nil ?_
          refine QG.then ?_
          refine CG.cond_f rfl ?_
          refine CG.skip ?_
          refine QG.then ?_
          refine CG.seq ?_
          refine CG.region ?_
          refine OG.yield (Yield.move rfl) rfl ?_
          refine OG.yield (by first | exact Yield.as (Yield.eql rfl rfl) (bT (by omega)) | exact Yield.as (Yield.eql rfl rfl) (bF (by omega)) | exact Yield.eql rfl rfl) rfl ?_
          refine OG.nil ?_
          refine QG.then ?_
          refine CG.cond_t rfl ?_
          refine CG.region ?_
          refine OG.yield (Yield.fieldAddr fa51_3 rfl) rfl ?_
          refine OG.yield (Yield.load (v := .slice Ba Bs.length Bc) ti49 rfl (Cel.of_blk (b := b9) (by repeat (first | exact Ext.here | apply Ext.there)) rfl)) rfl ?_
          refine OG.yield (Yield.toStr (bs := Bs) Try.underlying49 Try.underlying9 Try.underlying5 rfl (hB.old (by repeat (first | exact Ext.here | apply Ext.there)))) rfl ?_
          refine OG.yield (Yield.assign rfl) rfl ?_
          refine OG.yield (Yield.assign rfl) rfl ?_
          refine OG.nil ?_
          refine QG.block_normal ?_
          refine QG.block_normal ?_
          refine QG.then ?_
          refine CG.region ?_
          refine OG.yield (Yield.move rfl) rfl ?_
          refine OG.yield (Yield.add rfl rfl (w64 (by omega) (by omega))) rfl ?_
          refine OG.yield (Yield.assign rfl) rfl ?_
          refine OG.nil ?_
          exact QG.next ⟨i + 1, some Bs, r, strOf Bs, sn⟩ ⟨by simp only; omega, fun w h => (by cases h; rfl), wn⟩ (by simp only; omega) (by repeat (first | exact Env.sub_nil _ | refine Env.sub_cons rfl ?_)) (by repeat (first | exact Imp.refl _ | exact Imp.none _ | apply Imp.pull (by repeat (first | exact Ext.here | apply Ext.there)) | apply Imp.trans Imp.drop))
        · skip
          refine CG.region ?_
          refine OG.yield (Yield.move rfl) rfl ?_
          refine OG.effd (Eff.lit0 Try.underlying49 ti5 rfl) rfl ?_
          rintro b58 -
          refine OG.yield (Yield.fieldAddr fa51_3 rfl) rfl ?_
          refine OG.yield (Yield.load (v := .slice Ba Bs.length Bc) ti49 rfl (Cel.of_blk (b := b9) (by repeat (first | exact Ext.here | apply Ext.there)) rfl)) rfl ?_
          refine OG.effd (Eff.appendB0 (ys := Bs) rfl rfl rfl Try.underlying49 Try.underlying49 ti5 (by decide) (by repeat (first | exact Foc.here | apply Foc.there)) (hB.old (by repeat (first | exact Ext.here | apply Ext.there))) (by omega)) rfl ?_
          rintro ⟨a61, c61⟩ -
          refine OG.callo call23 rfl ((by repeat (first | exact Imp.refl _ | exact Imp.none _ | apply Imp.pull (by repeat (first | exact Ext.here | apply Ext.there)) | apply Imp.trans Imp.drop))) (send_in W _ (n := 0) (ac := Z s r) 3 (bs := Bs) (by exact SlR.of_osl (E := 5) (a := a61) (c := c61) (by repeat (first | exact Ext.here | apply Ext.there))) (by omega) rfl) rfl ?_
          rintro ⟨⟩ -
          first | rw [send_short hl] | rw [send_long hl]
          dsimp only [List.set_cons_zero]
          refine OG.yield (Yield.assign rfl) rfl ?_
          refine OG.nil ?_
          refine QG.then ?_
          refine CG.seq ?_
          refine CG.seq ?_
          refine CG.region ?_
          refine OG.yield (Yield.fieldAddr fa51_3 rfl) rfl ?_
          refine OG.yield (Yield.load (v := .slice Ba Bs.length Bc) ti49 rfl (Cel.of_blk (b := b9) (by repeat (first | exact Ext.here | apply Ext.there)) rfl)) rfl ?_
          refine OG.yield (Yield.len_slice Try.underlying49 rfl rfl) rfl ?_
          refine OG.yield (by first | exact Yield.as (Yield.gtr rfl rfl) (bT (by omega)) | exact Yield.as (Yield.gtr rfl rfl) (bF (by omega)) | exact Yield.gtr rfl rfl) rfl ?_
          refine OG.yield (Yield.move rfl) rfl ?_
          refine OG.yield (by first | exact Yield.as (Yield.eql rfl rfl) (bT (by omega)) | exact Yield.as (Yield.eql rfl rfl) (bF (by omega)) | exact Yield.eql rfl rfl) rfl ?_
          refine OG.yield (by first | exact Yield.bool_samen Try.underlying4 rfl rfl | exact Yield.bool_neq Try.underlying4 rfl rfl) rfl ?_
          refine OG.yield (Yield.move rfl) rfl ?_
          refine OG.guard_yes rfl rfl rfl (by decide) ?_
          refine OG.yield (Yield.fieldAddr fa51_3 rfl) rfl ?_
          refine OG.guard_yes rfl rfl rfl (by decide) ?_
          refine OG.yield (Yield.load (v := .slice Ba Bs.length Bc) ti49 rfl (Cel.of_blk (b := b9) (by repeat (first | exact Ext.here | apply Ext.there)) rfl)) rfl ?_
          refine OG.guard_yes rfl rfl rfl (by decide) ?_
          refine OG.yield (Yield.len_slice Try.underlying49 rfl rfl) rfl ?_
          refine OG.guard_yes rfl rfl rfl (by decide) ?_
          refine OG.yield (by first | exact Yield.as (Yield.leq rfl rfl) (bT (by omega)) | exact Yield.as (Yield.leq rfl rfl) (bF (by omega)) | exact Yield.leq rfl rfl) rfl ?_
          refine OG.guard_yes rfl rfl rfl (by decide) ?_
          refine OG.yield (Yield.move rfl) rfl ?_
          refine OG.guard_no rfl rfl rfl rfl rfl (by decide) (by decide) ?_
          refine OG.guard_no rfl rfl rfl rfl rfl (by decide) (by decide) ?_
          refine OG.guard_yes rfl rfl rfl (by decide) ?_
          refine OG.yield (by first | exact Yield.pick_t rfl rfl | exact Yield.pick_f rfl rfl | exact Yield.pick rfl (fun _ => rfl) (fun _ => rfl)) rfl ?_
          refine OG.yield (by first | exact Yield.pick_t rfl rfl | exact Yield.pick_f rfl rfl | exact Yield.pick rfl (fun _ => rfl) (fun _ => rfl)) rfl ?_
          refine OG.nil ?_
          refine QG.then ?_
          refine CG.cond_f rfl ?_
          refine CG.skip ?_
          refine QG.then ?_
          refine CG.seq ?_
          refine CG.region ?_
          refine OG.yield (Yield.move rfl) rfl ?_
          refine OG.yield (by first | exact Yield.as (Yield.eql rfl rfl) (bT (by omega)) | exact Yield.as (Yield.eql rfl rfl) (bF (by omega)) | exact Yield.eql rfl rfl) rfl ?_
          refine OG.nil ?_
          refine QG.then ?_
          refine CG.cond_f rfl ?_
          refine CG.skip ?_
          refine QG.block_normal ?_
          refine QG.block_normal ?_
          refine QG.then ?_
          refine CG.region ?_
          refine OG.yield (Yield.move rfl) rfl ?_
          refine OG.yield (Yield.add rfl rfl (w64 (by omega) (by omega))) rfl ?_
          refine OG.yield (Yield.assign rfl) rfl ?_
          refine OG.nil ?_
          exact QG.next ⟨i + 1, s, r, wr, sn⟩ ⟨by simp only; omega, ws, wn⟩ (by simp only; omega) (by repeat (first | exact Env.sub_nil _ | refine Env.sub_cons rfl ?_)) (by repeat (first | exact Imp.refl _ | exact Imp.none _ | apply Imp.pull (by repeat (first | exact Ext.here | apply Ext.there)) | apply Imp.trans Imp.drop))
      · try replace hc := of_decide_eq_false hc
        refine CG.seq ?_
        refine CG.region ?_
        refine OG.yield (Yield.eql rfl rfl) rfl ?_
        refine OG.yield (Yield.assign rfl) rfl ?_
        refine OG.nil ?_
        refine QG.then ?_
        refine CG.cond rfl (fun hc => ?_) (fun hc => ?_)
        · try replace hc := of_decide_eq_true hc
          refine CG.seq ?_
          rcases (show (∃ w, s = some w) ∨ s = none by cases s; exact .inr rfl; exact .inl ⟨_, rfl⟩) with ⟨w, rfl⟩ | rfl
          · skip
            refine CG.region ?_
            refine OG.yield (Yield.move rfl) rfl ?_
            refine OG.callo call24 rfl ((by repeat (first | exact Imp.refl _ | exact Imp.none _ | apply Imp.pull (by repeat (first | exact Ext.here | apply Ext.there)) | apply Imp.trans Imp.drop))) (transfer_spec W _ (acs := [Z (some w) r])) rfl ?_
            rintro ⟨a88, c88⟩ -
            rw [portsFull.went_one, (tr_some w r).2, show [Z (some w) r].map AC.tr = [Z none (some w)] from rfl]
            dsimp only [Option.isSome_some]
            refine OG.yield (Yield.assign rfl) rfl ?_
            refine OG.nil ?_
            refine QG.then ?_
            refine CG.seq ?_
            refine CG.seq ?_
            refine CG.region ?_
            refine OG.yield (Yield.move rfl) rfl ?_
            refine OG.yield (Yield.move rfl) rfl ?_
            refine OG.yield (Yield.len_slice Try.underlying29 rfl rfl) rfl ?_
            refine OG.yield (by first | exact Yield.as (Yield.eql rfl rfl) (bT (by omega)) | exact Yield.as (Yield.eql rfl rfl) (bF (by omega)) | exact Yield.eql rfl rfl) rfl ?_
            refine OG.yield (by first | exact Yield.bool_samen Try.underlying4 rfl rfl | exact Yield.bool_neq Try.underlying4 rfl rfl) rfl ?_
            refine OG.nil ?_
            refine QG.then ?_
            refine CG.cond_f rfl ?_
            refine CG.skip ?_
            refine QG.then ?_
            refine CG.seq ?_
            refine CG.region ?_
            refine OG.yield (Yield.move rfl) rfl ?_
            refine OG.nil ?_
            refine QG.then ?_
            refine CG.cond_t rfl ?_
            refine CG.region ?_
            refine OG.yield (Yield.move rfl) rfl ?_
            refine OG.yield (Yield.assign rfl) rfl ?_
            refine OG.yield (Yield.assign rfl) rfl ?_
            refine OG.yield (Yield.assign rfl) rfl ?_
            refine OG.nil ?_
            refine QG.block_normal ?_
            refine QG.block_normal ?_
            refine QG.then ?_
            refine CG.region ?_
            refine OG.yield (Yield.move rfl) rfl ?_
            refine OG.yield (Yield.add rfl rfl (w64 (by omega) (by omega))) rfl ?_
            refine OG.yield (Yield.assign rfl) rfl ?_
            refine OG.nil ?_
            exact QG.next ⟨i + 1, none, some w, wr, wr⟩ ⟨by simp only; omega, fun w h => (by cases h), fun w2 h => (by cases h; exact ws w rfl)⟩ (by simp only; omega) (by repeat (first | exact Env.sub_nil _ | refine Env.sub_cons rfl ?_)) (by repeat (first | exact Imp.refl _ | exact Imp.none _ | apply Imp.pull (by repeat (first | exact Ext.here | apply Ext.there)) | apply Imp.trans Imp.drop))
          · skip
            refine CG.region ?_
            refine OG.yield (Yield.move rfl) rfl ?_
            refine OG.callo call24 rfl ((by repeat (first | exact Imp.refl _ | exact Imp.none _ | apply Imp.pull (by repeat (first | exact Ext.here | apply Ext.there)) | apply Imp.trans Imp.drop))) (transfer_spec W _ (acs := [Z none r])) rfl ?_
            rintro ⟨a88, c88⟩ -
            rw [portsFull.went_one, (tr_none r).2, show [Z none r].map AC.tr = [Z none r] from rfl]
            dsimp only [Option.isSome_none]
            refine OG.yield (Yield.assign rfl) rfl ?_
            refine OG.nil ?_
            refine QG.then ?_
            refine CG.seq ?_
            refine CG.seq ?_
            refine CG.region ?_
            refine OG.yield (Yield.move rfl) rfl ?_
            refine OG.yield (Yield.move rfl) rfl ?_
            refine OG.yield (Yield.len_slice Try.underlying29 rfl rfl) rfl ?_
            refine OG.yield (by first | exact Yield.as (Yield.eql rfl rfl) (bT (by omega)) | exact Yield.as (Yield.eql rfl rfl) (bF (by omega)) | exact Yield.eql rfl rfl) rfl ?_
            refine OG.yield (by first | exact Yield.bool_samen Try.underlying4 rfl rfl | exact Yield.bool_neq Try.underlying4 rfl rfl) rfl ?_
            refine OG.nil ?_
            refine QG.then ?_
            refine CG.cond_f rfl ?_
            refine CG.skip ?_
            refine QG.then ?_
            refine CG.seq ?_
            refine CG.region ?_
            refine OG.yield (Yield.move rfl) rfl ?_
            refine OG.nil ?_
            refine QG.then ?_
            refine CG.cond_f rfl ?_
            refine CG.skip ?_
            refine QG.block_normal ?_
            refine QG.block_normal ?_
            refine QG.then ?_
            refine CG.region ?_
            refine OG.yield (Yield.move rfl) rfl ?_
            refine OG.yield (Yield.add rfl rfl (w64 (by omega) (by omega))) rfl ?_
            refine OG.yield (Yield.assign rfl) rfl ?_
            refine OG.nil ?_
            exact QG.next ⟨i + 1, none, r, wr, sn⟩ ⟨by simp only; omega, ws, wn⟩ (by simp only; omega) (by repeat (first | exact Env.sub_nil _ | refine Env.sub_cons rfl ?_)) (by repeat (first | exact Imp.refl _ | exact Imp.none _ | apply Imp.pull (by repeat (first | exact Ext.here | apply Ext.there)) | apply Imp.trans Imp.drop))
        · try replace hc := of_decide_eq_false hc
          refine CG.seq ?_
          rcases (show (∃ w, r = some w) ∨ (r = none ∧ (!((strOf []).toList == sn.toList)) = true) ∨ (r = none ∧ (!((strOf []).toList == sn.toList)) = false) by cases r; (cases h : (!((strOf []).toList == sn.toList)); exact .inr (.inr ⟨rfl, rfl⟩); exact .inr (.inl ⟨rfl, rfl⟩)); exact .inl ⟨_, rfl⟩) with ⟨w, rfl⟩ | ⟨rfl, hq⟩ | ⟨rfl, hq⟩
          · skip
            have hsn := wn w rfl
            subst hsn
            refine CG.region ?_
            refine OG.yield (Yield.move rfl) rfl ?_
            refine OG.callo call25 rfl ((by repeat (first | exact Imp.refl _ | exact Imp.none _ | apply Imp.pull (by repeat (first | exact Ext.here | apply Ext.there)) | apply Imp.trans Imp.drop))) (recv_ok W _ (n := 0) (ac := Z s (some w)) 5 (m := w) (rest := []) rfl rfl rfl) rfl ?_
            rintro bz -
            rw [if_neg (show ¬ (1 : Int) = 2 by decide)]
            dsimp only [List.set_cons_zero]
            refine OG.yield (Yield.move rfl) rfl ?_
            refine OG.yield (Yield.extract rfl rfl) rfl ?_
            refine OG.yield (Yield.extract rfl rfl) rfl ?_
            refine OG.yield (Yield.assign rfl) rfl ?_
            refine OG.yield (Yield.assign rfl) rfl ?_
            refine OG.nil ?_
            refine QG.then ?_
            refine CG.seq ?_
            refine CG.region ?_
            refine OG.yield (Yield.move rfl) rfl ?_
            refine OG.yield (Yield.move rfl) rfl ?_
            refine OG.yield (by first | exact Yield.as (Yield.eql rfl rfl) (bT (by omega)) | exact Yield.as (Yield.eql rfl rfl) (bF (by omega)) | exact Yield.eql rfl rfl) rfl ?_
            refine OG.yield (by first | exact Yield.bool_samen Try.underlying4 rfl rfl | exact Yield.bool_neq Try.underlying4 rfl rfl) rfl ?_
            refine OG.yield (Yield.move rfl) rfl ?_
            refine OG.guard_yes rfl rfl rfl (by decide) ?_
            refine OG.yield (Yield.move rfl) rfl ?_
            refine OG.guard_yes rfl rfl rfl (by decide) ?_
            refine OG.yield (Yield.toStr (bs := w) Try.underlying49 Try.underlying9 Try.underlying5 rfl (SlR.of_osl (E := 5) (a := some ⟨bz, 0, none⟩) (by repeat (first | exact Ext.here | apply Ext.there)))) rfl ?_
            refine OG.guard_yes rfl rfl rfl (by decide) ?_
            refine OG.yield (Yield.move rfl) rfl ?_
            refine OG.guard_yes rfl rfl rfl (by decide) ?_
            refine OG.yield (by first | exact Yield.str_samen rfl rfl | exact Yield.str_neq rfl rfl) rfl ?_
            refine OG.guard_yes rfl rfl rfl (by decide) ?_
            refine OG.yield (Yield.move rfl) rfl ?_
            refine OG.guard_no rfl rfl rfl rfl rfl (by decide) (by decide) ?_
            refine OG.guard_yes rfl rfl rfl (by decide) ?_
            refine OG.yield (by first | exact Yield.pick_t rfl rfl | exact Yield.pick_f rfl rfl | exact Yield.pick rfl (fun _ => rfl) (fun _ => rfl)) rfl ?_
            refine OG.yield (by first | exact Yield.pick_t rfl rfl | exact Yield.pick_f rfl rfl | exact Yield.pick rfl (fun _ => rfl) (fun _ => rfl)) rfl ?_
            refine OG.nil ?_
            refine QG.then ?_
            refine CG.cond_f rfl ?_
            refine CG.skip ?_
            refine QG.block_normal ?_
            refine QG.block_normal ?_
            refine QG.then ?_
            refine CG.region ?_
            refine OG.yield (Yield.move rfl) rfl ?_
            refine OG.yield (Yield.add rfl rfl (w64 (by omega) (by omega))) rfl ?_
            refine OG.yield (Yield.assign rfl) rfl ?_
            refine OG.nil ?_
            exact QG.next ⟨i + 1, s, some w, wr, strOf w⟩ ⟨by simp only; omega, ws, wn⟩ (by simp only; omega) (by repeat (first | exact Env.sub_nil _ | refine Env.sub_cons rfl ?_)) (by repeat (first | exact Imp.refl _ | exact Imp.none _ | apply Imp.pull (by repeat (first | exact Ext.here | apply Ext.there)) | apply Imp.trans Imp.drop))
          · skip
            skip
            refine CG.region ?_
            refine OG.yield (Yield.move rfl) rfl ?_
            refine OG.callo call25 rfl ((by repeat (first | exact Imp.refl _ | exact Imp.none _ | apply Imp.pull (by repeat (first | exact Ext.here | apply Ext.there)) | apply Imp.trans Imp.drop))) (recv_bad W _ (n := 0) (ac := Z s none) 5 rfl (show (110 : Int) ≠ 0 by decide)) rfl ?_
            rintro ⟨⟩ -
            rw [show recvE (Z s none) 5 = 110 from rfl]
            refine OG.yield (Yield.move rfl) rfl ?_
            refine OG.yield (Yield.extract rfl rfl) rfl ?_
            refine OG.yield (Yield.extract rfl rfl) rfl ?_
            refine OG.yield (Yield.assign rfl) rfl ?_
            refine OG.yield (Yield.assign rfl) rfl ?_
            refine OG.nil ?_
            refine QG.then ?_
            refine CG.seq ?_
            refine CG.region ?_
            refine OG.yield (Yield.move rfl) rfl ?_
            refine OG.yield (Yield.move rfl) rfl ?_
            refine OG.yield (by first | exact Yield.as (Yield.eql rfl rfl) (bT (by omega)) | exact Yield.as (Yield.eql rfl rfl) (bF (by omega)) | exact Yield.eql rfl rfl) rfl ?_
            refine OG.yield (by first | exact Yield.bool_samen Try.underlying4 rfl rfl | exact Yield.bool_neq Try.underlying4 rfl rfl) rfl ?_
            refine OG.yield (Yield.move rfl) rfl ?_
            refine OG.guard_yes rfl rfl rfl (by decide) ?_
            refine OG.yield (Yield.move rfl) rfl ?_
            refine OG.guard_yes rfl rfl rfl (by decide) ?_
            refine OG.yield (Yield.toStr (bs := []) Try.underlying49 Try.underlying9 Try.underlying5 rfl SlR.nil) rfl ?_
            refine OG.guard_yes rfl rfl rfl (by decide) ?_
            refine OG.yield (Yield.move rfl) rfl ?_
            refine OG.guard_yes rfl rfl rfl (by decide) ?_
            refine OG.yield (Yield.as (Yield.str_neq rfl rfl) (v' := .bool true) (by rw [hq])) rfl ?_
            refine OG.guard_yes rfl rfl rfl (by decide) ?_
            refine OG.yield (Yield.move rfl) rfl ?_
            refine OG.guard_yes rfl rfl rfl (by decide) ?_
            refine OG.yield (Yield.move rfl) rfl ?_
            refine OG.guard_yes rfl rfl rfl (by decide) ?_
            refine OG.yield (by first | exact Yield.pick_t rfl rfl | exact Yield.pick_f rfl rfl | exact Yield.pick rfl (fun _ => rfl) (fun _ => rfl)) rfl ?_
            refine OG.yield (by first | exact Yield.pick_t rfl rfl | exact Yield.pick_f rfl rfl | exact Yield.pick rfl (fun _ => rfl) (fun _ => rfl)) rfl ?_
            refine OG.nil ?_
            refine QG.then ?_
            refine CG.cond_f rfl ?_
            refine CG.skip ?_
            refine QG.block_normal ?_
            refine QG.block_normal ?_
            refine QG.then ?_
            refine CG.region ?_
            refine OG.yield (Yield.move rfl) rfl ?_
            refine OG.yield (Yield.add rfl rfl (w64 (by omega) (by omega))) rfl ?_
            refine OG.yield (Yield.assign rfl) rfl ?_
            refine OG.nil ?_
            exact QG.next ⟨i + 1, s, none, wr, sn⟩ ⟨by simp only; omega, ws, wn⟩ (by simp only; omega) (by repeat (first | exact Env.sub_nil _ | refine Env.sub_cons rfl ?_)) (by repeat (first | exact Imp.refl _ | exact Imp.none _ | apply Imp.pull (by repeat (first | exact Ext.here | apply Ext.there)) | apply Imp.trans Imp.drop))
          · skip
            skip
            refine CG.region ?_
            refine OG.yield (Yield.move rfl) rfl ?_
            refine OG.callo call25 rfl ((by repeat (first | exact Imp.refl _ | exact Imp.none _ | apply Imp.pull (by repeat (first | exact Ext.here | apply Ext.there)) | apply Imp.trans Imp.drop))) (recv_bad W _ (n := 0) (ac := Z s none) 5 rfl (show (110 : Int) ≠ 0 by decide)) rfl ?_
            rintro ⟨⟩ -
            rw [show recvE (Z s none) 5 = 110 from rfl]
            refine OG.yield (Yield.move rfl) rfl ?_
            refine OG.yield (Yield.extract rfl rfl) rfl ?_
            refine OG.yield (Yield.extract rfl rfl) rfl ?_
            refine OG.yield (Yield.assign rfl) rfl ?_
            refine OG.yield (Yield.assign rfl) rfl ?_
            refine OG.nil ?_
            refine QG.then ?_
            refine CG.seq ?_
            refine CG.region ?_
            refine OG.yield (Yield.move rfl) rfl ?_
            refine OG.yield (Yield.move rfl) rfl ?_
            refine OG.yield (by first | exact Yield.as (Yield.eql rfl rfl) (bT (by omega)) | exact Yield.as (Yield.eql rfl rfl) (bF (by omega)) | exact Yield.eql rfl rfl) rfl ?_
            refine OG.yield (by first | exact Yield.bool_samen Try.underlying4 rfl rfl | exact Yield.bool_neq Try.underlying4 rfl rfl) rfl ?_
            refine OG.yield (Yield.move rfl) rfl ?_
            refine OG.guard_yes rfl rfl rfl (by decide) ?_
            refine OG.yield (Yield.move rfl) rfl ?_
            refine OG.guard_yes rfl rfl rfl (by decide) ?_
            refine OG.yield (Yield.toStr (bs := []) Try.underlying49 Try.underlying9 Try.underlying5 rfl SlR.nil) rfl ?_
            refine OG.guard_yes rfl rfl rfl (by decide) ?_
            refine OG.yield (Yield.move rfl) rfl ?_
            refine OG.guard_yes rfl rfl rfl (by decide) ?_
            refine OG.yield (Yield.as (Yield.str_neq rfl rfl) (v' := .bool false) (by rw [hq])) rfl ?_
            refine OG.guard_yes rfl rfl rfl (by decide) ?_
            refine OG.yield (Yield.move rfl) rfl ?_
            refine OG.guard_no rfl rfl rfl rfl rfl (by decide) (by decide) ?_
            refine OG.guard_yes rfl rfl rfl (by decide) ?_
            refine OG.yield (by first | exact Yield.pick_t rfl rfl | exact Yield.pick_f rfl rfl | exact Yield.pick rfl (fun _ => rfl) (fun _ => rfl)) rfl ?_
            refine OG.yield (by first | exact Yield.pick_t rfl rfl | exact Yield.pick_f rfl rfl | exact Yield.pick rfl (fun _ => rfl) (fun _ => rfl)) rfl ?_
            refine OG.nil ?_
            refine QG.then ?_
            refine CG.cond_f rfl ?_
            refine CG.skip ?_
            refine QG.block_normal ?_
            refine QG.block_normal ?_
            refine QG.then ?_
            refine CG.region ?_
            refine OG.yield (Yield.move rfl) rfl ?_
            refine OG.yield (Yield.add rfl rfl (w64 (by omega) (by omega))) rfl ?_
            refine OG.yield (Yield.assign rfl) rfl ?_
            refine OG.nil ?_
            exact QG.next ⟨i + 1, s, none, wr, sn⟩ ⟨by simp only; omega, ws, wn⟩ (by simp only; omega) (by repeat (first | exact Env.sub_nil _ | refine Env.sub_cons rfl ?_)) (by repeat (first | exact Imp.refl _ | exact Imp.none _ | apply Imp.pull (by repeat (first | exact Ext.here | apply Ext.there)) | apply Imp.trans Imp.drop))
    · skip
      refine CG.region ?_
      refine OG.yield (Yield.move rfl) rfl ?_
      refine OG.yield (Yield.move rfl) rfl ?_
      refine OG.yield (Yield.len_slice Try.underlying43 rfl rfl) rfl ?_
      refine OG.yield (by first | exact Yield.as (Yield.lss rfl rfl) (bT (by omega)) | exact Yield.as (Yield.lss rfl rfl) (bF (by omega)) | exact Yield.lss rfl rfl) rfl ?_
      refine OG.yield (Yield.move rfl) rfl ?_
      refine OG.guard_yes rfl rfl rfl (by decide) ?_
      refine OG.yield (Yield.move rfl) rfl ?_
      refine OG.guard_yes rfl rfl rfl (by decide) ?_
      refine OG.yield (by first | exact Yield.as (Yield.lss rfl rfl) (bT (by omega)) | exact Yield.as (Yield.lss rfl rfl) (bF (by omega)) | exact Yield.lss rfl rfl) rfl ?_
      refine OG.yield (by first | exact Yield.pick_t rfl rfl | exact Yield.pick_f rfl rfl | exact Yield.pick rfl (fun _ => rfl) (fun _ => rfl)) rfl ?_
      refine OG.nil ?_
      refine QG.then ?_
      refine CG.cond_f rfl ?_
      refine CG.exit ?_
      refine QG.pass_exit ?_
      refine QG.pass_exit ?_
      refine QG.block_exit ?_
      exact QG.mid () trivial (by repeat (first | exact Env.sub_nil _ | refine Env.sub_cons rfl ?_)) (by repeat (first | exact Imp.refl _ | exact Imp.none _ | apply Imp.pull (by repeat (first | exact Ext.here | apply Ext.there)) | apply Imp.trans Imp.drop))
    · skip
      refine CG.region ?_
      refine OG.yield (Yield.move rfl) rfl ?_
      refine OG.yield (Yield.move rfl) rfl ?_
      refine OG.yield (Yield.len_slice Try.underlying43 rfl rfl) rfl ?_
      refine OG.yield (by first | exact Yield.as (Yield.lss rfl rfl) (bT (by omega)) | exact Yield.as (Yield.lss rfl rfl) (bF (by omega)) | exact Yield.lss rfl rfl) rfl ?_
      refine OG.yield (Yield.move rfl) rfl ?_
      refine OG.guard_no rfl rfl rfl rfl rfl (by decide) (by decide) ?_
      refine OG.guard_no rfl rfl rfl rfl rfl (by decide) (by decide) ?_
      refine OG.yield (by first | exact Yield.pick_t rfl rfl | exact Yield.pick_f rfl rfl | exact Yield.pick rfl (fun _ => rfl) (fun _ => rfl)) rfl ?_
      refine OG.nil ?_
      refine QG.then ?_
      refine CG.cond_f rfl ?_
      refine CG.exit ?_
      refine QG.pass_exit ?_
      refine QG.pass_exit ?_
      refine QG.block_exit ?_
      exact QG.mid () trivial (by repeat (first | exact Env.sub_nil _ | refine Env.sub_cons rfl ?_)) (by repeat (first | exact Imp.refl _ | exact Imp.none _ | apply Imp.pull (by repeat (first | exact Ext.here | apply Ext.there)) | apply Imp.trans Imp.drop))
  rintro ⟨⟩ -
  refine CG.seq ?_
  refine CG.region ?_
  refine OG.yield (Yield.assign rfl) rfl ?_
  refine OG.nil ?_
  refine QG.then ?_
  refine CG.ret ?_
  exact QG.ret1 rfl rfl () trivial rfl (by repeat (first | exact Imp.refl _ | exact Imp.none _ | apply Imp.pull (by repeat (first | exact Ext.here | apply Ext.there)) | apply Imp.trans Imp.drop))
open Go.ChangeShapes Go.WideShapes Go.ChangeAt
theorem own : ownKnob Try.prog.godebug = none := by kernel_rfl
theorem laid : laidOutB Try.prog = true := by kernel_rfl
set_option maxRecDepth 100000 in
theorem lifted (os : Os) (started : os.Started) (H : Type) (enc : TypeId × Value → H) :
    ReturnsInHanded {} Try.checked os 6 .any (Rows.portsSampleSpec.pre6 enc Try.prog Try.f6 Rows.portsSampleRow.domain false) (Rows.portsSampleSpec.post enc Try.prog Try.f6 false true false false) := by
  refine returnsInHanded_of_change_sized (C := Try.checked) own started (by kernel_rfl) Try.func6
    (ChangeSpec.witness6 (enc := enc) (C := Try.checked) false ⟨#[], #[.slice none 0 0], []⟩ 8 (by kernel_rfl) (by kernel_rfl) (by kernel_rfl) (by kernel_rfl)) ?_
  intro W base args ds gs before hval0 hW hcnd hsz0 _
  have hsz : (DataW.weightsEach Try.prog (Try.f6.params.toList ++ Rows.portsSampleSpec.plain.varTypes Try.prog) (ds ++ gs)).all (· ≤ reachBytes) = true := hsz0
  have hval : ∀ (j : Nat) t v, Try.f6.params[j]? = some t → args[j]? = some v → Value.okWide Try.prog W .any base t v := hval0
  have hW' := hW
  obtain ⟨p, q, hA0, hV, rfl, hfz, hnd⟩ := hW
  have hA : DataW.TrodAll enc Try.prog W 0 (fun _ => true) true Try.f6.params.toList args.toList ds p := hA0
  rw [Try.params6] at hA hval hsz
  obtain ⟨v0, vs0, d0, ds0, p0, q0, hargs, rfl, rfl, h0, r0⟩ := trodAll_cons hA
  obtain ⟨rfl, rfl, rfl⟩ := trodAll_nil r0
  obtain rfl : args = #[v0] := by cases args; simp_all
  obtain ⟨rfl, rfl⟩ := trodVars_none hV
  have k0 := weights_le hsz 0 (t := 43) (d := d0) rfl rfl
  have s0 := Opn.param Try.underlying43 (POp.list W) (hval 0 43 v0 rfl rfl) h0 k0
  obtain ⟨x0, c0, ops, e0, l0, ok0, s0, m0⟩ := s0
  cases e0
  clear hA0 hval0 hsz0 hsz
  refine ((walk W s0 ok0) W (Sat.start W)).mono fun e W' he => ?_
  obtain ⟨_, _, he, hs⟩ := he
  subst he
  exact ⟨_, rfl, law_post laid (params_ok (by kernel_rfl)) rfl Try.underlying4 hW' rfl rfl (Sat.below (by repeat (first | exact Ext.here | apply Ext.there)) hs)⟩
theorem over : Rows.portsSampleRow.holds Try.pinned (OpenSpec.ofChange Rows.portsSampleSpec) :=
  OpenClaim.holds_of_wide 6 Try.f6 rfl rfl rfl rfl rfl rfl rfl ⟨rfl, rfl, rfl, rfl, rfl⟩ rfl rfl rfl rfl rfl (by kernel_rfl) Try.func6 (by kernel_rfl)
    (of_decide_eq_true (by kernel_rfl)) (by unfold Func.isWrapper; first | (rw [if_pos (by decide +kernel)]; kernel_rfl) | (rw [if_neg (by decide +kernel)]; exact ⟨rfl, rfl⟩))
    (fun os started H enc _ => lifted os started H enc)
theorem proved : Rows.PortsSampleSaid := over
#print axioms proved
end Go.Proofs.Ytjigjbcdopmeeaa.portsSample
