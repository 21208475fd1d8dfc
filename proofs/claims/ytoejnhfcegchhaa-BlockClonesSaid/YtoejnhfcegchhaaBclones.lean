/- BlockClones: two disks that were one go their own ways: the law returns true and changes nothing that was there. -/
import Derived.Test.YtoejnhfcegchhaaBlaw
namespace Go.Proofs.Ytoejnhfcegchhaa.blockClones
open Go Go.Sl Go.RowKit Go.Proofs Go.Proofs.Ytoejnhfcegchhaa.T Go.Proofs.Ytoejnhfcegchhaa.Ms Go.Proofs.Ytoejnhfcegchhaa.Vd Go.Proofs.Ytoejnhfcegchhaa.Bk
set_option linter.unusedVariables false
set_option linter.unusedSimpArgs false
set_option maxRecDepth 100000
/-- How far the disk has been told: all it holds is done soon. -/
structure Av (s : Bs) (i : Nat) : Prop where
  ok : s.OK
  taken : s.taken ≤ i
  free : s.free ≤ 100000 + 1000 * i
  done : ∀ j ∈ s.q, j.done ≤ 100000 + 1000 * i
  dl : ∀ x ∈ s.delays, 0 ≤ x ∧ x ≤ 999
theorem Av.sub {s : Bs} {i : Nat} (h : Av s i) {r : Rq} {now : Int} (hn : now ≤ 99999) (hd : r.data.length ≤ dmax) : Av (subS s r now) (i + 1) := by
  have hf := h.free
  have ht := h.taken
  by_cases e : subBE s r.write r.sector r.data.length now = 0
  · rw [show subS s r now = subBR s r now from if_pos e]
    have hdl := delayR_to h.dl h.ok.taken (by decide)
    have hfr : freeR s now ≤ 100000 + 1000 * ((i + 1 : Nat) : Int) := by unfold freeR; omega
    refine ⟨subBR_ok h.ok e hd, ?_, hfr, fun j hj => ?_, h.dl⟩
    · show s.taken + 1 ≤ ((i + 1 : Nat) : Int); omega
    · rcases List.mem_append.1 hj with hj | hj
      · have := h.done j hj; omega
      · simp only [List.mem_cons, List.not_mem_nil, or_false] at hj; subst hj; exact hfr
  · rw [show subS s r now = s from if_neg e]
    exact ⟨h.ok, by omega, by omega, fun j hj => by have := h.done j hj; omega, h.dl⟩
theorem subS_taken (s : Bs) (r : Rq) (now : Int) : (subS s r now).taken ≤ s.taken + 1 := by
  unfold subS; split
  · exact Int.le_refl _
  · omega
structure Lp where
  i : Nat
  a : Option Addr
  c : Nat
def gd (l : List Int) (i : Nat) : List Int := (l.take i).map (md 1000)
theorem gd_len {l : List Int} {i : Nat} (h : i ≤ l.length) : (gd l i).length = i := by unfold gd; simp; omega
theorem gd_range {l : List Int} {i : Nat} : ∀ x ∈ gd l i, 0 ≤ x ∧ x ≤ 999 := fun x hx => by
  obtain ⟨y, _, rfl⟩ := List.mem_map.1 hx
  have := md_range (k := 1000) (by decide) y
  omega
theorem gd_step {l : List Int} {i : Nat} {x : Int} (h : l[i]? = some x) : gd l (i + 1) = gd l i ++ [md 1000 x] := by
  obtain ⟨hlt, rfl⟩ := List.getElem?_eq_some_iff.1 h
  unfold gd; rw [List.take_succ_eq_append_getElem hlt, List.map_append]; rfl
set_option maxHeartbeats 4000000 in
theorem walk (W : World) {a0 a1 a2 : Option Addr} {c0 c1 c2 : Nat} {delays : List Int} {ops oth : List BAct} (hqs0 : SlAt W 1 a0 delays.length ((delays.map (intC .i64)).flatten)) (hops : SlAt W 7 a1 ops.length ((ops.map BAct.cells).flatten)) (hok : ∀ o ∈ ops, o.OK W) (hoth : SlAt W 7 a2 oth.length ((oth.map BAct.cells).flatten)) (hok2 : ∀ o ∈ oth, o.OK W) :
    Ctr Try.prog W 8 [.slice a0 delays.length c0, .slice a1 ops.length c1, .slice a2 oth.length c2] [old W] (fun _ : Unit => True) (fun _ => .bool true) (fun _ => [old W]) := by
  refine Ctr.of_body Try.func8 rfl Try.ntmps8 rfl ?_
  refine CG.seq ?_
  refine CG.region ?_
  refine OG.yield (Yield.assign rfl) rfl ?_
  refine OG.nil ?_
  refine QG.then ?_
  refine CG.seq ?_
  refine CG.seq ?_
  refine CG.region ?_
  refine OG.callo call17 rfl (Imp.refl _) (works_spec W _) rfl ?_
  rintro ⟨⟩ -
  refine OG.yield (Yield.not rfl) rfl ?_
  refine OG.nil ?_
  refine QG.then ?_
  refine CG.cond_f rfl ?_
  refine CG.skip ?_
  refine QG.then ?_
  refine CG.seq ?_
  refine CG.seq ?_
  rcases (show 100 < ops.length ∨ (ops.length ≤ 100 ∧ 100 < oth.length) ∨ (ops.length ≤ 100 ∧ oth.length ≤ 100) by omega) with hp | hp | hp
  · skip
    refine CG.region ?_
    refine OG.yield (Yield.move rfl) rfl ?_
    refine OG.yield (Yield.len_slice Try.underlying67 rfl rfl) rfl ?_
    refine OG.yield (by first | exact Yield.as (Yield.gtr rfl rfl) (bT (by omega)) | exact Yield.as (Yield.gtr rfl rfl) (bF (by omega)) | exact Yield.gtr rfl rfl) rfl ?_
    refine OG.yield (Yield.move rfl) rfl ?_
    refine OG.guard_no rfl rfl rfl rfl rfl (by decide) (by decide) ?_
    refine OG.guard_no rfl rfl rfl rfl rfl (by decide) (by decide) ?_
    refine OG.guard_no rfl rfl rfl rfl rfl (by decide) (by decide) ?_
    refine OG.yield (by first | exact Yield.pick_t rfl rfl | exact Yield.pick_f rfl rfl | exact Yield.pick rfl (fun _ => rfl) (fun _ => rfl)) rfl ?_
    refine OG.nil ?_
    refine QG.then ?_
    refine CG.cond_t rfl ?_
    refine CG.seq ?_
    refine CG.region ?_
    refine OG.yield (Yield.assign rfl) rfl ?_
    refine OG.nil ?_
    refine QG.then ?_
    refine CG.ret ?_
    refine QG.pass_ret ?_
    exact QG.ret1 rfl rfl () trivial rfl (by repeat (first | exact Imp.refl _ | exact Imp.none _ | apply Imp.pull (by repeat (first | exact Ext.here | apply Ext.there)) | apply Imp.trans Imp.drop))
  · skip
    refine CG.region ?_
    refine OG.yield (Yield.move rfl) rfl ?_
    refine OG.yield (Yield.len_slice Try.underlying67 rfl rfl) rfl ?_
    refine OG.yield (by first | exact Yield.as (Yield.gtr rfl rfl) (bT (by omega)) | exact Yield.as (Yield.gtr rfl rfl) (bF (by omega)) | exact Yield.gtr rfl rfl) rfl ?_
    refine OG.yield (Yield.move rfl) rfl ?_
    refine OG.guard_yes rfl rfl rfl (by decide) ?_
    refine OG.yield (Yield.move rfl) rfl ?_
    refine OG.guard_yes rfl rfl rfl (by decide) ?_
    refine OG.yield (Yield.len_slice Try.underlying67 rfl rfl) rfl ?_
    refine OG.guard_yes rfl rfl rfl (by decide) ?_
    refine OG.yield (by first | exact Yield.as (Yield.gtr rfl rfl) (bT (by omega)) | exact Yield.as (Yield.gtr rfl rfl) (bF (by omega)) | exact Yield.gtr rfl rfl) rfl ?_
    refine OG.yield (by first | exact Yield.pick_t rfl rfl | exact Yield.pick_f rfl rfl | exact Yield.pick rfl (fun _ => rfl) (fun _ => rfl)) rfl ?_
    refine OG.nil ?_
    refine QG.then ?_
    refine CG.cond_t rfl ?_
    refine CG.seq ?_
    refine CG.region ?_
    refine OG.yield (Yield.assign rfl) rfl ?_
    refine OG.nil ?_
    refine QG.then ?_
    refine CG.ret ?_
    refine QG.pass_ret ?_
    exact QG.ret1 rfl rfl () trivial rfl (by repeat (first | exact Imp.refl _ | exact Imp.none _ | apply Imp.pull (by repeat (first | exact Ext.here | apply Ext.there)) | apply Imp.trans Imp.drop))
  · skip
    refine CG.region ?_
    refine OG.yield (Yield.move rfl) rfl ?_
    refine OG.yield (Yield.len_slice Try.underlying67 rfl rfl) rfl ?_
    refine OG.yield (by first | exact Yield.as (Yield.gtr rfl rfl) (bT (by omega)) | exact Yield.as (Yield.gtr rfl rfl) (bF (by omega)) | exact Yield.gtr rfl rfl) rfl ?_
    refine OG.yield (Yield.move rfl) rfl ?_
    refine OG.guard_yes rfl rfl rfl (by decide) ?_
    refine OG.yield (Yield.move rfl) rfl ?_
    refine OG.guard_yes rfl rfl rfl (by decide) ?_
    refine OG.yield (Yield.len_slice Try.underlying67 rfl rfl) rfl ?_
    refine OG.guard_yes rfl rfl rfl (by decide) ?_
    refine OG.yield (by first | exact Yield.as (Yield.gtr rfl rfl) (bT (by omega)) | exact Yield.as (Yield.gtr rfl rfl) (bF (by omega)) | exact Yield.gtr rfl rfl) rfl ?_
    refine OG.yield (by first | exact Yield.pick_t rfl rfl | exact Yield.pick_f rfl rfl | exact Yield.pick rfl (fun _ => rfl) (fun _ => rfl)) rfl ?_
    refine OG.nil ?_
    refine QG.then ?_
    refine CG.cond_f rfl ?_
    refine CG.skip ?_
    refine QG.then ?_
    refine CG.seq ?_
    refine CG.region ?_
    refine OG.yield (Yield.assign rfl) rfl ?_
    refine OG.nil ?_
    refine QG.then ?_
    refine CG.seq ?_
    refine CG.seq ?_
    refine CG.region ?_
    refine OG.yield (Yield.assign rfl) rfl ?_
    refine OG.nil ?_
    refine QG.then ?_
    refine CG.block ?_
    refine CG.loop (fun x : Lp => x.i ≤ delays.length ∧ x.i ≤ 50) (fun x => [(0, .slice a0 delays.length c0), (1, .slice a1 ops.length c1), (2, .slice a2 oth.length c2), (7, .slice x.a (gd delays x.i).length x.c), (8, .int .i64 x.i)]) (fun x => [onum 3 .i64 x.a x.c (gd delays x.i), old W]) (fun x => delays.length - x.i) ⟨0, none, 0⟩ ⟨Nat.zero_le _, Nat.zero_le _⟩ (by repeat (first | exact Env.sub_nil _ | refine Env.sub_cons rfl ?_)) (osl_nil (E := 3) (sz := 1)) ?_
    rintro ⟨i, a7, c7⟩ ⟨hi, hi50⟩
    dsimp only at hi hi50 ⊢
    have hgl := gd_len hi
    refine CG.seq ?_
    refine CG.seq ?_
    rcases loop_head (i) (delays.length) 50 with hh | hh | hh
    · skip
      refine CG.region ?_
      refine OG.yield (Yield.move rfl) rfl ?_
      refine OG.yield (Yield.move rfl) rfl ?_
      refine OG.yield (Yield.len_slice Try.underlying23 rfl rfl) rfl ?_
      refine OG.yield (by first | exact Yield.as (Yield.lss rfl rfl) (bT (by omega)) | exact Yield.as (Yield.lss rfl rfl) (bF (by omega)) | exact Yield.lss rfl rfl) rfl ?_
      refine OG.yield (Yield.move rfl) rfl ?_
      refine OG.guard_yes rfl rfl rfl (by decide) ?_
      refine OG.yield (Yield.move rfl) rfl ?_
      refine OG.guard_yes rfl rfl rfl (by decide) ?_
      refine OG.yield (by first | exact Yield.as (Yield.lss rfl rfl) (bT (by omega)) | exact Yield.as (Yield.lss rfl rfl) (bF (by omega)) | exact Yield.lss rfl rfl) rfl ?_
      refine OG.yield (by first | exact Yield.pick_t rfl rfl | exact Yield.pick_f rfl rfl | exact Yield.pick rfl (fun _ => rfl) (fun _ => rfl)) rfl ?_
      refine OG.nil ?_
      refine QG.then ?_
      refine CG.cond_t rfl ?_
      refine CG.skip ?_
      refine QG.then ?_
      obtain ⟨h1, h2⟩ := hh
      have hget : delays[i]? = some delays[i] := by simp [h1]
      generalize delays[i] = x at hget
      have hmd := md_range (k := 1000) (by decide) x
      have hwx := wrap_u64_range x
      refine CG.pure (fun w hw => (hqs0.old (G := [onum 3 .i64 a7 c7 (gd delays i), old W]) (by repeat (first | exact Ext.here | apply Ext.there))).elem_shape (f := intC .i64) (fun _ => rfl) (by decide) h1 w hw) ?_
      rintro ⟨b0, o0, rfl⟩
      refine CG.seq ?_
      refine CG.block ?_
      refine CG.region ?_
      refine OG.yield (Yield.move rfl) rfl ?_
      refine OG.yield (Yield.move rfl) rfl ?_
      refine OG.yield (Yield.move rfl) rfl ?_
      refine OG.yield (Yield.index_slice Try.underlying23 ti3 rfl rfl (by omega) (by omega)) rfl ?_
      refine OG.yield (Yield.load (v := .int .i64 x) ti3 rfl (((hqs0.old (by repeat (first | exact Ext.here | apply Ext.there))).elem (f := intC .i64) (fun _ => rfl) hget) 0 _ rfl)) rfl ?_
      refine OG.yield (Yield.conv Try.underlying25 rfl rfl rfl) rfl ?_
      refine OG.yield (Yield.rem (c := md 1000 x) rfl rfl (by decide) (tmod_pos (by omega) (by omega))) rfl ?_
      refine OG.yield (Yield.conv (c := md 1000 x) Try.underlying3 rfl rfl (w64 (by omega) (by omega))) rfl ?_
      refine OG.effd (Eff.lit1 Try.underlying23 ti3 rfl rfl rfl) rfl ?_
      rintro b45 -
      refine OG.effd (Eff.append (k := 1) (ys := intsV .i64 [md 1000 x]) rfl rfl rfl Try.underlying23 Try.underlying23 ti3 rfl (by decide) (by repeat (first | exact Foc.here | apply Foc.there)) (SlR.of_osl (a := some ⟨b45, 0, none⟩) (by repeat (first | exact Ext.here | apply Ext.there))) (intsV_ones _ _) (by omega)) rfl ?_
      rintro ⟨a46, c46⟩ -
      refine OG.yield (Yield.assign rfl) rfl ?_
      refine OG.nil ?_
      refine QG.block_normal ?_
      refine QG.then ?_
      refine CG.region ?_
      refine OG.yield (Yield.move rfl) rfl ?_
      refine OG.yield (Yield.add rfl rfl (w64 (by omega) (by omega))) rfl ?_
      refine OG.yield (Yield.assign rfl) rfl ?_
      refine OG.nil ?_
      refine QG.next ⟨i + 1, a46, c46⟩ ⟨by show i + 1 ≤ delays.length; omega, by show i + 1 ≤ 50; omega⟩ (show delays.length - (i + 1) < delays.length - i by omega) (by dsimp only; rw [gd_step hget, List.length_append]; exact (by repeat (first | exact Env.sub_nil _ | refine Env.sub_cons rfl ?_))) ?_
      dsimp only
      rw [gd_step hget, onum_app]
      exact (by repeat (first | exact Imp.refl _ | exact Imp.none _ | apply Imp.pull (by repeat (first | exact Ext.here | apply Ext.there)) | apply Imp.trans Imp.drop))
    · skip
      refine CG.region ?_
      refine OG.yield (Yield.move rfl) rfl ?_
      refine OG.yield (Yield.move rfl) rfl ?_
      refine OG.yield (Yield.len_slice Try.underlying23 rfl rfl) rfl ?_
      refine OG.yield (by first | exact Yield.as (Yield.lss rfl rfl) (bT (by omega)) | exact Yield.as (Yield.lss rfl rfl) (bF (by omega)) | exact Yield.lss rfl rfl) rfl ?_
      refine OG.yield (Yield.move rfl) rfl ?_
      refine OG.guard_yes rfl rfl rfl (by decide) ?_
      refine OG.yield (Yield.move rfl) rfl ?_
      refine OG.guard_yes rfl rfl rfl (by decide) ?_
      refine OG.yield (by first | exact Yield.as (Yield.lss rfl rfl) (bT (by omega)) | exact Yield.as (Yield.lss rfl rfl) (bF (by omega)) | exact Yield.lss rfl rfl) rfl ?_
      refine OG.yield (by first | exact Yield.pick_t rfl rfl | exact Yield.pick_f rfl rfl | exact Yield.pick rfl (fun _ => rfl) (fun _ => rfl)) rfl ?_
      refine OG.nil ?_
      refine QG.then ?_
      refine CG.cond_f rfl ?_
      refine CG.exit ?_
      refine QG.pass_exit ?_
      refine QG.pass_exit ?_
      refine QG.block_exit ?_
      refine QG.then ?_
      refine CG.seq ?_
      refine CG.region ?_
      refine OG.effd (Eff.lit [(.const (.int .u8 105)), (.const (.int .u8 109)), (.const (.int .u8 97)), (.const (.int .u8 103)), (.const (.int .u8 101))] Try.underlying36 ti5 rfl rfl rfl rfl (by decide) (by simp [Value.cells]) (by simp [Value.cells]; rfl)) rfl ?_
      rintro b48 -
      refine OG.effd (Eff.convBytes (b := b48) Try.underlying36 Try.underlying5 rfl (by repeat (first | exact Foc.here | apply Foc.there))) rfl ?_
      rintro ⟨⟩ -
      refine OG.yield (Yield.move rfl) rfl ?_
      refine OG.callo call18 rfl (Imp.refl _) (bnew_ok W _ (a := some ⟨b48, 0, none⟩) (c := 5) (da := a7) (dc := c7) (n := 4) (delays := gd delays i) (img := [105, 109, 97, 103, 101]) (SlR.of_osl (E := 5) (by repeat (first | exact Ext.here | apply Ext.there))) (SlR.of_osl (E := 3) (by repeat (first | exact Ext.here | apply Ext.there))) (by omega) (newE_zero (by decide) (by decide) fun x hx => by have := gd_range x hx; omega)) rfl ?_
      rintro a -
      refine OG.yield (Yield.move rfl) rfl ?_
      refine OG.yield (Yield.extract rfl rfl) rfl ?_
      refine OG.yield (Yield.extract rfl rfl) rfl ?_
      refine OG.yield (Yield.assign rfl) rfl ?_
      refine OG.yield (Yield.assign rfl) rfl ?_
      refine OG.nil ?_
      refine QG.then ?_
      refine CG.seq ?_
      refine CG.seq ?_
      refine CG.region ?_
      refine OG.yield (Yield.move rfl) rfl ?_
      refine OG.callo call19 rfl (Imp.refl _) (num_spec W _ 0) rfl ?_
      rintro ⟨⟩ -
      refine OG.yield (by first | exact Yield.as (Yield.neq rfl rfl) (bT (by omega)) | exact Yield.as (Yield.neq rfl rfl) (bF (by omega)) | exact Yield.neq rfl rfl) rfl ?_
      refine OG.yield (Yield.move rfl) rfl ?_
      refine OG.guard_yes rfl rfl rfl (by decide) ?_
      refine OG.yield (Yield.move rfl) rfl ?_
      refine OG.guard_yes rfl rfl rfl (by decide) ?_
      refine OG.yield (by first | exact Yield.ptr_nil Try.underlying51 rfl rfl | exact Yield.nil_nil Try.underlying51 rfl rfl) rfl ?_
      refine OG.yield (by first | exact Yield.pick_t rfl rfl | exact Yield.pick_f rfl rfl | exact Yield.pick rfl (fun _ => rfl) (fun _ => rfl)) rfl ?_
      refine OG.nil ?_
      refine QG.then ?_
      refine CG.cond_f rfl ?_
      refine CG.skip ?_
      refine QG.then ?_
      refine CG.seq ?_
      refine CG.seq ?_
      refine CG.region ?_
      refine OG.yield (Yield.assign rfl) rfl ?_
      refine OG.nil ?_
      refine QG.then ?_
      refine CG.block ?_
      refine CG.loop (fun x : Nat × Bs => x.1 ≤ ops.length ∧ Av x.2 x.1) (fun x => [(1, .slice a1 ops.length c1), (2, .slice a2 oth.length c2), (9, .pointer (some ⟨a, 0, none⟩)), (11, .int .i64 x.1)]) (fun x => [Bl a x.2, old W]) (fun x => ops.length - x.1) (0, ⟨newB 4 [105, 109, 97, 103, 101], gd delays i, 0, 0, []⟩) ⟨Nat.zero_le _, ⟨⟨⟨4, newB_len (by decide), by decide⟩, by show (gd delays i).length ≤ _; omega, fun x hx => by have := gd_range x hx; omega, Int.le_refl _, ⟨Int.le_refl _, by show (0 : Int) ≤ 281474976710656 + 0 * 1048576; decide⟩, Nat.zero_le _, fun j h => absurd h List.not_mem_nil, fun j h => absurd h List.not_mem_nil⟩, Int.le_refl _, by show (0 : Int) ≤ 100000 + 1000 * ((0 : Nat) : Int); decide, fun j h => absurd h List.not_mem_nil, gd_range⟩⟩ (by repeat (first | exact Env.sub_nil _ | refine Env.sub_cons rfl ?_)) (by repeat (first | exact Imp.refl _ | exact Imp.none _ | apply Imp.pull (by repeat (first | exact Ext.here | apply Ext.there)) | apply Imp.trans Imp.drop)) ?_
      clear hgl hi hi50
      rintro ⟨k, s⟩ ⟨hk, hav⟩
      dsimp only at hk hav ⊢
      refine CG.seq ?_
      refine CG.seq ?_
      refine CG.region ?_
      refine OG.yield (Yield.move rfl) rfl ?_
      refine OG.yield (Yield.move rfl) rfl ?_
      refine OG.yield (Yield.len_slice Try.underlying67 rfl rfl) rfl ?_
      refine OG.yield (by first | exact Yield.as (Yield.lss rfl rfl) (bT (by omega)) | exact Yield.as (Yield.lss rfl rfl) (bF (by omega)) | exact Yield.lss rfl rfl) rfl ?_
      refine OG.nil ?_
      refine QG.then ?_
      refine CG.cond rfl (fun hc => ?_) (fun hc => ?_)
      · try replace hc := of_decide_eq_true hc
        have hk' : k < ops.length := by omega
        have hget : ops[k]? = some ops[k] := by simp [hk']
        have hko := hok ops[k] (List.getElem_mem hk')
        generalize ops[k] = op at hget hko
        refine CG.pure (fun w hw => (hops.old (G := [Bl a s, old W]) (by repeat (first | exact Ext.here | apply Ext.there))).elem_shape BAct.len (by decide) hk' w hw) ?_
        rintro ⟨b1, o1, rfl⟩
        have hRm := hko.R_Datam
        unfold reachBytes at hRm
        have hrow : ∀ {G R : List HProp}, Ext G (old W) R → Row W G b1 (o1 + k * 7) (BAct.cells op) := fun x => (hops.old x).elem BAct.len hget
        have hmd := md_range (k := 100000) (by decide) op.Now
        have hwx := wrap_u64_range op.Now
        have htk := hav.taken
        refine CG.skip ?_
        refine QG.then ?_
        refine CG.seq ?_
        refine CG.block ?_
        refine CG.draw (.look 0 0 (.look 1 1 (.look 2 1 (.look 3 1 (.look 4 1 (.look 5 1 (.look 7 0 (.look 8 0 (.look 9 0 (.look 10 0 (.look 11 0 (.look 12 0 (.look 13 0 (.look 14 0 (.eff1 6 false (.eff1 15 false (.done))))))))))))))))) [6, 15] [] ([old W]) ([]) mixed (by kernel_rfl) ((by repeat (first | exact Imp.refl _ | exact Imp.none _ | apply Imp.pull (by repeat (first | exact Ext.here | apply Ext.there)) | apply Imp.trans Imp.drop))) (Imp.none _) ?_
        refine DG.look rfl rfl (Yield.move rfl) rfl ?_
        refine DG.look rfl rfl (Yield.move rfl) rfl ?_
        refine DG.look rfl rfl (Yield.move rfl) rfl ?_
        refine DG.look rfl rfl (Yield.index_slice Try.underlying67 ti72 rfl rfl (by omega) (by omega)) rfl ?_
        refine DG.look rfl rfl (Yield.fieldAddr fa72_1 rfl) rfl ?_
        refine DG.look rfl rfl (Yield.load_agg (vs := op.rq.cells) ti40 rfl rfl (by rw [show o1 + (k : Int).toNat * 7 + 1 = (o1 + k * 7) + 1 by omega]; exact row_sub (hrow (by repeat (first | exact Ext.here | apply Ext.there))) 1 rfl)) rfl ?_
        refine DG.look rfl rfl (Yield.move rfl) rfl ?_
        refine DG.look rfl rfl (Yield.move rfl) rfl ?_
        refine DG.look rfl rfl (Yield.index_slice Try.underlying67 ti72 rfl rfl (by omega) (by omega)) rfl ?_
        refine DG.look rfl rfl (Yield.fieldAddr fa72_2 rfl) rfl ?_
        refine DG.look rfl rfl (Yield.load (v := .int .i64 op.Now) ti3 rfl (by rw [show o1 + (k : Int).toNat * 7 + 6 = (o1 + k * 7) + 6 by omega]; exact (hrow (by repeat (first | exact Ext.here | apply Ext.there))) 6 _ rfl)) rfl ?_
        refine DG.look rfl rfl (Yield.conv Try.underlying25 rfl rfl rfl) rfl ?_
        refine DG.look rfl rfl (Yield.rem (c := md 100000 op.Now) rfl rfl (by decide) (tmod_pos (by omega) (by omega))) rfl ?_
        refine DG.look rfl rfl (Yield.conv (c := md 100000 op.Now) Try.underlying3 rfl rfl (w64 (by omega) (by omega))) rfl ?_
        refine DG.eff1 ?_
        refine Chg.callo rfl rfl call29 rfl (Imp.refl _) (copy_spec W _ (x := op.rq) (by exact RdB.of_slR (hko.R_Data.old (by repeat (first | exact Ext.here | apply Ext.there))) hko.R_Datac) hRm) rfl (fun _ => (by repeat (first | exact Imp.refl _ | exact Imp.none _ | apply Imp.pull (by repeat (first | exact Ext.here | apply Ext.there)) | apply Imp.trans Imp.drop))) (fun _ => Imp.refl _) (fun _ => (by repeat (first | exact Imp.refl _ | exact Imp.none _ | apply Imp.pull (by repeat (first | exact Ext.here | apply Ext.there)) | apply Imp.trans Imp.drop))) ?_
        rintro m hm
        have hml : m.b.length ≤ dmax := by rw [hm]; exact hRm
        refine DG.eff1 ?_
        refine Chg.callo rfl rfl call21 rfl ((by repeat (first | exact Imp.refl _ | exact Imp.none _ | apply Imp.pull (by repeat (first | exact Ext.here | apply Ext.there)) | apply Imp.trans Imp.drop))) (submit_spec W _ (b := a) (s := s) (r := { op.rq with m := m }) (now := md 100000 op.Now) (RdB.of_osl (E := 5) (by repeat (first | exact Ext.here | apply Ext.there)) rfl rfl) hml (by omega)) rfl (fun _ => (by repeat (first | exact Imp.refl _ | exact Imp.none _ | apply Imp.pull (by repeat (first | exact Ext.here | apply Ext.there)) | apply Imp.trans Imp.drop))) (fun _ => Imp.refl _) (fun _ => (by repeat (first | exact Imp.refl _ | exact Imp.none _ | apply Imp.pull (by repeat (first | exact Ext.here | apply Ext.there)) | apply Imp.trans Imp.drop))) ?_
        rintro ⟨⟩ -
        refine DG.done ?_
        refine QG.block_normal ?_
        refine QG.then ?_
        refine CG.region ?_
        refine OG.yield (Yield.move rfl) rfl ?_
        refine OG.yield (Yield.add rfl rfl (w64 (by omega) (by omega))) rfl ?_
        refine OG.yield (Yield.assign rfl) rfl ?_
        refine OG.nil ?_
        exact QG.next (k + 1, subS s (CR.abs { op.rq with m := m }) (md 100000 op.Now)) ⟨by simp only; omega, hav.sub (by omega) hml⟩ (by simp only; omega) (by repeat (first | exact Env.sub_nil _ | refine Env.sub_cons rfl ?_)) (by repeat (first | exact Imp.refl _ | exact Imp.none _ | apply Imp.pull (by repeat (first | exact Ext.here | apply Ext.there)) | apply Imp.trans Imp.drop))
      · try replace hc := of_decide_eq_false hc
        refine CG.exit ?_
        refine QG.pass_exit ?_
        refine QG.pass_exit ?_
        refine QG.block_exit ?_
        refine QG.then ?_
        refine CG.seq ?_
        refine CG.region ?_
        have hke : k = ops.length := by omega
        have hfin : ∀ j ∈ s.q, j.done ≤ 281474976710656 := fun j hj => by have := hav.done j hj; omega
        have htk := hav.taken
        refine OG.yield (Yield.move rfl) rfl ?_
        refine OG.callo call34 rfl ((by repeat (first | exact Imp.refl _ | exact Imp.none _ | apply Imp.pull (by repeat (first | exact Ext.here | apply Ext.there)) | apply Imp.trans Imp.drop))) (bclone_spec W _ (b := a) (s := s)) rfl ?_
        rintro b -
        refine OG.yield (Yield.move rfl) rfl ?_
        refine OG.callo call34 rfl ((by repeat (first | exact Imp.refl _ | exact Imp.none _ | apply Imp.pull (by repeat (first | exact Ext.here | apply Ext.there)) | apply Imp.trans Imp.drop))) (bclone_spec W _ (b := a) (s := s)) rfl ?_
        rintro c -
        refine OG.yield (Yield.assign rfl) rfl ?_
        refine OG.yield (Yield.assign rfl) rfl ?_
        refine OG.nil ?_
        refine QG.then ?_
        refine CG.seq ?_
        refine CG.seq ?_
        refine CG.region ?_
        refine OG.yield (Yield.move rfl) rfl ?_
        refine OG.yield (by first | exact Yield.ptr_nil Try.underlying51 rfl rfl | exact Yield.nil_nil Try.underlying51 rfl rfl) rfl ?_
        refine OG.yield (Yield.move rfl) rfl ?_
        refine OG.guard_yes rfl rfl rfl (by decide) ?_
        refine OG.yield (Yield.move rfl) rfl ?_
        refine OG.guard_yes rfl rfl rfl (by decide) ?_
        refine OG.yield (by first | exact Yield.ptr_nil Try.underlying51 rfl rfl | exact Yield.nil_nil Try.underlying51 rfl rfl) rfl ?_
        refine OG.yield (by first | exact Yield.pick_t rfl rfl | exact Yield.pick_f rfl rfl | exact Yield.pick rfl (fun _ => rfl) (fun _ => rfl)) rfl ?_
        refine OG.nil ?_
        refine QG.then ?_
        refine CG.cond_f rfl ?_
        refine CG.skip ?_
        refine QG.then ?_
        refine CG.seq ?_
        refine CG.seq ?_
        refine CG.region ?_
        refine OG.yield (Yield.assign rfl) rfl ?_
        refine OG.nil ?_
        refine QG.then ?_
        refine CG.block ?_
        refine CG.loop (fun x : Nat × Bs => x.1 ≤ oth.length ∧ x.2.taken ≤ 100 + x.1) (fun x => [(2, .slice a2 oth.length c2), (9, .pointer (some ⟨a, 0, none⟩)), (12, .pointer (some ⟨b, 0, none⟩)), (13, .pointer (some ⟨c, 0, none⟩)), (14, .int .i64 x.1)]) (fun x => [Bl a s, Bl b s, Bl c x.2, old W]) (fun x => oth.length - x.1) (0, s) ⟨Nat.zero_le _, by show s.taken ≤ 100 + ((0 : Nat) : Int); omega⟩ (by repeat (first | exact Env.sub_nil _ | refine Env.sub_cons rfl ?_)) (by repeat (first | exact Imp.refl _ | exact Imp.none _ | apply Imp.pull (by repeat (first | exact Ext.here | apply Ext.there)) | apply Imp.trans Imp.drop)) ?_
        rintro ⟨n, u⟩ ⟨hn, hut⟩
        dsimp only at hn hut ⊢
        refine CG.seq ?_
        refine CG.seq ?_
        refine CG.region ?_
        refine OG.yield (Yield.move rfl) rfl ?_
        refine OG.yield (Yield.move rfl) rfl ?_
        refine OG.yield (Yield.len_slice Try.underlying67 rfl rfl) rfl ?_
        refine OG.yield (by first | exact Yield.as (Yield.lss rfl rfl) (bT (by omega)) | exact Yield.as (Yield.lss rfl rfl) (bF (by omega)) | exact Yield.lss rfl rfl) rfl ?_
        refine OG.nil ?_
        refine QG.then ?_
        refine CG.cond rfl (fun hc => ?_) (fun hc => ?_)
        · try replace hc := of_decide_eq_true hc
          have hn' : n < oth.length := by omega
          have hget : oth[n]? = some oth[n] := by simp [hn']
          have hko := hok2 oth[n] (List.getElem_mem hn')
          generalize oth[n] = op at hget hko
          refine CG.pure (fun w hw => (hoth.old (G := [Bl a s, Bl b s, Bl c u, old W]) (by repeat (first | exact Ext.here | apply Ext.there))).elem_shape BAct.len (by decide) hn' w hw) ?_
          rintro ⟨b1, o1, rfl⟩
          have hRm := hko.R_Datam
          unfold reachBytes at hRm
          have hrow : ∀ {G R : List HProp}, Ext G (old W) R → Row W G b1 (o1 + n * 7) (BAct.cells op) := fun x => (hoth.old x).elem BAct.len hget
          have hmd := md_range (k := 100000) (by decide) op.Now
          have hmd2 := md_range (k := 200000) (by decide) op.Now
          have hwx := wrap_u64_range op.Now
          refine CG.skip ?_
          refine QG.then ?_
          refine CG.seq ?_
          refine CG.block ?_
          refine CG.seq ?_
          refine CG.draw (.look 0 0 (.look 1 1 (.look 2 1 (.look 3 1 (.look 4 1 (.look 5 1 (.look 7 0 (.look 8 0 (.look 9 0 (.look 10 0 (.look 11 0 (.look 12 0 (.look 13 0 (.look 14 0 (.eff1 6 false (.eff1 15 false (.done))))))))))))))))) [6, 15] [] ([old W]) ([]) mixed (by kernel_rfl) ((by repeat (first | exact Imp.refl _ | exact Imp.none _ | apply Imp.pull (by repeat (first | exact Ext.here | apply Ext.there)) | apply Imp.trans Imp.drop))) (Imp.none _) ?_
          refine DG.look rfl rfl (Yield.move rfl) rfl ?_
          refine DG.look rfl rfl (Yield.move rfl) rfl ?_
          refine DG.look rfl rfl (Yield.move rfl) rfl ?_
          refine DG.look rfl rfl (Yield.index_slice Try.underlying67 ti72 rfl rfl (by omega) (by omega)) rfl ?_
          refine DG.look rfl rfl (Yield.fieldAddr fa72_1 rfl) rfl ?_
          refine DG.look rfl rfl (Yield.load_agg (vs := op.rq.cells) ti40 rfl rfl (by rw [show o1 + (n : Int).toNat * 7 + 1 = (o1 + n * 7) + 1 by omega]; exact row_sub (hrow (by repeat (first | exact Ext.here | apply Ext.there))) 1 rfl)) rfl ?_
          refine DG.look rfl rfl (Yield.move rfl) rfl ?_
          refine DG.look rfl rfl (Yield.move rfl) rfl ?_
          refine DG.look rfl rfl (Yield.index_slice Try.underlying67 ti72 rfl rfl (by omega) (by omega)) rfl ?_
          refine DG.look rfl rfl (Yield.fieldAddr fa72_2 rfl) rfl ?_
          refine DG.look rfl rfl (Yield.load (v := .int .i64 op.Now) ti3 rfl (by rw [show o1 + (n : Int).toNat * 7 + 6 = (o1 + n * 7) + 6 by omega]; exact (hrow (by repeat (first | exact Ext.here | apply Ext.there))) 6 _ rfl)) rfl ?_
          refine DG.look rfl rfl (Yield.conv Try.underlying25 rfl rfl rfl) rfl ?_
          refine DG.look rfl rfl (Yield.rem (c := md 100000 op.Now) rfl rfl (by decide) (tmod_pos (by omega) (by omega))) rfl ?_
          refine DG.look rfl rfl (Yield.conv (c := md 100000 op.Now) Try.underlying3 rfl rfl (w64 (by omega) (by omega))) rfl ?_
          refine DG.eff1 ?_
          refine Chg.callo rfl rfl call29 rfl (Imp.refl _) (copy_spec W _ (x := op.rq) (by exact RdB.of_slR (hko.R_Data.old (by repeat (first | exact Ext.here | apply Ext.there))) hko.R_Datac) hRm) rfl (fun _ => (by repeat (first | exact Imp.refl _ | exact Imp.none _ | apply Imp.pull (by repeat (first | exact Ext.here | apply Ext.there)) | apply Imp.trans Imp.drop))) (fun _ => Imp.refl _) (fun _ => (by repeat (first | exact Imp.refl _ | exact Imp.none _ | apply Imp.pull (by repeat (first | exact Ext.here | apply Ext.there)) | apply Imp.trans Imp.drop))) ?_
          rintro m hm
          have hml : m.b.length ≤ dmax := by rw [hm]; exact hRm
          refine DG.eff1 ?_
          refine Chg.callo rfl rfl call21 rfl ((by repeat (first | exact Imp.refl _ | exact Imp.none _ | apply Imp.pull (by repeat (first | exact Ext.here | apply Ext.there)) | apply Imp.trans Imp.drop))) (submit_spec W _ (b := c) (s := u) (r := { op.rq with m := m }) (now := md 100000 op.Now) (RdB.of_osl (E := 5) (by repeat (first | exact Ext.here | apply Ext.there)) rfl rfl) hml (by omega)) rfl (fun _ => (by repeat (first | exact Imp.refl _ | exact Imp.none _ | apply Imp.pull (by repeat (first | exact Ext.here | apply Ext.there)) | apply Imp.trans Imp.drop))) (fun _ => Imp.refl _) (fun _ => (by repeat (first | exact Imp.refl _ | exact Imp.none _ | apply Imp.pull (by repeat (first | exact Ext.here | apply Ext.there)) | apply Imp.trans Imp.drop))) ?_
          rintro ⟨⟩ -
          have hst := subS_taken u (CR.abs { op.rq with m := m }) (md 100000 op.Now)
          refine DG.done ?_
          refine QG.then ?_
          refine CG.region ?_
          refine OG.yield (Yield.move rfl) rfl ?_
          refine OG.yield (Yield.move rfl) rfl ?_
          refine OG.yield (Yield.move rfl) rfl ?_
          refine OG.yield (Yield.index_slice Try.underlying67 ti72 rfl rfl (by omega) (by omega)) rfl ?_
          refine OG.yield (Yield.fieldAddr fa72_2 rfl) rfl ?_
          refine OG.yield (Yield.load (v := .int .i64 op.Now) ti3 rfl (by rw [show o1 + (n : Int).toNat * 7 + 6 = (o1 + n * 7) + 6 by omega]; exact (hrow (by repeat (first | exact Ext.here | apply Ext.there))) 6 _ rfl)) rfl ?_
          refine OG.yield (Yield.conv Try.underlying25 rfl rfl rfl) rfl ?_
          refine OG.yield (Yield.rem (c := md 200000 op.Now) rfl rfl (by decide) (tmod_pos (by omega) (by omega))) rfl ?_
          refine OG.yield (Yield.conv (c := md 200000 op.Now) Try.underlying3 rfl rfl (w64 (by omega) (by omega))) rfl ?_
          refine OG.callo call20 rfl ((by repeat (first | exact Imp.refl _ | exact Imp.none _ | apply Imp.pull (by repeat (first | exact Ext.here | apply Ext.there)) | apply Imp.trans Imp.drop))) (poll_spec W _ (b := c) (s := subS u (CR.abs { op.rq with m := m }) (md 100000 op.Now)) (md 200000 op.Now)) rfl ?_
          rintro ⟨l, la, lc⟩ -
          dsimp only [Rqs.G, List.cons_append, List.nil_append]
          refine OG.nil ?_
          refine QG.block_normal ?_
          refine QG.then ?_
          refine CG.region ?_
          refine OG.yield (Yield.move rfl) rfl ?_
          refine OG.yield (Yield.add rfl rfl (w64 (by omega) (by omega))) rfl ?_
          refine OG.yield (Yield.assign rfl) rfl ?_
          refine OG.nil ?_
          exact QG.next (n + 1, pollR (subS u (CR.abs { op.rq with m := m }) (md 100000 op.Now)) (md 200000 op.Now)) ⟨by simp only; omega, by show (subS u (CR.abs { op.rq with m := m }) (md 100000 op.Now)).taken ≤ 100 + ((n + 1 : Nat) : Int); omega⟩ (by simp only; omega) (by repeat (first | exact Env.sub_nil _ | refine Env.sub_cons rfl ?_)) (by repeat (first | exact Imp.refl _ | exact Imp.none _ | apply Imp.pull (by repeat (first | exact Ext.here | apply Ext.there)) | apply Imp.trans Imp.drop))
        · try replace hc := of_decide_eq_false hc
          refine CG.exit ?_
          refine QG.pass_exit ?_
          refine QG.pass_exit ?_
          refine QG.block_exit ?_
          refine QG.then ?_
          refine CG.seq ?_
          refine CG.region ?_
          refine OG.yield (Yield.move rfl) rfl ?_
          refine OG.callo call20 rfl ((by repeat (first | exact Imp.refl _ | exact Imp.none _ | apply Imp.pull (by repeat (first | exact Ext.here | apply Ext.there)) | apply Imp.trans Imp.drop))) (poll_spec W _ (b := a) (s := s) 281474976710656) rfl ?_
          rintro ⟨l, la, lc⟩ hl
          dsimp only at hl
          dsimp only [Rqs.G, List.cons_append, List.nil_append]
          refine OG.yield (Yield.assign rfl) rfl ?_
          refine OG.nil ?_
          refine QG.then ?_
          refine CG.seq ?_
          refine CG.region ?_
          refine OG.yield (Yield.move rfl) rfl ?_
          refine OG.callo call20 rfl ((by repeat (first | exact Imp.refl _ | exact Imp.none _ | apply Imp.pull (by repeat (first | exact Ext.here | apply Ext.there)) | apply Imp.trans Imp.drop))) (poll_spec W _ (b := b) (s := s) 281474976710656) rfl ?_
          rintro ⟨l2, la2, lc2⟩ hl2
          dsimp only at hl2
          dsimp only [Rqs.G, List.cons_append, List.nil_append]
          have hall := pollL_all s.q s.bytes hfin
          have hq0 : (pollR s 281474976710656).q.length = 0 := by show (pollL 281474976710656 s.bytes s.q).2.2.length = 0; rw [hall.1]; rfl
          have hll : l.length ≤ 32 := by have h9 := congrArg List.length hl; rw [List.length_map, hall.2] at h9; have := hav.ok.ql; omega
          refine OG.yield (Yield.assign rfl) rfl ?_
          refine OG.nil ?_
          refine QG.then ?_
          refine CG.seq ?_
          refine CG.draw (.look 0 1 (.look 1 1 (.eff1 2 false (.look 3 1 (.look 4 1 (.look 7 0 (.eff1 5 false (.look 6 0 (.eff1 8 false (.look 9 1 (.look 10 1 (.look 11 1 (.look 12 1 (.look 13 1 (.eff1 14 false (.look 15 1 (.look 16 1 (.look 17 1 (.look 18 1 (.eff1 19 false (.look 20 1 (.look 21 1 (.look 22 1 (.done)))))))))))))))))))))))) [2, 5, 8, 14, 19] [] ([]) ([]) mixed (by kernel_rfl) (Imp.none _) (Imp.none _) ?_
          refine DG.look rfl rfl (Yield.move rfl) rfl ?_
          refine DG.look rfl rfl (Yield.move rfl) rfl ?_
          refine DG.eff1 ?_
          refine Chg.callo rfl rfl call23 rfl (Imp.refl _) (sameAll_spec W _ (x := ⟨l, la, lc⟩) (y := ⟨l2, la2, lc2⟩) (SlR.of_osl (E := 40) (by repeat (first | exact Ext.here | apply Ext.there))) (SlR.of_osl (E := 40) (by repeat (first | exact Ext.here | apply Ext.there))) (mem_pool (r := ⟨l, la, lc⟩) (by repeat (first | exact Ext.here | apply Ext.there))) (mem_pool (r := ⟨l2, la2, lc2⟩) (by repeat (first | exact Ext.here | apply Ext.there))) (by rw [hl, hl2]) (by show l.length ≤ _; omega)) rfl (fun _ => (by repeat (first | exact Imp.refl _ | exact Imp.none _ | apply Imp.pull (by repeat (first | exact Ext.here | apply Ext.there)) | apply Imp.trans Imp.drop))) (fun _ => Imp.refl _) (fun _ => (by repeat (first | exact Imp.refl _ | exact Imp.none _ | apply Imp.pull (by repeat (first | exact Ext.here | apply Ext.there)) | apply Imp.trans Imp.drop))) ?_
          rintro ⟨⟩ -
          refine DG.look rfl rfl (Yield.move rfl) rfl ?_
          refine DG.look rfl rfl (Yield.move rfl) rfl ?_
          refine DG.look rfl rfl (Yield.move rfl) rfl ?_
          refine DG.eff1 ?_
          refine Chg.callo rfl rfl call36 rfl ((by repeat (first | exact Imp.refl _ | exact Imp.none _ | apply Imp.pull (by repeat (first | exact Ext.here | apply Ext.there)) | apply Imp.trans Imp.drop))) (image_spec W _ (b := a) (s := pollR s 281474976710656)) rfl (K' := fun m : Msg => [m.own]) (fun _ => (by repeat (first | exact Imp.refl _ | exact Imp.none _ | apply Imp.pull (by repeat (first | exact Ext.here | apply Ext.there)) | apply Imp.trans Imp.drop))) (fun _ => Imp.none _) (fun _ => (by repeat (first | exact Imp.refl _ | exact Imp.none _ | apply Imp.pull (by repeat (first | exact Ext.here | apply Ext.there)) | apply Imp.trans Imp.drop))) ?_
          rintro m1 hm1
          refine DG.look rfl rfl (Yield.toStr (bs := m1.b) Try.underlying36 Try.underlying9 Try.underlying5 rfl (SlR.of_osl (E := 5) (by repeat (first | exact Ext.here | apply Ext.there)))) rfl ?_
          refine DG.eff1 ?_
          refine Chg.callo rfl rfl call36 rfl ((by repeat (first | exact Imp.refl _ | exact Imp.none _ | apply Imp.pull (by repeat (first | exact Ext.here | apply Ext.there)) | apply Imp.trans Imp.drop))) (image_spec W _ (b := b) (s := pollR s 281474976710656)) rfl (fun _ => (by repeat (first | exact Imp.refl _ | exact Imp.none _ | apply Imp.pull (by repeat (first | exact Ext.here | apply Ext.there)) | apply Imp.trans Imp.drop))) (fun _ => Imp.refl _) (fun _ => (by repeat (first | exact Imp.refl _ | exact Imp.none _ | apply Imp.pull (by repeat (first | exact Ext.here | apply Ext.there)) | apply Imp.trans Imp.drop))) ?_
          rintro m2 hm2
          refine DG.look rfl rfl (Yield.toStr (bs := m2.b) Try.underlying36 Try.underlying9 Try.underlying5 rfl (SlR.of_osl (E := 5) (by repeat (first | exact Ext.here | apply Ext.there)))) rfl ?_
          refine DG.look rfl rfl (Yield.as (Yield.str_eql rfl rfl) (v' := .bool true) (by rw [hm1, hm2]; simp)) rfl ?_
          refine DG.look rfl rfl (by first | exact Yield.pick_t rfl rfl | exact Yield.pick_f rfl rfl | exact Yield.pick rfl (fun _ => rfl) (fun _ => rfl)) rfl ?_
          refine DG.look rfl rfl (Yield.move rfl) rfl ?_
          refine DG.look rfl rfl (Yield.move rfl) rfl ?_
          refine DG.eff1 ?_
          refine Chg.callo rfl rfl call22 rfl ((by repeat (first | exact Imp.refl _ | exact Imp.none _ | apply Imp.pull (by repeat (first | exact Ext.here | apply Ext.there)) | apply Imp.trans Imp.drop))) (waiting_spec W _ (b := a) (s := pollR s 281474976710656)) rfl (fun _ => (by repeat (first | exact Imp.refl _ | exact Imp.none _ | apply Imp.pull (by repeat (first | exact Ext.here | apply Ext.there)) | apply Imp.trans Imp.drop))) (fun _ => Imp.refl _) (fun _ => (by repeat (first | exact Imp.refl _ | exact Imp.none _ | apply Imp.pull (by repeat (first | exact Ext.here | apply Ext.there)) | apply Imp.trans Imp.drop))) ?_
          rintro ⟨⟩ -
          rw [hq0]
          refine DG.look rfl rfl (by first | exact Yield.as (Yield.eql rfl rfl) (bT (by omega)) | exact Yield.as (Yield.eql rfl rfl) (bF (by omega)) | exact Yield.eql rfl rfl) rfl ?_
          refine DG.look rfl rfl (by first | exact Yield.pick_t rfl rfl | exact Yield.pick_f rfl rfl | exact Yield.pick rfl (fun _ => rfl) (fun _ => rfl)) rfl ?_
          refine DG.look rfl rfl (Yield.move rfl) rfl ?_
          refine DG.look rfl rfl (Yield.move rfl) rfl ?_
          refine DG.eff1 ?_
          refine Chg.callo rfl rfl call22 rfl ((by repeat (first | exact Imp.refl _ | exact Imp.none _ | apply Imp.pull (by repeat (first | exact Ext.here | apply Ext.there)) | apply Imp.trans Imp.drop))) (waiting_spec W _ (b := b) (s := pollR s 281474976710656)) rfl (fun _ => (by repeat (first | exact Imp.refl _ | exact Imp.none _ | apply Imp.pull (by repeat (first | exact Ext.here | apply Ext.there)) | apply Imp.trans Imp.drop))) (fun _ => Imp.refl _) (fun _ => (by repeat (first | exact Imp.refl _ | exact Imp.none _ | apply Imp.pull (by repeat (first | exact Ext.here | apply Ext.there)) | apply Imp.trans Imp.drop))) ?_
          rintro ⟨⟩ -
          rw [hq0]
          refine DG.look rfl rfl (by first | exact Yield.as (Yield.eql rfl rfl) (bT (by omega)) | exact Yield.as (Yield.eql rfl rfl) (bF (by omega)) | exact Yield.eql rfl rfl) rfl ?_
          refine DG.look rfl rfl (by first | exact Yield.pick_t rfl rfl | exact Yield.pick_f rfl rfl | exact Yield.pick rfl (fun _ => rfl) (fun _ => rfl)) rfl ?_
          refine DG.look rfl rfl (Yield.assign rfl) rfl ?_
          refine DG.done ?_
          refine QG.then ?_
          refine CG.ret ?_
          exact QG.ret1 rfl rfl () trivial rfl (by repeat (first | exact Imp.refl _ | exact Imp.none _ | apply Imp.pull (by repeat (first | exact Ext.here | apply Ext.there)) | apply Imp.trans Imp.drop))
    · skip
      refine CG.region ?_
      refine OG.yield (Yield.move rfl) rfl ?_
      refine OG.yield (Yield.move rfl) rfl ?_
      refine OG.yield (Yield.len_slice Try.underlying23 rfl rfl) rfl ?_
      refine OG.yield (by first | exact Yield.as (Yield.lss rfl rfl) (bT (by omega)) | exact Yield.as (Yield.lss rfl rfl) (bF (by omega)) | exact Yield.lss rfl rfl) rfl ?_
      refine OG.yield (Yield.move rfl) rfl ?_
      refine OG.guard_no rfl rfl rfl rfl rfl (by decide) (by decide) ?_
      refine OG.guard_no rfl rfl rfl rfl rfl (by decide) (by decide) ?_
      refine OG.yield (by first | exact Yield.pick_t rfl rfl | exact Yield.pick_f rfl rfl | exact Yield.pick rfl (fun _ => rfl) (fun _ => rfl)) rfl ?_
      refine OG.nil ?_
      refine QG.then ?_
      refine CG.cond_f rfl ?_
      refine CG.exit ?_
      refine QG.pass_exit ?_
      refine QG.pass_exit ?_
      refine QG.block_exit ?_
      refine QG.then ?_
      refine CG.seq ?_
      refine CG.region ?_
      refine OG.effd (Eff.lit [(.const (.int .u8 105)), (.const (.int .u8 109)), (.const (.int .u8 97)), (.const (.int .u8 103)), (.const (.int .u8 101))] Try.underlying36 ti5 rfl rfl rfl rfl (by decide) (by simp [Value.cells]) (by simp [Value.cells]; rfl)) rfl ?_
      rintro b48 -
      refine OG.effd (Eff.convBytes (b := b48) Try.underlying36 Try.underlying5 rfl (by repeat (first | exact Foc.here | apply Foc.there))) rfl ?_
      rintro ⟨⟩ -
      refine OG.yield (Yield.move rfl) rfl ?_
      refine OG.callo call18 rfl (Imp.refl _) (bnew_ok W _ (a := some ⟨b48, 0, none⟩) (c := 5) (da := a7) (dc := c7) (n := 4) (delays := gd delays i) (img := [105, 109, 97, 103, 101]) (SlR.of_osl (E := 5) (by repeat (first | exact Ext.here | apply Ext.there))) (SlR.of_osl (E := 3) (by repeat (first | exact Ext.here | apply Ext.there))) (by omega) (newE_zero (by decide) (by decide) fun x hx => by have := gd_range x hx; omega)) rfl ?_
      rintro a -
      refine OG.yield (Yield.move rfl) rfl ?_
      refine OG.yield (Yield.extract rfl rfl) rfl ?_
      refine OG.yield (Yield.extract rfl rfl) rfl ?_
      refine OG.yield (Yield.assign rfl) rfl ?_
      refine OG.yield (Yield.assign rfl) rfl ?_
      refine OG.nil ?_
      refine QG.then ?_
      refine CG.seq ?_
      refine CG.seq ?_
      refine CG.region ?_
      refine OG.yield (Yield.move rfl) rfl ?_
      refine OG.callo call19 rfl (Imp.refl _) (num_spec W _ 0) rfl ?_
      rintro ⟨⟩ -
      refine OG.yield (by first | exact Yield.as (Yield.neq rfl rfl) (bT (by omega)) | exact Yield.as (Yield.neq rfl rfl) (bF (by omega)) | exact Yield.neq rfl rfl) rfl ?_
      refine OG.yield (Yield.move rfl) rfl ?_
      refine OG.guard_yes rfl rfl rfl (by decide) ?_
      refine OG.yield (Yield.move rfl) rfl ?_
      refine OG.guard_yes rfl rfl rfl (by decide) ?_
      refine OG.yield (by first | exact Yield.ptr_nil Try.underlying51 rfl rfl | exact Yield.nil_nil Try.underlying51 rfl rfl) rfl ?_
      refine OG.yield (by first | exact Yield.pick_t rfl rfl | exact Yield.pick_f rfl rfl | exact Yield.pick rfl (fun _ => rfl) (fun _ => rfl)) rfl ?_
      refine OG.nil ?_
      refine QG.then ?_
      refine CG.cond_f rfl ?_
      refine CG.skip ?_
      refine QG.then ?_
      refine CG.seq ?_
      refine CG.seq ?_
      refine CG.region ?_
      refine OG.yield (Yield.assign rfl) rfl ?_
      refine OG.nil ?_
      refine QG.then ?_
      refine CG.block ?_
      refine CG.loop (fun x : Nat × Bs => x.1 ≤ ops.length ∧ Av x.2 x.1) (fun x => [(1, .slice a1 ops.length c1), (2, .slice a2 oth.length c2), (9, .pointer (some ⟨a, 0, none⟩)), (11, .int .i64 x.1)]) (fun x => [Bl a x.2, old W]) (fun x => ops.length - x.1) (0, ⟨newB 4 [105, 109, 97, 103, 101], gd delays i, 0, 0, []⟩) ⟨Nat.zero_le _, ⟨⟨⟨4, newB_len (by decide), by decide⟩, by show (gd delays i).length ≤ _; omega, fun x hx => by have := gd_range x hx; omega, Int.le_refl _, ⟨Int.le_refl _, by show (0 : Int) ≤ 281474976710656 + 0 * 1048576; decide⟩, Nat.zero_le _, fun j h => absurd h List.not_mem_nil, fun j h => absurd h List.not_mem_nil⟩, Int.le_refl _, by show (0 : Int) ≤ 100000 + 1000 * ((0 : Nat) : Int); decide, fun j h => absurd h List.not_mem_nil, gd_range⟩⟩ (by repeat (first | exact Env.sub_nil _ | refine Env.sub_cons rfl ?_)) (by repeat (first | exact Imp.refl _ | exact Imp.none _ | apply Imp.pull (by repeat (first | exact Ext.here | apply Ext.there)) | apply Imp.trans Imp.drop)) ?_
      clear hgl hi hi50
      rintro ⟨k, s⟩ ⟨hk, hav⟩
      dsimp only at hk hav ⊢
      refine CG.seq ?_
      refine CG.seq ?_
      refine CG.region ?_
      refine OG.yield (Yield.move rfl) rfl ?_
      refine OG.yield (Yield.move rfl) rfl ?_
      refine OG.yield (Yield.len_slice Try.underlying67 rfl rfl) rfl ?_
      refine OG.yield (by first | exact Yield.as (Yield.lss rfl rfl) (bT (by omega)) | exact Yield.as (Yield.lss rfl rfl) (bF (by omega)) | exact Yield.lss rfl rfl) rfl ?_
      refine OG.nil ?_
      refine QG.then ?_
      refine CG.cond rfl (fun hc => ?_) (fun hc => ?_)
      · try replace hc := of_decide_eq_true hc
        have hk' : k < ops.length := by omega
        have hget : ops[k]? = some ops[k] := by simp [hk']
        have hko := hok ops[k] (List.getElem_mem hk')
        generalize ops[k] = op at hget hko
        refine CG.pure (fun w hw => (hops.old (G := [Bl a s, old W]) (by repeat (first | exact Ext.here | apply Ext.there))).elem_shape BAct.len (by decide) hk' w hw) ?_
        rintro ⟨b1, o1, rfl⟩
        have hRm := hko.R_Datam
        unfold reachBytes at hRm
        have hrow : ∀ {G R : List HProp}, Ext G (old W) R → Row W G b1 (o1 + k * 7) (BAct.cells op) := fun x => (hops.old x).elem BAct.len hget
        have hmd := md_range (k := 100000) (by decide) op.Now
        have hwx := wrap_u64_range op.Now
        have htk := hav.taken
        refine CG.skip ?_
        refine QG.then ?_
        refine CG.seq ?_
        refine CG.block ?_
        refine CG.draw (.look 0 0 (.look 1 1 (.look 2 1 (.look 3 1 (.look 4 1 (.look 5 1 (.look 7 0 (.look 8 0 (.look 9 0 (.look 10 0 (.look 11 0 (.look 12 0 (.look 13 0 (.look 14 0 (.eff1 6 false (.eff1 15 false (.done))))))))))))))))) [6, 15] [] ([old W]) ([]) mixed (by kernel_rfl) ((by repeat (first | exact Imp.refl _ | exact Imp.none _ | apply Imp.pull (by repeat (first | exact Ext.here | apply Ext.there)) | apply Imp.trans Imp.drop))) (Imp.none _) ?_
        refine DG.look rfl rfl (Yield.move rfl) rfl ?_
        refine DG.look rfl rfl (Yield.move rfl) rfl ?_
        refine DG.look rfl rfl (Yield.move rfl) rfl ?_
        refine DG.look rfl rfl (Yield.index_slice Try.underlying67 ti72 rfl rfl (by omega) (by omega)) rfl ?_
        refine DG.look rfl rfl (Yield.fieldAddr fa72_1 rfl) rfl ?_
        refine DG.look rfl rfl (Yield.load_agg (vs := op.rq.cells) ti40 rfl rfl (by rw [show o1 + (k : Int).toNat * 7 + 1 = (o1 + k * 7) + 1 by omega]; exact row_sub (hrow (by repeat (first | exact Ext.here | apply Ext.there))) 1 rfl)) rfl ?_
        refine DG.look rfl rfl (Yield.move rfl) rfl ?_
        refine DG.look rfl rfl (Yield.move rfl) rfl ?_
        refine DG.look rfl rfl (Yield.index_slice Try.underlying67 ti72 rfl rfl (by omega) (by omega)) rfl ?_
        refine DG.look rfl rfl (Yield.fieldAddr fa72_2 rfl) rfl ?_
        refine DG.look rfl rfl (Yield.load (v := .int .i64 op.Now) ti3 rfl (by rw [show o1 + (k : Int).toNat * 7 + 6 = (o1 + k * 7) + 6 by omega]; exact (hrow (by repeat (first | exact Ext.here | apply Ext.there))) 6 _ rfl)) rfl ?_
        refine DG.look rfl rfl (Yield.conv Try.underlying25 rfl rfl rfl) rfl ?_
        refine DG.look rfl rfl (Yield.rem (c := md 100000 op.Now) rfl rfl (by decide) (tmod_pos (by omega) (by omega))) rfl ?_
        refine DG.look rfl rfl (Yield.conv (c := md 100000 op.Now) Try.underlying3 rfl rfl (w64 (by omega) (by omega))) rfl ?_
        refine DG.eff1 ?_
        refine Chg.callo rfl rfl call29 rfl (Imp.refl _) (copy_spec W _ (x := op.rq) (by exact RdB.of_slR (hko.R_Data.old (by repeat (first | exact Ext.here | apply Ext.there))) hko.R_Datac) hRm) rfl (fun _ => (by repeat (first | exact Imp.refl _ | exact Imp.none _ | apply Imp.pull (by repeat (first | exact Ext.here | apply Ext.there)) | apply Imp.trans Imp.drop))) (fun _ => Imp.refl _) (fun _ => (by repeat (first | exact Imp.refl _ | exact Imp.none _ | apply Imp.pull (by repeat (first | exact Ext.here | apply Ext.there)) | apply Imp.trans Imp.drop))) ?_
        rintro m hm
        have hml : m.b.length ≤ dmax := by rw [hm]; exact hRm
        refine DG.eff1 ?_
        refine Chg.callo rfl rfl call21 rfl ((by repeat (first | exact Imp.refl _ | exact Imp.none _ | apply Imp.pull (by repeat (first | exact Ext.here | apply Ext.there)) | apply Imp.trans Imp.drop))) (submit_spec W _ (b := a) (s := s) (r := { op.rq with m := m }) (now := md 100000 op.Now) (RdB.of_osl (E := 5) (by repeat (first | exact Ext.here | apply Ext.there)) rfl rfl) hml (by omega)) rfl (fun _ => (by repeat (first | exact Imp.refl _ | exact Imp.none _ | apply Imp.pull (by repeat (first | exact Ext.here | apply Ext.there)) | apply Imp.trans Imp.drop))) (fun _ => Imp.refl _) (fun _ => (by repeat (first | exact Imp.refl _ | exact Imp.none _ | apply Imp.pull (by repeat (first | exact Ext.here | apply Ext.there)) | apply Imp.trans Imp.drop))) ?_
        rintro ⟨⟩ -
        refine DG.done ?_
        refine QG.block_normal ?_
        refine QG.then ?_
        refine CG.region ?_
        refine OG.yield (Yield.move rfl) rfl ?_
        refine OG.yield (Yield.add rfl rfl (w64 (by omega) (by omega))) rfl ?_
        refine OG.yield (Yield.assign rfl) rfl ?_
        refine OG.nil ?_
        exact QG.next (k + 1, subS s (CR.abs { op.rq with m := m }) (md 100000 op.Now)) ⟨by simp only; omega, hav.sub (by omega) hml⟩ (by simp only; omega) (by repeat (first | exact Env.sub_nil _ | refine Env.sub_cons rfl ?_)) (by repeat (first | exact Imp.refl _ | exact Imp.none _ | apply Imp.pull (by repeat (first | exact Ext.here | apply Ext.there)) | apply Imp.trans Imp.drop))
      · try replace hc := of_decide_eq_false hc
        refine CG.exit ?_
        refine QG.pass_exit ?_
        refine QG.pass_exit ?_
        refine QG.block_exit ?_
        refine QG.then ?_
        refine CG.seq ?_
        refine CG.region ?_
        have hke : k = ops.length := by omega
        have hfin : ∀ j ∈ s.q, j.done ≤ 281474976710656 := fun j hj => by have := hav.done j hj; omega
        have htk := hav.taken
        refine OG.yield (Yield.move rfl) rfl ?_
        refine OG.callo call34 rfl ((by repeat (first | exact Imp.refl _ | exact Imp.none _ | apply Imp.pull (by repeat (first | exact Ext.here | apply Ext.there)) | apply Imp.trans Imp.drop))) (bclone_spec W _ (b := a) (s := s)) rfl ?_
        rintro b -
        refine OG.yield (Yield.move rfl) rfl ?_
        refine OG.callo call34 rfl ((by repeat (first | exact Imp.refl _ | exact Imp.none _ | apply Imp.pull (by repeat (first | exact Ext.here | apply Ext.there)) | apply Imp.trans Imp.drop))) (bclone_spec W _ (b := a) (s := s)) rfl ?_
        rintro c -
        refine OG.yield (Yield.assign rfl) rfl ?_
        refine OG.yield (Yield.assign rfl) rfl ?_
        refine OG.nil ?_
        refine QG.then ?_
        refine CG.seq ?_
        refine CG.seq ?_
        refine CG.region ?_
        refine OG.yield (Yield.move rfl) rfl ?_
        refine OG.yield (by first | exact Yield.ptr_nil Try.underlying51 rfl rfl | exact Yield.nil_nil Try.underlying51 rfl rfl) rfl ?_
        refine OG.yield (Yield.move rfl) rfl ?_
        refine OG.guard_yes rfl rfl rfl (by decide) ?_
        refine OG.yield (Yield.move rfl) rfl ?_
        refine OG.guard_yes rfl rfl rfl (by decide) ?_
        refine OG.yield (by first | exact Yield.ptr_nil Try.underlying51 rfl rfl | exact Yield.nil_nil Try.underlying51 rfl rfl) rfl ?_
        refine OG.yield (by first | exact Yield.pick_t rfl rfl | exact Yield.pick_f rfl rfl | exact Yield.pick rfl (fun _ => rfl) (fun _ => rfl)) rfl ?_
        refine OG.nil ?_
        refine QG.then ?_
        refine CG.cond_f rfl ?_
        refine CG.skip ?_
        refine QG.then ?_
        refine CG.seq ?_
        refine CG.seq ?_
        refine CG.region ?_
        refine OG.yield (Yield.assign rfl) rfl ?_
        refine OG.nil ?_
        refine QG.then ?_
        refine CG.block ?_
        refine CG.loop (fun x : Nat × Bs => x.1 ≤ oth.length ∧ x.2.taken ≤ 100 + x.1) (fun x => [(2, .slice a2 oth.length c2), (9, .pointer (some ⟨a, 0, none⟩)), (12, .pointer (some ⟨b, 0, none⟩)), (13, .pointer (some ⟨c, 0, none⟩)), (14, .int .i64 x.1)]) (fun x => [Bl a s, Bl b s, Bl c x.2, old W]) (fun x => oth.length - x.1) (0, s) ⟨Nat.zero_le _, by show s.taken ≤ 100 + ((0 : Nat) : Int); omega⟩ (by repeat (first | exact Env.sub_nil _ | refine Env.sub_cons rfl ?_)) (by repeat (first | exact Imp.refl _ | exact Imp.none _ | apply Imp.pull (by repeat (first | exact Ext.here | apply Ext.there)) | apply Imp.trans Imp.drop)) ?_
        rintro ⟨n, u⟩ ⟨hn, hut⟩
        dsimp only at hn hut ⊢
        refine CG.seq ?_
        refine CG.seq ?_
        refine CG.region ?_
        refine OG.yield (Yield.move rfl) rfl ?_
        refine OG.yield (Yield.move rfl) rfl ?_
        refine OG.yield (Yield.len_slice Try.underlying67 rfl rfl) rfl ?_
        refine OG.yield (by first | exact Yield.as (Yield.lss rfl rfl) (bT (by omega)) | exact Yield.as (Yield.lss rfl rfl) (bF (by omega)) | exact Yield.lss rfl rfl) rfl ?_
        refine OG.nil ?_
        refine QG.then ?_
        refine CG.cond rfl (fun hc => ?_) (fun hc => ?_)
        · try replace hc := of_decide_eq_true hc
          have hn' : n < oth.length := by omega
          have hget : oth[n]? = some oth[n] := by simp [hn']
          have hko := hok2 oth[n] (List.getElem_mem hn')
          generalize oth[n] = op at hget hko
          refine CG.pure (fun w hw => (hoth.old (G := [Bl a s, Bl b s, Bl c u, old W]) (by repeat (first | exact Ext.here | apply Ext.there))).elem_shape BAct.len (by decide) hn' w hw) ?_
          rintro ⟨b1, o1, rfl⟩
          have hRm := hko.R_Datam
          unfold reachBytes at hRm
          have hrow : ∀ {G R : List HProp}, Ext G (old W) R → Row W G b1 (o1 + n * 7) (BAct.cells op) := fun x => (hoth.old x).elem BAct.len hget
          have hmd := md_range (k := 100000) (by decide) op.Now
          have hmd2 := md_range (k := 200000) (by decide) op.Now
          have hwx := wrap_u64_range op.Now
          refine CG.skip ?_
          refine QG.then ?_
          refine CG.seq ?_
          refine CG.block ?_
          refine CG.seq ?_
          refine CG.draw (.look 0 0 (.look 1 1 (.look 2 1 (.look 3 1 (.look 4 1 (.look 5 1 (.look 7 0 (.look 8 0 (.look 9 0 (.look 10 0 (.look 11 0 (.look 12 0 (.look 13 0 (.look 14 0 (.eff1 6 false (.eff1 15 false (.done))))))))))))))))) [6, 15] [] ([old W]) ([]) mixed (by kernel_rfl) ((by repeat (first | exact Imp.refl _ | exact Imp.none _ | apply Imp.pull (by repeat (first | exact Ext.here | apply Ext.there)) | apply Imp.trans Imp.drop))) (Imp.none _) ?_
          refine DG.look rfl rfl (Yield.move rfl) rfl ?_
          refine DG.look rfl rfl (Yield.move rfl) rfl ?_
          refine DG.look rfl rfl (Yield.move rfl) rfl ?_
          refine DG.look rfl rfl (Yield.index_slice Try.underlying67 ti72 rfl rfl (by omega) (by omega)) rfl ?_
          refine DG.look rfl rfl (Yield.fieldAddr fa72_1 rfl) rfl ?_
          refine DG.look rfl rfl (Yield.load_agg (vs := op.rq.cells) ti40 rfl rfl (by rw [show o1 + (n : Int).toNat * 7 + 1 = (o1 + n * 7) + 1 by omega]; exact row_sub (hrow (by repeat (first | exact Ext.here | apply Ext.there))) 1 rfl)) rfl ?_
          refine DG.look rfl rfl (Yield.move rfl) rfl ?_
          refine DG.look rfl rfl (Yield.move rfl) rfl ?_
          refine DG.look rfl rfl (Yield.index_slice Try.underlying67 ti72 rfl rfl (by omega) (by omega)) rfl ?_
          refine DG.look rfl rfl (Yield.fieldAddr fa72_2 rfl) rfl ?_
          refine DG.look rfl rfl (Yield.load (v := .int .i64 op.Now) ti3 rfl (by rw [show o1 + (n : Int).toNat * 7 + 6 = (o1 + n * 7) + 6 by omega]; exact (hrow (by repeat (first | exact Ext.here | apply Ext.there))) 6 _ rfl)) rfl ?_
          refine DG.look rfl rfl (Yield.conv Try.underlying25 rfl rfl rfl) rfl ?_
          refine DG.look rfl rfl (Yield.rem (c := md 100000 op.Now) rfl rfl (by decide) (tmod_pos (by omega) (by omega))) rfl ?_
          refine DG.look rfl rfl (Yield.conv (c := md 100000 op.Now) Try.underlying3 rfl rfl (w64 (by omega) (by omega))) rfl ?_
          refine DG.eff1 ?_
          refine Chg.callo rfl rfl call29 rfl (Imp.refl _) (copy_spec W _ (x := op.rq) (by exact RdB.of_slR (hko.R_Data.old (by repeat (first | exact Ext.here | apply Ext.there))) hko.R_Datac) hRm) rfl (fun _ => (by repeat (first | exact Imp.refl _ | exact Imp.none _ | apply Imp.pull (by repeat (first | exact Ext.here | apply Ext.there)) | apply Imp.trans Imp.drop))) (fun _ => Imp.refl _) (fun _ => (by repeat (first | exact Imp.refl _ | exact Imp.none _ | apply Imp.pull (by repeat (first | exact Ext.here | apply Ext.there)) | apply Imp.trans Imp.drop))) ?_
          rintro m hm
          have hml : m.b.length ≤ dmax := by rw [hm]; exact hRm
          refine DG.eff1 ?_
          refine Chg.callo rfl rfl call21 rfl ((by repeat (first | exact Imp.refl _ | exact Imp.none _ | apply Imp.pull (by repeat (first | exact Ext.here | apply Ext.there)) | apply Imp.trans Imp.drop))) (submit_spec W _ (b := c) (s := u) (r := { op.rq with m := m }) (now := md 100000 op.Now) (RdB.of_osl (E := 5) (by repeat (first | exact Ext.here | apply Ext.there)) rfl rfl) hml (by omega)) rfl (fun _ => (by repeat (first | exact Imp.refl _ | exact Imp.none _ | apply Imp.pull (by repeat (first | exact Ext.here | apply Ext.there)) | apply Imp.trans Imp.drop))) (fun _ => Imp.refl _) (fun _ => (by repeat (first | exact Imp.refl _ | exact Imp.none _ | apply Imp.pull (by repeat (first | exact Ext.here | apply Ext.there)) | apply Imp.trans Imp.drop))) ?_
          rintro ⟨⟩ -
          have hst := subS_taken u (CR.abs { op.rq with m := m }) (md 100000 op.Now)
          refine DG.done ?_
          refine QG.then ?_
          refine CG.region ?_
          refine OG.yield (Yield.move rfl) rfl ?_
          refine OG.yield (Yield.move rfl) rfl ?_
          refine OG.yield (Yield.move rfl) rfl ?_
          refine OG.yield (Yield.index_slice Try.underlying67 ti72 rfl rfl (by omega) (by omega)) rfl ?_
          refine OG.yield (Yield.fieldAddr fa72_2 rfl) rfl ?_
          refine OG.yield (Yield.load (v := .int .i64 op.Now) ti3 rfl (by rw [show o1 + (n : Int).toNat * 7 + 6 = (o1 + n * 7) + 6 by omega]; exact (hrow (by repeat (first | exact Ext.here | apply Ext.there))) 6 _ rfl)) rfl ?_
          refine OG.yield (Yield.conv Try.underlying25 rfl rfl rfl) rfl ?_
          refine OG.yield (Yield.rem (c := md 200000 op.Now) rfl rfl (by decide) (tmod_pos (by omega) (by omega))) rfl ?_
          refine OG.yield (Yield.conv (c := md 200000 op.Now) Try.underlying3 rfl rfl (w64 (by omega) (by omega))) rfl ?_
          refine OG.callo call20 rfl ((by repeat (first | exact Imp.refl _ | exact Imp.none _ | apply Imp.pull (by repeat (first | exact Ext.here | apply Ext.there)) | apply Imp.trans Imp.drop))) (poll_spec W _ (b := c) (s := subS u (CR.abs { op.rq with m := m }) (md 100000 op.Now)) (md 200000 op.Now)) rfl ?_
          rintro ⟨l, la, lc⟩ -
          dsimp only [Rqs.G, List.cons_append, List.nil_append]
          refine OG.nil ?_
          refine QG.block_normal ?_
          refine QG.then ?_
          refine CG.region ?_
          refine OG.yield (Yield.move rfl) rfl ?_
          refine OG.yield (Yield.add rfl rfl (w64 (by omega) (by omega))) rfl ?_
          refine OG.yield (Yield.assign rfl) rfl ?_
          refine OG.nil ?_
          exact QG.next (n + 1, pollR (subS u (CR.abs { op.rq with m := m }) (md 100000 op.Now)) (md 200000 op.Now)) ⟨by simp only; omega, by show (subS u (CR.abs { op.rq with m := m }) (md 100000 op.Now)).taken ≤ 100 + ((n + 1 : Nat) : Int); omega⟩ (by simp only; omega) (by repeat (first | exact Env.sub_nil _ | refine Env.sub_cons rfl ?_)) (by repeat (first | exact Imp.refl _ | exact Imp.none _ | apply Imp.pull (by repeat (first | exact Ext.here | apply Ext.there)) | apply Imp.trans Imp.drop))
        · try replace hc := of_decide_eq_false hc
          refine CG.exit ?_
          refine QG.pass_exit ?_
          refine QG.pass_exit ?_
          refine QG.block_exit ?_
          refine QG.then ?_
          refine CG.seq ?_
          refine CG.region ?_
          refine OG.yield (Yield.move rfl) rfl ?_
          refine OG.callo call20 rfl ((by repeat (first | exact Imp.refl _ | exact Imp.none _ | apply Imp.pull (by repeat (first | exact Ext.here | apply Ext.there)) | apply Imp.trans Imp.drop))) (poll_spec W _ (b := a) (s := s) 281474976710656) rfl ?_
          rintro ⟨l, la, lc⟩ hl
          dsimp only at hl
          dsimp only [Rqs.G, List.cons_append, List.nil_append]
          refine OG.yield (Yield.assign rfl) rfl ?_
          refine OG.nil ?_
          refine QG.then ?_
          refine CG.seq ?_
          refine CG.region ?_
          refine OG.yield (Yield.move rfl) rfl ?_
          refine OG.callo call20 rfl ((by repeat (first | exact Imp.refl _ | exact Imp.none _ | apply Imp.pull (by repeat (first | exact Ext.here | apply Ext.there)) | apply Imp.trans Imp.drop))) (poll_spec W _ (b := b) (s := s) 281474976710656) rfl ?_
          rintro ⟨l2, la2, lc2⟩ hl2
          dsimp only at hl2
          dsimp only [Rqs.G, List.cons_append, List.nil_append]
          have hall := pollL_all s.q s.bytes hfin
          have hq0 : (pollR s 281474976710656).q.length = 0 := by show (pollL 281474976710656 s.bytes s.q).2.2.length = 0; rw [hall.1]; rfl
          have hll : l.length ≤ 32 := by have h9 := congrArg List.length hl; rw [List.length_map, hall.2] at h9; have := hav.ok.ql; omega
          refine OG.yield (Yield.assign rfl) rfl ?_
          refine OG.nil ?_
          refine QG.then ?_
          refine CG.seq ?_
          refine CG.draw (.look 0 1 (.look 1 1 (.eff1 2 false (.look 3 1 (.look 4 1 (.look 7 0 (.eff1 5 false (.look 6 0 (.eff1 8 false (.look 9 1 (.look 10 1 (.look 11 1 (.look 12 1 (.look 13 1 (.eff1 14 false (.look 15 1 (.look 16 1 (.look 17 1 (.look 18 1 (.eff1 19 false (.look 20 1 (.look 21 1 (.look 22 1 (.done)))))))))))))))))))))))) [2, 5, 8, 14, 19] [] ([]) ([]) mixed (by kernel_rfl) (Imp.none _) (Imp.none _) ?_
          refine DG.look rfl rfl (Yield.move rfl) rfl ?_
          refine DG.look rfl rfl (Yield.move rfl) rfl ?_
          refine DG.eff1 ?_
          refine Chg.callo rfl rfl call23 rfl (Imp.refl _) (sameAll_spec W _ (x := ⟨l, la, lc⟩) (y := ⟨l2, la2, lc2⟩) (SlR.of_osl (E := 40) (by repeat (first | exact Ext.here | apply Ext.there))) (SlR.of_osl (E := 40) (by repeat (first | exact Ext.here | apply Ext.there))) (mem_pool (r := ⟨l, la, lc⟩) (by repeat (first | exact Ext.here | apply Ext.there))) (mem_pool (r := ⟨l2, la2, lc2⟩) (by repeat (first | exact Ext.here | apply Ext.there))) (by rw [hl, hl2]) (by show l.length ≤ _; omega)) rfl (fun _ => (by repeat (first | exact Imp.refl _ | exact Imp.none _ | apply Imp.pull (by repeat (first | exact Ext.here | apply Ext.there)) | apply Imp.trans Imp.drop))) (fun _ => Imp.refl _) (fun _ => (by repeat (first | exact Imp.refl _ | exact Imp.none _ | apply Imp.pull (by repeat (first | exact Ext.here | apply Ext.there)) | apply Imp.trans Imp.drop))) ?_
          rintro ⟨⟩ -
          refine DG.look rfl rfl (Yield.move rfl) rfl ?_
          refine DG.look rfl rfl (Yield.move rfl) rfl ?_
          refine DG.look rfl rfl (Yield.move rfl) rfl ?_
          refine DG.eff1 ?_
          refine Chg.callo rfl rfl call36 rfl ((by repeat (first | exact Imp.refl _ | exact Imp.none _ | apply Imp.pull (by repeat (first | exact Ext.here | apply Ext.there)) | apply Imp.trans Imp.drop))) (image_spec W _ (b := a) (s := pollR s 281474976710656)) rfl (K' := fun m : Msg => [m.own]) (fun _ => (by repeat (first | exact Imp.refl _ | exact Imp.none _ | apply Imp.pull (by repeat (first | exact Ext.here | apply Ext.there)) | apply Imp.trans Imp.drop))) (fun _ => Imp.none _) (fun _ => (by repeat (first | exact Imp.refl _ | exact Imp.none _ | apply Imp.pull (by repeat (first | exact Ext.here | apply Ext.there)) | apply Imp.trans Imp.drop))) ?_
          rintro m1 hm1
          refine DG.look rfl rfl (Yield.toStr (bs := m1.b) Try.underlying36 Try.underlying9 Try.underlying5 rfl (SlR.of_osl (E := 5) (by repeat (first | exact Ext.here | apply Ext.there)))) rfl ?_
          refine DG.eff1 ?_
          refine Chg.callo rfl rfl call36 rfl ((by repeat (first | exact Imp.refl _ | exact Imp.none _ | apply Imp.pull (by repeat (first | exact Ext.here | apply Ext.there)) | apply Imp.trans Imp.drop))) (image_spec W _ (b := b) (s := pollR s 281474976710656)) rfl (fun _ => (by repeat (first | exact Imp.refl _ | exact Imp.none _ | apply Imp.pull (by repeat (first | exact Ext.here | apply Ext.there)) | apply Imp.trans Imp.drop))) (fun _ => Imp.refl _) (fun _ => (by repeat (first | exact Imp.refl _ | exact Imp.none _ | apply Imp.pull (by repeat (first | exact Ext.here | apply Ext.there)) | apply Imp.trans Imp.drop))) ?_
          rintro m2 hm2
          refine DG.look rfl rfl (Yield.toStr (bs := m2.b) Try.underlying36 Try.underlying9 Try.underlying5 rfl (SlR.of_osl (E := 5) (by repeat (first | exact Ext.here | apply Ext.there)))) rfl ?_
          refine DG.look rfl rfl (Yield.as (Yield.str_eql rfl rfl) (v' := .bool true) (by rw [hm1, hm2]; simp)) rfl ?_
          refine DG.look rfl rfl (by first | exact Yield.pick_t rfl rfl | exact Yield.pick_f rfl rfl | exact Yield.pick rfl (fun _ => rfl) (fun _ => rfl)) rfl ?_
          refine DG.look rfl rfl (Yield.move rfl) rfl ?_
          refine DG.look rfl rfl (Yield.move rfl) rfl ?_
          refine DG.eff1 ?_
          refine Chg.callo rfl rfl call22 rfl ((by repeat (first | exact Imp.refl _ | exact Imp.none _ | apply Imp.pull (by repeat (first | exact Ext.here | apply Ext.there)) | apply Imp.trans Imp.drop))) (waiting_spec W _ (b := a) (s := pollR s 281474976710656)) rfl (fun _ => (by repeat (first | exact Imp.refl _ | exact Imp.none _ | apply Imp.pull (by repeat (first | exact Ext.here | apply Ext.there)) | apply Imp.trans Imp.drop))) (fun _ => Imp.refl _) (fun _ => (by repeat (first | exact Imp.refl _ | exact Imp.none _ | apply Imp.pull (by repeat (first | exact Ext.here | apply Ext.there)) | apply Imp.trans Imp.drop))) ?_
          rintro ⟨⟩ -
          rw [hq0]
          refine DG.look rfl rfl (by first | exact Yield.as (Yield.eql rfl rfl) (bT (by omega)) | exact Yield.as (Yield.eql rfl rfl) (bF (by omega)) | exact Yield.eql rfl rfl) rfl ?_
          refine DG.look rfl rfl (by first | exact Yield.pick_t rfl rfl | exact Yield.pick_f rfl rfl | exact Yield.pick rfl (fun _ => rfl) (fun _ => rfl)) rfl ?_
          refine DG.look rfl rfl (Yield.move rfl) rfl ?_
          refine DG.look rfl rfl (Yield.move rfl) rfl ?_
          refine DG.eff1 ?_
          refine Chg.callo rfl rfl call22 rfl ((by repeat (first | exact Imp.refl _ | exact Imp.none _ | apply Imp.pull (by repeat (first | exact Ext.here | apply Ext.there)) | apply Imp.trans Imp.drop))) (waiting_spec W _ (b := b) (s := pollR s 281474976710656)) rfl (fun _ => (by repeat (first | exact Imp.refl _ | exact Imp.none _ | apply Imp.pull (by repeat (first | exact Ext.here | apply Ext.there)) | apply Imp.trans Imp.drop))) (fun _ => Imp.refl _) (fun _ => (by repeat (first | exact Imp.refl _ | exact Imp.none _ | apply Imp.pull (by repeat (first | exact Ext.here | apply Ext.there)) | apply Imp.trans Imp.drop))) ?_
          rintro ⟨⟩ -
          rw [hq0]
          refine DG.look rfl rfl (by first | exact Yield.as (Yield.eql rfl rfl) (bT (by omega)) | exact Yield.as (Yield.eql rfl rfl) (bF (by omega)) | exact Yield.eql rfl rfl) rfl ?_
          refine DG.look rfl rfl (by first | exact Yield.pick_t rfl rfl | exact Yield.pick_f rfl rfl | exact Yield.pick rfl (fun _ => rfl) (fun _ => rfl)) rfl ?_
          refine DG.look rfl rfl (Yield.assign rfl) rfl ?_
          refine DG.done ?_
          refine QG.then ?_
          refine CG.ret ?_
          exact QG.ret1 rfl rfl () trivial rfl (by repeat (first | exact Imp.refl _ | exact Imp.none _ | apply Imp.pull (by repeat (first | exact Ext.here | apply Ext.there)) | apply Imp.trans Imp.drop))
open Go.ChangeShapes Go.WideShapes Go.ChangeAt
theorem own : ownKnob Try.prog.godebug = none := by kernel_rfl
theorem laid : laidOutB Try.prog = true := by kernel_rfl
set_option maxRecDepth 100000 in
theorem lifted (os : Os) (started : os.Started) (H : Type) (enc : TypeId × Value → H) :
    ReturnsInHanded {} Try.checked os 8 .any (Rows.blockClonesSpec.pre6 enc Try.prog Try.f8 Rows.blockClonesRow.domain false) (Rows.blockClonesSpec.post enc Try.prog Try.f8 false true false false) := by
  refine returnsInHanded_of_change_sized (C := Try.checked) own started (by kernel_rfl) Try.func8
    (ChangeSpec.witness6 (enc := enc) (C := Try.checked) false ⟨#[], #[.slice none 0 0, .slice none 0 0, .slice none 0 0], []⟩ 8 (by kernel_rfl) (by kernel_rfl) (by kernel_rfl) (by kernel_rfl)) ?_
  intro W base args ds gs before hval0 hW hcnd hsz0 _
  have hsz : (DataW.weightsEach Try.prog (Try.f8.params.toList ++ Rows.blockClonesSpec.plain.varTypes Try.prog) (ds ++ gs)).all (· ≤ reachBytes) = true := hsz0
  have hval : ∀ (j : Nat) t v, Try.f8.params[j]? = some t → args[j]? = some v → Value.okWide Try.prog W .any base t v := hval0
  have hW' := hW
  obtain ⟨p, q, hA0, hV, rfl, hfz, hnd⟩ := hW
  have hA : DataW.TrodAll enc Try.prog W 0 (fun _ => true) true Try.f8.params.toList args.toList ds p := hA0
  rw [Try.params8] at hA hval hsz
  obtain ⟨v0, vs0, d0, ds0, p0, q0, hargs, rfl, rfl, h0, r0⟩ := trodAll_cons hA
  obtain ⟨v1, vs1, d1, ds1, p1, q1, rfl, rfl, rfl, h1, r1⟩ := trodAll_cons r0
  obtain ⟨v2, vs2, d2, ds2, p2, q2, rfl, rfl, rfl, h2, r2⟩ := trodAll_cons r1
  obtain ⟨rfl, rfl, rfl⟩ := trodAll_nil r2
  obtain rfl : args = #[v0, v1, v2] := by cases args; simp_all
  obtain ⟨rfl, rfl⟩ := trodVars_none hV
  have k0 := weights_le hsz 0 (t := 23) (d := d0) rfl rfl
  have s0 := Opn.param Try.underlying23 (Opn.ints (by' := 8) Try.underlying23 Try.underlying3 (by kernel_rfl) (by kernel_rfl)) (hval 0 23 v0 rfl rfl) h0 k0
  obtain ⟨x0, c0, ds, e0, l0, ok0, s0, m0⟩ := s0
  cases e0
  have k1 := weights_le hsz 1 (t := 67) (d := d1) rfl rfl
  have s1 := Opn.param Try.underlying67 (BAct.list W) (hval 1 67 v1 rfl rfl) h1 k1
  obtain ⟨x1, c1, ops, e1, l1, ok1, s1, m1⟩ := s1
  cases e1
  have k2 := weights_le hsz 2 (t := 67) (d := d2) rfl rfl
  have s2 := Opn.param Try.underlying67 (BAct.list W) (hval 2 67 v2 rfl rfl) h2 k2
  obtain ⟨x2, c2, oth, e2, l2, ok2, s2, m2⟩ := s2
  cases e2
  clear hA0 hval0 hsz0 hsz
  refine ((walk W s0 s1 ok1 s2 ok2) W (Sat.start W)).mono fun e W' he => ?_
  obtain ⟨_, _, he, hs⟩ := he
  subst he
  exact ⟨_, rfl, law_post laid (params_ok (by kernel_rfl)) rfl Try.underlying4 hW' rfl rfl (Sat.below (by repeat (first | exact Ext.here | apply Ext.there)) hs)⟩
theorem over : Rows.blockClonesRow.holds Try.pinned (OpenSpec.ofChange Rows.blockClonesSpec) :=
  OpenClaim.holds_of_wide 8 Try.f8 rfl rfl rfl rfl rfl rfl rfl ⟨rfl, rfl, rfl, rfl, rfl⟩ rfl rfl rfl rfl rfl (by kernel_rfl) Try.func8 (by kernel_rfl)
    (of_decide_eq_true (by kernel_rfl)) (by unfold Func.isWrapper; first | (rw [if_pos (by decide +kernel)]; kernel_rfl) | (rw [if_neg (by decide +kernel)]; exact ⟨rfl, rfl⟩))
    (fun os started H enc _ => lifted os started H enc)
theorem proved : Rows.BlockClonesSaid := over
#print axioms proved
end Go.Proofs.Ytoejnhfcegchhaa.blockClones
