/- BlockPlays: whatever is asked of a disk, it answers as the document's disk, and its bytes and queue are the same behind it: the law returns true at every input and changes nothing that was there. No conditions. -/
import Derived.Test.YtoejnhfcegchhaaBplays0
namespace Go.Proofs.Ytoejnhfcegchhaa.blockPlays
open Go Go.Sl Go.RowKit Go.Proofs Go.Proofs.Ytoejnhfcegchhaa.T Go.Proofs.Ytoejnhfcegchhaa.Ms Go.Proofs.Ytoejnhfcegchhaa.Vd Go.Proofs.Ytoejnhfcegchhaa.Bk
set_option linter.unusedVariables false
set_option linter.unusedSimpArgs false
set_option maxRecDepth 100000
theorem pollL_dat {s : Bs} {now : Int} : ∀ (q : List Jb) (bs : B), (s.at bs q).OK → ∀ r ∈ (pollL now bs q).1, r.data.length ≤ dmax
  | [], bs, h => fun r hr => absurd hr List.not_mem_nil
  | j :: q, bs, h => by
    rcases (show now < j.done ∨ j.done ≤ now by omega) with hh | hh
    · rw [pollL_no hh]; exact fun r hr => absurd hr List.not_mem_nil
    · rw [pollL_yes hh]
      intro r hr
      rcases List.mem_cons.1 hr with rfl | hr
      · unfold outJ
        split
        · exact (h.dat j List.mem_cons_self).1
        · show (getS bs j.r.sector.toNat).length ≤ dmax
          unfold getS dmax; rw [List.length_take]; omega
      · exact pollL_dat q _ (doJ_ok h) r hr
theorem ints_flat (l : List Int) : ((l.map (intC .i64)).flatten) = intsV .i64 l := by
  induction l with
  | nil => rfl
  | cons x l ih => simp only [List.map_cons, List.flatten_cons, ih]; rfl
theorem subS_taken (s : Bs) (r : Rq) (now : Int) : (subS s r now).taken ≤ s.taken + 1 := by
  unfold subS; split
  · exact Int.le_refl _
  · omega
section
variable (W0 : World) (Fr : List HProp)
theorem rsubmit_spec {b : Nat} {s : Bs} {r : CR} {now : Int} (hr : RdB W0 Fr r.m.a r.m.c r.m.b) (hd : r.m.b.length ≤ dmax) (ht2 : s.taken ≤ 1073741824) :
    Ctr Try.prog W0 30 [.pointer (some ⟨b, 0, none⟩), .agg r.cells.toArray, .int .i64 now] (Rl b s :: Fr) (fun _ : Unit => True) (fun _ => .int .i64 (subBE s r.write r.sector r.m.b.length now)) (fun _ => Rl b (subS s r.abs now) :: Fr) := by
  by_cases h : subBE s r.write r.sector r.m.b.length now = 0
  · rw [h, show subS s r.abs now = subBR s r.abs now from if_pos h]
    exact rsubmit_ok W0 Fr hr hd ht2 h
  · rw [show subS s r.abs now = s from if_neg h]
    exact rsubmit_bad W0 Fr h
end
set_option maxHeartbeats 8000000 in
theorem walk (W : World) {a1 a2 a3 : Option Addr} {c1 c2 c3 : Nat} {sectors : Int} {img : B} {delays : List Int} {ops : List BAct} (himg : SlAt W 1 a1 img.length (bytesV img)) (hic : img.length ≤ c1) (him : img.length ≤ reachBytes) (hqs0 : SlAt W 1 a2 delays.length ((delays.map (intC .i64)).flatten)) (hdm : delays.length * 8 ≤ reachBytes) (hops : SlAt W 7 a3 ops.length ((ops.map BAct.cells).flatten)) (hok : ∀ o ∈ ops, o.OK W) :
    Ctr Try.prog W 7 [.int .i64 sectors, .slice a1 img.length c1, .slice a2 delays.length c2, .slice a3 ops.length c3] [old W] (fun _ : Unit => True) (fun _ => .bool true) (fun _ => [old W]) := by
  rw [ints_flat] at hqs0
  unfold reachBytes at him hdm
  refine Ctr.of_body Try.func7 rfl Try.ntmps7 rfl ?_
  refine CG.seq ?_
  refine CG.region ?_
  refine OG.yield (Yield.assign rfl) rfl ?_
  refine OG.nil ?_
  refine QG.then ?_
  refine CG.seq ?_
  rcases Classical.em (newE sectors img.length delays = 0) with hne | hne
  · skip
    obtain ⟨n, rfl⟩ : ∃ n : Nat, sectors = n := ⟨sectors.toNat, by unfold newE at hne; split at hne; exact absurd hne (by decide); omega⟩
    refine CG.region ?_
    refine OG.yield (Yield.move rfl) rfl ?_
    refine OG.yield (Yield.move rfl) rfl ?_
    refine OG.yield (Yield.move rfl) rfl ?_
    refine OG.callo call28 rfl (Imp.refl _) (begin_ok W _ (a := a1) (c := c1) (da := a2) (dc := c2) (n := n) (img := img) (delays := delays) (RdB.of_slR (himg.old (by repeat (first | exact Ext.here | apply Ext.there))) hic) (by omega) (hqs0.old (by repeat (first | exact Ext.here | apply Ext.there))) (by omega) hne) rfl ?_
    rintro ⟨b, r⟩ -
    dsimp only
    refine OG.yield (Yield.move rfl) rfl ?_
    refine OG.yield (Yield.extract rfl rfl) rfl ?_
    refine OG.yield (Yield.extract rfl rfl) rfl ?_
    refine OG.yield (Yield.extract rfl rfl) rfl ?_
    refine OG.yield (Yield.assign rfl) rfl ?_
    refine OG.yield (Yield.assign rfl) rfl ?_
    refine OG.yield (Yield.assign rfl) rfl ?_
    refine OG.nil ?_
    refine QG.then ?_
    refine CG.seq ?_
    refine CG.seq ?_
    rcases (show 300 < ops.length ∨ ops.length ≤ 300 by omega) with hp | hp
    · skip
      refine CG.region ?_
      refine OG.yield (Yield.move rfl) rfl ?_
      refine OG.yield (Yield.not rfl) rfl ?_
      refine OG.yield (Yield.move rfl) rfl ?_
      refine OG.guard_yes rfl rfl rfl (by decide) ?_
      refine OG.yield (Yield.move rfl) rfl ?_
      refine OG.guard_yes rfl rfl rfl (by decide) ?_
      refine OG.yield (by first | exact Yield.ptr_nil Try.underlying68 rfl rfl | exact Yield.nil_nil Try.underlying68 rfl rfl) rfl ?_
      refine OG.yield (by first | exact Yield.pick_t rfl rfl | exact Yield.pick_f rfl rfl | exact Yield.pick rfl (fun _ => rfl) (fun _ => rfl)) rfl ?_
      refine OG.yield (Yield.move rfl) rfl ?_
      refine OG.guard_yes rfl rfl rfl (by decide) ?_
      refine OG.yield (Yield.move rfl) rfl ?_
      refine OG.guard_yes rfl rfl rfl (by decide) ?_
      refine OG.yield (Yield.len_slice Try.underlying67 rfl rfl) rfl ?_
      refine OG.guard_yes rfl rfl rfl (by decide) ?_
      refine OG.yield (by first | exact Yield.as (Yield.gtr rfl rfl) (bT (by omega)) | exact Yield.as (Yield.gtr rfl rfl) (bF (by omega)) | exact Yield.gtr rfl rfl) rfl ?_
      refine OG.yield (by first | exact Yield.pick_t rfl rfl | exact Yield.pick_f rfl rfl | exact Yield.pick rfl (fun _ => rfl) (fun _ => rfl)) rfl ?_
      refine OG.nil ?_
      refine QG.then ?_
      refine CG.cond_t rfl ?_
      refine CG.seq ?_
      refine CG.region ?_
      refine OG.yield (Yield.move rfl) rfl ?_
      refine OG.yield (Yield.assign rfl) rfl ?_
      refine OG.nil ?_
      refine QG.then ?_
      refine CG.ret ?_
      refine QG.pass_ret ?_
      exact QG.ret1 rfl rfl () trivial rfl (by repeat (first | exact Imp.refl _ | exact Imp.none _ | apply Imp.pull (by repeat (first | exact Ext.here | apply Ext.there)) | apply Imp.trans Imp.drop))
    · skip
      refine CG.region ?_
      refine OG.yield (Yield.move rfl) rfl ?_
      refine OG.yield (Yield.not rfl) rfl ?_
      refine OG.yield (Yield.move rfl) rfl ?_
      refine OG.guard_yes rfl rfl rfl (by decide) ?_
      refine OG.yield (Yield.move rfl) rfl ?_
      refine OG.guard_yes rfl rfl rfl (by decide) ?_
      refine OG.yield (by first | exact Yield.ptr_nil Try.underlying68 rfl rfl | exact Yield.nil_nil Try.underlying68 rfl rfl) rfl ?_
      refine OG.yield (by first | exact Yield.pick_t rfl rfl | exact Yield.pick_f rfl rfl | exact Yield.pick rfl (fun _ => rfl) (fun _ => rfl)) rfl ?_
      refine OG.yield (Yield.move rfl) rfl ?_
      refine OG.guard_yes rfl rfl rfl (by decide) ?_
      refine OG.yield (Yield.move rfl) rfl ?_
      refine OG.guard_yes rfl rfl rfl (by decide) ?_
      refine OG.yield (Yield.len_slice Try.underlying67 rfl rfl) rfl ?_
      refine OG.guard_yes rfl rfl rfl (by decide) ?_
      refine OG.yield (by first | exact Yield.as (Yield.gtr rfl rfl) (bT (by omega)) | exact Yield.as (Yield.gtr rfl rfl) (bF (by omega)) | exact Yield.gtr rfl rfl) rfl ?_
      refine OG.yield (by first | exact Yield.pick_t rfl rfl | exact Yield.pick_f rfl rfl | exact Yield.pick rfl (fun _ => rfl) (fun _ => rfl)) rfl ?_
      refine OG.nil ?_
      refine QG.then ?_
      refine CG.cond_f rfl ?_
      refine CG.skip ?_
      refine QG.then ?_
      refine CG.seq ?_
      refine CG.seq ?_
      refine CG.region ?_
      refine OG.yield (Yield.assign rfl) rfl ?_
      refine OG.nil ?_
      refine QG.then ?_
      refine CG.block ?_
      refine CG.loop (fun x : Nat × Bs × Nat => x.1 ≤ ops.length ∧ x.2.1.taken ≤ x.1) (fun x => [(3, .slice a3 ops.length c3), (9, .pointer (some ⟨x.2.2, 0, none⟩)), (10, .pointer (some ⟨r, 0, none⟩)), (12, .int .i64 x.1)]) (fun x => [Bl x.2.2 x.2.1, Rl r x.2.1, old W]) (fun x => ops.length - x.1) (0, ⟨newB n img, delays, 0, 0, []⟩, b) ⟨Nat.zero_le _, Int.le_refl _⟩ (by repeat (first | exact Env.sub_nil _ | refine Env.sub_cons rfl ?_)) (by repeat (first | exact Imp.refl _ | exact Imp.none _ | apply Imp.pull (by repeat (first | exact Ext.here | apply Ext.there)) | apply Imp.trans Imp.drop)) ?_
      clear hne
      clear b
      rintro ⟨i, s, b⟩ ⟨hi, htk⟩
      dsimp only at hi htk ⊢
      refine CG.seq ?_
      refine CG.seq ?_
      refine CG.region ?_
      refine OG.yield (Yield.move rfl) rfl ?_
      refine OG.yield (Yield.move rfl) rfl ?_
      refine OG.yield (Yield.len_slice Try.underlying67 rfl rfl) rfl ?_
      refine OG.yield (by first | exact Yield.as (Yield.lss rfl rfl) (bT (by omega)) | exact Yield.as (Yield.lss rfl rfl) (bF (by omega)) | exact Yield.lss rfl rfl) rfl ?_
      refine OG.nil ?_
      refine QG.then ?_
      refine CG.cond rfl (fun hc => ?_) (fun hc => ?_)
      · try replace hc := of_decide_eq_true hc
        have h1 : i < ops.length := by omega
        have hget : ops[i]? = some ops[i] := by simp [h1]
        have hko := hok ops[i] (List.getElem_mem h1)
        generalize ops[i] = op at hget hko
        refine CG.pure (fun w hw => (hops.old (G := [Bl b s, Rl r s, old W]) (by repeat (first | exact Ext.here | apply Ext.there))).elem_shape BAct.len (by decide) h1 w hw) ?_
        rintro ⟨b1, o1, rfl⟩
        refine CG.pure (fun w hw => bl_facts (b := b) (s := s) (by repeat (first | exact Ext.here | apply Ext.there)) w hw) ?_
        intro hso
        have hRm := hko.R_Datam
        unfold reachBytes at hRm
        have hrow : ∀ {G R : List HProp}, Ext G (old W) R → Row W G b1 (o1 + i * 7) (BAct.cells op) := fun x => (hops.old x).elem BAct.len hget
        refine CG.skip ?_
        refine QG.then ?_
        refine CG.seq ?_
        refine CG.block ?_
        refine CG.cut (fun x : Bs × Nat => x.1.taken ≤ i + 1) (fun x => [(3, .slice (some ⟨b1, o1, none⟩) ops.length c3), (9, .pointer (some ⟨x.2, 0, none⟩)), (10, .pointer (some ⟨r, 0, none⟩)), (12, .int .i64 i)]) (fun x => [Bl x.2 x.1, Rl r x.1, old W]) ?_ ?_
        · skip
          refine CG.seq ?_
          refine CG.region ?_
          refine OG.yield (Yield.move rfl) rfl ?_
          refine OG.yield (Yield.move rfl) rfl ?_
          refine OG.yield (Yield.index_slice Try.underlying67 ti72 rfl rfl (by omega) (by omega)) rfl ?_
          refine OG.yield (Yield.fieldAddr fa72_0 rfl) rfl ?_
          refine OG.yield (Yield.load (v := .int .i64 op.Kind) ti3 rfl (by rw [show o1 + (i : Int).toNat * 7 + 0 = o1 + i * 7 + 0 by omega]; exact (hrow (by repeat (first | exact Ext.here | apply Ext.there))) 0 _ rfl)) rfl ?_
          refine OG.nil ?_
          refine QG.then ?_
          refine CG.block ?_
          refine CG.seq ?_
          refine CG.region ?_
          refine OG.yield (Yield.eql rfl rfl) rfl ?_
          refine OG.yield (Yield.assign rfl) rfl ?_
          refine OG.nil ?_
          refine QG.then ?_
          refine CG.cond rfl (fun hc => ?_) (fun hc => ?_)
          · try replace hc := of_decide_eq_true hc
            refine CG.seq ?_
            refine CG.region ?_
            refine OG.yield (Yield.move rfl) rfl ?_
            refine OG.yield (Yield.move rfl) rfl ?_
            refine OG.yield (Yield.index_slice Try.underlying67 ti72 rfl rfl (by omega) (by omega)) rfl ?_
            refine OG.yield (Yield.fieldAddr fa72_1 rfl) rfl ?_
            refine OG.yield (Yield.load_agg (vs := op.rq.cells) ti40 rfl rfl (by rw [show o1 + (i : Int).toNat * 7 + 1 = (o1 + i * 7) + 1 by omega]; exact row_sub (hrow (by repeat (first | exact Ext.here | apply Ext.there))) 1 rfl)) rfl ?_
            refine OG.callo call29 rfl (Imp.refl _) (copy_spec W _ (x := op.rq) (by exact RdB.of_slR (hko.R_Data.old (by repeat (first | exact Ext.here | apply Ext.there))) hko.R_Datac) hRm) rfl ?_
            rintro m hm
            have hm' : m.b = op.R_Data := hm
            have hml : m.b.length ≤ dmax := by rw [hm']; exact hRm
            have hab : CR.abs { op.rq with m := m } = op.rq.abs := by simp [CR.abs, hm]
            refine OG.effd (Eff.alloc ti40) rfl ?_
            rintro b13 -
            refine OG.eff (Eff.storeAll ti40 rfl rfl (by repeat (first | exact Foc.here | apply Foc.there)) (CR.len { op.rq with m := m }) (CR.ones _) rfl) rfl ?_
            rintro ⟨⟩ -
            refine OG.nil ?_
            refine QG.then ?_
            refine CG.seq ?_
            refine CG.seq ?_
            refine CG.draw (.look 0 1 (.look 1 1 (.look 2 1 (.look 3 1 (.look 4 1 (.look 5 1 (.look 6 1 (.look 8 0 (.look 9 0 (.look 10 0 (.look 11 0 (.look 12 0 (.look 13 0 (.look 14 0 (.look 15 0 (.look 16 0 (.look 17 0 (.look 18 0 (.eff1 7 false (.eff1 19 false (.look 20 1 (.look 21 1 (.look 22 1 (.look 23 1 (.look 24 1 (.look 25 1 (.look 26 1 (.look 27 1 (.eff1 28 false (.look 29 1 (.look 30 1 (.done)))))))))))))))))))))))))))))))) [7, 19, 28] [] ([old W]) ([]) mixed (by kernel_rfl) ((by repeat (first | exact Imp.refl _ | exact Imp.none _ | apply Imp.pull (by repeat (first | exact Ext.here | apply Ext.there)) | apply Imp.trans Imp.drop))) (Imp.none _) ?_
            refine DG.look rfl rfl (Yield.move rfl) rfl ?_
            refine DG.look rfl rfl (Yield.load_agg (vs := CR.cells { op.rq with m := m }) ti40 rfl (CR.len _) (Row.of_blk (b := b13) (by repeat (first | exact Ext.here | apply Ext.there)) rfl)) rfl ?_
            refine DG.look rfl rfl (Yield.move rfl) rfl ?_
            refine DG.look rfl rfl (Yield.move rfl) rfl ?_
            refine DG.look rfl rfl (Yield.index_slice Try.underlying67 ti72 rfl rfl (by omega) (by omega)) rfl ?_
            refine DG.look rfl rfl (Yield.fieldAddr fa72_2 rfl) rfl ?_
            refine DG.look rfl rfl (Yield.load (v := .int .i64 op.Now) ti3 rfl (by rw [show o1 + (i : Int).toNat * 7 + 6 = (o1 + i * 7) + 6 by omega]; exact (hrow (by repeat (first | exact Ext.here | apply Ext.there))) 6 _ rfl)) rfl ?_
            refine DG.look rfl rfl (Yield.move rfl) rfl ?_
            refine DG.look rfl rfl (Yield.move rfl) rfl ?_
            refine DG.look rfl rfl (Yield.move rfl) rfl ?_
            refine DG.look rfl rfl (Yield.index_slice Try.underlying67 ti72 rfl rfl (by omega) (by omega)) rfl ?_
            refine DG.look rfl rfl (Yield.fieldAddr fa72_1 rfl) rfl ?_
            refine DG.look rfl rfl (Yield.load_agg (vs := op.rq.cells) ti40 rfl rfl (by rw [show o1 + (i : Int).toNat * 7 + 1 = (o1 + i * 7) + 1 by omega]; exact row_sub (hrow (by repeat (first | exact Ext.here | apply Ext.there))) 1 rfl)) rfl ?_
            refine DG.look rfl rfl (Yield.move rfl) rfl ?_
            refine DG.look rfl rfl (Yield.move rfl) rfl ?_
            refine DG.look rfl rfl (Yield.index_slice Try.underlying67 ti72 rfl rfl (by omega) (by omega)) rfl ?_
            refine DG.look rfl rfl (Yield.fieldAddr fa72_2 rfl) rfl ?_
            refine DG.look rfl rfl (Yield.load (v := .int .i64 op.Now) ti3 rfl (by rw [show o1 + (i : Int).toNat * 7 + 6 = (o1 + i * 7) + 6 by omega]; exact (hrow (by repeat (first | exact Ext.here | apply Ext.there))) 6 _ rfl)) rfl ?_
            refine DG.eff1 ?_
            refine Chg.callo rfl rfl call21 rfl ((by repeat (first | exact Imp.refl _ | exact Imp.none _ | apply Imp.pull (by repeat (first | exact Ext.here | apply Ext.there)) | apply Imp.trans Imp.drop))) (submit_spec W _ (b := b) (s := s) (r := { op.rq with m := m }) (now := op.Now) (RdB.of_osl (E := 5) (a := m.a) (c := m.c) (by repeat (first | exact Ext.here | apply Ext.there)) rfl rfl) hml (by omega)) rfl (fun _ => (by repeat (first | exact Imp.refl _ | exact Imp.none _ | apply Imp.pull (by repeat (first | exact Ext.here | apply Ext.there)) | apply Imp.trans Imp.drop))) (fun _ => Imp.refl _) (fun _ => (by repeat (first | exact Imp.refl _ | exact Imp.none _ | apply Imp.pull (by repeat (first | exact Ext.here | apply Ext.there)) | apply Imp.trans Imp.drop))) ?_
            rintro ⟨⟩ -
            rw [hab]
            refine DG.eff1 ?_
            refine Chg.callo rfl rfl call30 rfl ((by repeat (first | exact Imp.refl _ | exact Imp.none _ | apply Imp.pull (by repeat (first | exact Ext.here | apply Ext.there)) | apply Imp.trans Imp.drop))) (rsubmit_spec W _ (b := r) (s := s) (r := op.rq) (now := op.Now) (by exact RdB.of_slR (hko.R_Data.old (by repeat (first | exact Ext.here | apply Ext.there))) hko.R_Datac) hRm (by omega)) rfl (fun _ => (by repeat (first | exact Imp.refl _ | exact Imp.none _ | apply Imp.pull (by repeat (first | exact Ext.here | apply Ext.there)) | apply Imp.trans Imp.drop))) (fun _ => Imp.refl _) (fun _ => (by repeat (first | exact Imp.refl _ | exact Imp.none _ | apply Imp.pull (by repeat (first | exact Ext.here | apply Ext.there)) | apply Imp.trans Imp.drop))) ?_
            rintro ⟨⟩ -
            refine DG.look rfl rfl (Yield.as (Yield.neq rfl rfl) (bF (by show ¬ (subBE s op.R_Write op.R_Sector m.b.length op.Now ≠ subBE s op.R_Write op.R_Sector op.R_Data.length op.Now); rw [hm']; exact not_not_intro rfl))) rfl ?_
            refine DG.look rfl rfl (Yield.move rfl) rfl ?_
            refine DG.look rfl rfl (Yield.load_agg (vs := CR.cells { op.rq with m := m }) ti40 rfl (CR.len _) (Row.of_blk (b := b13) (by repeat (first | exact Ext.here | apply Ext.there)) rfl)) rfl ?_
            refine DG.look rfl rfl (Yield.move rfl) rfl ?_
            refine DG.look rfl rfl (Yield.move rfl) rfl ?_
            refine DG.look rfl rfl (Yield.index_slice Try.underlying67 ti72 rfl rfl (by omega) (by omega)) rfl ?_
            refine DG.look rfl rfl (Yield.fieldAddr fa72_1 rfl) rfl ?_
            refine DG.look rfl rfl (Yield.load_agg (vs := op.rq.cells) ti40 rfl rfl (by rw [show o1 + (i : Int).toNat * 7 + 1 = (o1 + i * 7) + 1 by omega]; exact row_sub (hrow (by repeat (first | exact Ext.here | apply Ext.there))) 1 rfl)) rfl ?_
            refine DG.eff1 ?_
            refine Chg.callo rfl rfl call31 rfl (Imp.refl _) (same_spec W _ (x := { op.rq with m := m }) (y := op.rq) (RdB.of_osl (E := 5) (a := m.a) (c := m.c) (by repeat (first | exact Ext.here | apply Ext.there)) rfl rfl) (by exact RdB.of_slR (hko.R_Data.old (by repeat (first | exact Ext.here | apply Ext.there))) hko.R_Datac) hab) rfl (fun _ => (by repeat (first | exact Imp.refl _ | exact Imp.none _ | apply Imp.pull (by repeat (first | exact Ext.here | apply Ext.there)) | apply Imp.trans Imp.drop))) (fun _ => Imp.refl _) (fun _ => (by repeat (first | exact Imp.refl _ | exact Imp.none _ | apply Imp.pull (by repeat (first | exact Ext.here | apply Ext.there)) | apply Imp.trans Imp.drop))) ?_
            rintro ⟨⟩ -
            refine DG.look rfl rfl (Yield.not rfl) rfl ?_
            refine DG.look rfl rfl (by first | exact Yield.pick_t rfl rfl | exact Yield.pick_f rfl rfl | exact Yield.pick rfl (fun _ => rfl) (fun _ => rfl)) rfl ?_
            refine DG.done ?_
            refine QG.then ?_
            refine CG.cond_f rfl ?_
            refine CG.skip ?_
            refine QG.then ?_
            refine CG.region ?_
            refine OG.yield (Yield.load_agg (vs := CR.cells { op.rq with m := m }) ti40 rfl (CR.len _) (Row.of_blk (b := b13) (by repeat (first | exact Ext.here | apply Ext.there)) rfl)) rfl ?_
            refine OG.effd (Eff.lit [.tmp 97] (vs := [.agg (CR.cells { op.rq with m := m }).toArray]) (cells := CR.cells { op.rq with m := m }) Try.underlying32 ti40 rfl rfl rfl rfl (by decide) (by simp [Value.cells, CR.cells]) (by simp [Value.cells])) rfl ?_
            rintro b98 -
            refine OG.callo call32 rfl (Imp.trans (Imp.pull (A := m.own) (by repeat (first | exact Ext.here | apply Ext.there)) (Imp.refl _)) (Imp.trans pool_one (Imp.pull (A := oreqs (some ⟨b98, 0, none⟩) 1 [{ op.rq with m := m }]) (by repeat (first | exact Ext.here | apply Ext.there)) (Imp.pull (A := pool [m]) (by repeat (first | exact Ext.here | apply Ext.there)) (Imp.refl _))))) (spoil_spec W _ (l := [{ op.rq with m := m }]) (a := some ⟨b98, 0, none⟩) (c := 1) (show 1 ≤ 2 ^ 20 by decide) (fun r hr => by rw [List.mem_singleton] at hr; subst hr; exact hml)) rfl ?_
            rintro ⟨⟩ -
            refine OG.nil ?_
            refine QG.block_normal ?_
            exact QG.mid (subS s op.rq.abs op.Now, b) (by have := subS_taken s op.rq.abs op.Now; show (subS s op.rq.abs op.Now).taken ≤ i + 1; omega) (by repeat (first | exact Env.sub_nil _ | refine Env.sub_cons rfl ?_)) (by repeat (first | exact Imp.refl _ | exact Imp.none _ | apply Imp.pull (by repeat (first | exact Ext.here | apply Ext.there)) | apply Imp.trans Imp.drop))
          · try replace hc := of_decide_eq_false hc
            refine CG.seq ?_
            refine CG.region ?_
            refine OG.yield (Yield.eql rfl rfl) rfl ?_
            refine OG.yield (Yield.assign rfl) rfl ?_
            refine OG.nil ?_
            refine QG.then ?_
            refine CG.cond rfl (fun hc => ?_) (fun hc => ?_)
            · try replace hc := of_decide_eq_true hc
              refine CG.seq ?_
              refine CG.region ?_
              refine OG.yield (Yield.move rfl) rfl ?_
              refine OG.yield (Yield.move rfl) rfl ?_
              refine OG.yield (Yield.move rfl) rfl ?_
              refine OG.yield (Yield.index_slice Try.underlying67 ti72 rfl rfl (by omega) (by omega)) rfl ?_
              refine OG.yield (Yield.fieldAddr fa72_2 rfl) rfl ?_
              refine OG.yield (Yield.load (v := .int .i64 op.Now) ti3 rfl (by rw [show o1 + (i : Int).toNat * 7 + 6 = (o1 + i * 7) + 6 by omega]; exact (hrow (by repeat (first | exact Ext.here | apply Ext.there))) 6 _ rfl)) rfl ?_
              refine OG.callo call20 rfl ((by repeat (first | exact Imp.refl _ | exact Imp.none _ | apply Imp.pull (by repeat (first | exact Ext.here | apply Ext.there)) | apply Imp.trans Imp.drop))) (poll_spec W _ (b := b) (s := s) op.Now) rfl ?_
              rintro ⟨l1, la1, lc1⟩ hl1
              dsimp only at hl1
              dsimp only [Rqs.G, Rqs.ms, List.cons_append, List.nil_append]
              refine OG.yield (Yield.assign rfl) rfl ?_
              refine OG.nil ?_
              refine QG.then ?_
              refine CG.seq ?_
              refine CG.seq ?_
              refine CG.region ?_
              refine OG.yield (Yield.move rfl) rfl ?_
              refine OG.yield (Yield.move rfl) rfl ?_
              refine OG.yield (Yield.move rfl) rfl ?_
              refine OG.yield (Yield.move rfl) rfl ?_
              refine OG.yield (Yield.index_slice Try.underlying67 ti72 rfl rfl (by omega) (by omega)) rfl ?_
              refine OG.yield (Yield.fieldAddr fa72_2 rfl) rfl ?_
              refine OG.yield (Yield.load (v := .int .i64 op.Now) ti3 rfl (by rw [show o1 + (i : Int).toNat * 7 + 6 = (o1 + i * 7) + 6 by omega]; exact (hrow (by repeat (first | exact Ext.here | apply Ext.there))) 6 _ rfl)) rfl ?_
              refine OG.callo call33 rfl ((by repeat (first | exact Imp.refl _ | exact Imp.none _ | apply Imp.pull (by repeat (first | exact Ext.here | apply Ext.there)) | apply Imp.trans Imp.drop))) (rpoll_spec W _ (b := r) (s := s) op.Now) rfl ?_
              rintro ⟨l2, la2, lc2⟩ hl2
              dsimp only at hl2
              dsimp only [Rqs.G, Rqs.ms, List.cons_append, List.nil_append]
              have hl1l : l1.length ≤ 32 := by have h9 := congrArg List.length hl1; rw [List.length_map] at h9; have := (pollL_sub s.q s.bytes (now := op.Now)).2; have := hso.ql; omega
              have hdat1 : ∀ r ∈ l1, r.m.b.length ≤ dmax := fun r hr => pollL_dat (s := s) (now := op.Now) s.q s.bytes hso r.abs (by rw [← hl1]; exact List.mem_map_of_mem hr)
              refine OG.callo call23 rfl (Imp.refl _) (sameAll_spec W _ (x := ⟨l1, la1, lc1⟩) (y := ⟨l2, la2, lc2⟩) (SlR.of_osl (E := 40) (by repeat (first | exact Ext.here | apply Ext.there))) (SlR.of_osl (E := 40) (by repeat (first | exact Ext.here | apply Ext.there))) (mem_pool (r := ⟨l1, la1, lc1⟩) (by repeat (first | exact Ext.here | apply Ext.there))) (mem_pool (r := ⟨l2, la2, lc2⟩) (by repeat (first | exact Ext.here | apply Ext.there))) (by rw [hl1, hl2]) (by show l1.length ≤ _; omega)) rfl ?_
              rintro ⟨⟩ -
              refine OG.yield (Yield.not rfl) rfl ?_
              refine OG.nil ?_
              refine QG.then ?_
              refine CG.cond_f rfl ?_
              refine CG.skip ?_
              refine QG.then ?_
              refine CG.region ?_
              refine OG.yield (Yield.move rfl) rfl ?_
              refine OG.callo call32 rfl (Imp.pull (A := oreqs la1 lc1 l1) (by repeat (first | exact Ext.here | apply Ext.there)) (Imp.pull (A := pool (l1.map CR.m)) (by repeat (first | exact Ext.here | apply Ext.there)) (Imp.refl _))) (spoil_spec W _ (l := l1) (a := la1) (c := lc1) (by omega) hdat1) rfl ?_
              rintro ⟨⟩ -
              refine OG.nil ?_
              refine QG.block_normal ?_
              exact QG.mid (pollR s op.Now, b) (by show s.taken ≤ i + 1; omega) (by repeat (first | exact Env.sub_nil _ | refine Env.sub_cons rfl ?_)) (by repeat (first | exact Imp.refl _ | exact Imp.none _ | apply Imp.pull (by repeat (first | exact Ext.here | apply Ext.there)) | apply Imp.trans Imp.drop))
            · try replace hc := of_decide_eq_false hc
              refine CG.seq ?_
              refine CG.region ?_
              refine OG.yield (Yield.move rfl) rfl ?_
              refine OG.callo call34 rfl ((by repeat (first | exact Imp.refl _ | exact Imp.none _ | apply Imp.pull (by repeat (first | exact Ext.here | apply Ext.there)) | apply Imp.trans Imp.drop))) (bclone_spec W _ (b := b) (s := s)) rfl ?_
              rintro u -
              refine OG.yield (Yield.assign rfl) rfl ?_
              refine OG.nil ?_
              refine QG.then ?_
              refine CG.seq ?_
              refine CG.seq ?_
              refine CG.region ?_
              refine OG.yield (Yield.move rfl) rfl ?_
              refine OG.yield (by first | exact Yield.ptr_nil Try.underlying51 rfl rfl | exact Yield.nil_nil Try.underlying51 rfl rfl) rfl ?_
              refine OG.nil ?_
              refine QG.then ?_
              refine CG.cond_f rfl ?_
              refine CG.skip ?_
              refine QG.then ?_
              refine CG.seq ?_
              refine CG.region ?_
              refine OG.yield (Yield.move rfl) rfl ?_
              refine OG.effd (Eff.makeB 64 Try.underlying36 ti5 rfl rfl (by decide)) rfl ?_
              rintro b52 -
              refine OG.yield (Yield.build (pvs := [(2, .bool true), (4, .slice (some ⟨b52, 0, none⟩) 64 64)]) bu40 ti40 rfl (cells := CR.cells ⟨0, 0, true, 0, ⟨some ⟨b52, 0, none⟩, 64, List.replicate 64 0⟩⟩) rfl) rfl ?_
              refine OG.callo call21 rfl ((by repeat (first | exact Imp.refl _ | exact Imp.none _ | apply Imp.pull (by repeat (first | exact Ext.here | apply Ext.there)) | apply Imp.trans Imp.drop))) (submit_spec W _ (b := b) (s := s) (r := ⟨0, 0, true, 0, ⟨some ⟨b52, 0, none⟩, 64, List.replicate 64 0⟩⟩) (now := 0) (RdB.of_osl (E := 5) (a := some ⟨b52, 0, none⟩) (by repeat (first | exact Ext.here | apply Ext.there)) rfl rfl) (show (List.replicate 64 (0 : UInt8)).length ≤ dmax by rw [List.length_replicate]; decide) (by omega)) rfl ?_
              rintro ⟨⟩ -
              refine OG.nil ?_
              refine QG.then ?_
              refine CG.seq ?_
              refine CG.region ?_
              refine OG.yield (Yield.move rfl) rfl ?_
              refine OG.callo call20 rfl ((by repeat (first | exact Imp.refl _ | exact Imp.none _ | apply Imp.pull (by repeat (first | exact Ext.here | apply Ext.there)) | apply Imp.trans Imp.drop))) (poll_spec W _ (b := b) (s := subS s (CR.abs ⟨0, 0, true, 0, ⟨some ⟨b52, 0, none⟩, 64, List.replicate 64 0⟩⟩) 0) 562949953421312) rfl ?_
              rintro ⟨l1, la1, lc1⟩ -
              dsimp only [Rqs.G, Rqs.ms, List.cons_append, List.nil_append]
              refine OG.nil ?_
              refine QG.then ?_
              refine CG.region ?_
              refine OG.yield (Yield.move rfl) rfl ?_
              refine OG.yield (Yield.assign rfl) rfl ?_
              refine OG.nil ?_
              refine QG.block_normal ?_
              exact QG.mid (s, u) (by show s.taken ≤ i + 1; omega) (by repeat (first | exact Env.sub_nil _ | refine Env.sub_cons rfl ?_)) (by repeat (first | exact Imp.refl _ | exact Imp.none _ | apply Imp.pull (by repeat (first | exact Ext.here | apply Ext.there)) | apply Imp.trans Imp.drop))
        rintro ⟨s1, d1⟩ hs1
        dsimp only at hs1 ⊢
        refine CG.seq ?_
        refine CG.region ?_
        refine OG.yield (Yield.move rfl) rfl ?_
        refine OG.yield (Yield.move rfl) rfl ?_
        refine OG.callo call35 rfl ((by repeat (first | exact Imp.refl _ | exact Imp.none _ | apply Imp.pull (by repeat (first | exact Ext.here | apply Ext.there)) | apply Imp.trans Imp.drop))) (alike_spec W _ (b := d1) (r := r) (s := s1)) rfl ?_
        rintro ⟨⟩ -
        refine OG.yield (Yield.not rfl) rfl ?_
        refine OG.nil ?_
        refine QG.then ?_
        refine CG.cond_f rfl ?_
        refine CG.skip ?_
        refine QG.block_normal ?_
        refine QG.then ?_
        refine CG.region ?_
        refine OG.yield (Yield.move rfl) rfl ?_
        refine OG.yield (Yield.add rfl rfl (w64 (by omega) (by omega))) rfl ?_
        refine OG.yield (Yield.assign rfl) rfl ?_
        refine OG.nil ?_
        exact QG.next (i + 1, s1, d1) ⟨by simp only; omega, by show s1.taken ≤ ((i + 1 : Nat) : Int); omega⟩ (by simp only; omega) (by repeat (first | exact Env.sub_nil _ | refine Env.sub_cons rfl ?_)) (by repeat (first | exact Imp.refl _ | exact Imp.none _ | apply Imp.pull (by repeat (first | exact Ext.here | apply Ext.there)) | apply Imp.trans Imp.drop))
      · try replace hc := of_decide_eq_false hc
        refine CG.exit ?_
        refine QG.pass_exit ?_
        refine QG.pass_exit ?_
        refine QG.block_exit ?_
        refine QG.then ?_
        refine CG.seq ?_
        refine CG.region ?_
        refine OG.yield (Yield.move rfl) rfl ?_
        refine OG.yield (Yield.move rfl) rfl ?_
        refine OG.callo call35 rfl ((by repeat (first | exact Imp.refl _ | exact Imp.none _ | apply Imp.pull (by repeat (first | exact Ext.here | apply Ext.there)) | apply Imp.trans Imp.drop))) (alike_spec W _ (b := b) (r := r) (s := s)) rfl ?_
        rintro ⟨⟩ -
        refine OG.yield (Yield.assign rfl) rfl ?_
        refine OG.nil ?_
        refine QG.then ?_
        refine CG.ret ?_
        exact QG.ret1 rfl rfl () trivial rfl (by repeat (first | exact Imp.refl _ | exact Imp.none _ | apply Imp.pull (by repeat (first | exact Ext.here | apply Ext.there)) | apply Imp.trans Imp.drop))
  · skip
    skip
    refine CG.region ?_
    refine OG.yield (Yield.move rfl) rfl ?_
    refine OG.yield (Yield.move rfl) rfl ?_
    refine OG.yield (Yield.move rfl) rfl ?_
    refine OG.callo call28 rfl (Imp.refl _) (begin_bad W _ (a := a1) (c := c1) (da := a2) (dc := c2) (sectors := sectors) (img := img) (delays := delays) (RdB.of_slR (himg.old (by repeat (first | exact Ext.here | apply Ext.there))) hic) (by omega) (hqs0.old (by repeat (first | exact Ext.here | apply Ext.there))) (by omega) hne) rfl ?_
    rintro ⟨⟩ -
    refine OG.yield (Yield.move rfl) rfl ?_
    refine OG.yield (Yield.extract rfl rfl) rfl ?_
    refine OG.yield (Yield.extract rfl rfl) rfl ?_
    refine OG.yield (Yield.extract rfl rfl) rfl ?_
    refine OG.yield (Yield.assign rfl) rfl ?_
    refine OG.yield (Yield.assign rfl) rfl ?_
    refine OG.yield (Yield.assign rfl) rfl ?_
    refine OG.nil ?_
    refine QG.then ?_
    refine CG.seq ?_
    refine CG.seq ?_
    refine CG.region ?_
    refine OG.yield (Yield.move rfl) rfl ?_
    refine OG.yield (Yield.not rfl) rfl ?_
    refine OG.yield (Yield.move rfl) rfl ?_
    refine OG.guard_yes rfl rfl rfl (by decide) ?_
    refine OG.yield (Yield.move rfl) rfl ?_
    refine OG.guard_yes rfl rfl rfl (by decide) ?_
    refine OG.yield (by first | exact Yield.ptr_nil Try.underlying68 rfl rfl | exact Yield.nil_nil Try.underlying68 rfl rfl) rfl ?_
    refine OG.yield (by first | exact Yield.pick_t rfl rfl | exact Yield.pick_f rfl rfl | exact Yield.pick rfl (fun _ => rfl) (fun _ => rfl)) rfl ?_
    refine OG.yield (Yield.move rfl) rfl ?_
    refine OG.guard_no rfl rfl rfl rfl rfl (by decide) (by decide) ?_
    refine OG.guard_no rfl rfl rfl rfl rfl (by decide) (by decide) ?_
    refine OG.guard_no rfl rfl rfl rfl rfl (by decide) (by decide) ?_
    refine OG.yield (by first | exact Yield.pick_t rfl rfl | exact Yield.pick_f rfl rfl | exact Yield.pick rfl (fun _ => rfl) (fun _ => rfl)) rfl ?_
    refine OG.nil ?_
    refine QG.then ?_
    refine CG.cond_t rfl ?_
    refine CG.seq ?_
    refine CG.region ?_
    refine OG.yield (Yield.move rfl) rfl ?_
    refine OG.yield (Yield.assign rfl) rfl ?_
    refine OG.nil ?_
    refine QG.then ?_
    refine CG.ret ?_
    refine QG.pass_ret ?_
    exact QG.ret1 rfl rfl () trivial rfl (by repeat (first | exact Imp.refl _ | exact Imp.none _ | apply Imp.pull (by repeat (first | exact Ext.here | apply Ext.there)) | apply Imp.trans Imp.drop))
open Go.ChangeShapes Go.WideShapes Go.ChangeAt
theorem own : ownKnob Try.prog.godebug = none := by kernel_rfl
theorem laid : laidOutB Try.prog = true := by kernel_rfl
set_option maxRecDepth 100000 in
theorem lifted (os : Os) (started : os.Started) (H : Type) (enc : TypeId × Value → H) :
    ReturnsInHanded {} Try.checked os 7 .any (Rows.blockPlaysSpec.pre6 enc Try.prog Try.f7 Rows.blockPlaysRow.domain false) (Rows.blockPlaysSpec.post enc Try.prog Try.f7 false true false false) := by
  refine returnsInHanded_of_change_sized (C := Try.checked) own started (by kernel_rfl) Try.func7
    (ChangeSpec.witness6 (enc := enc) (C := Try.checked) false ⟨#[], #[.int .i64 0, .slice none 0 0, .slice none 0 0, .slice none 0 0], []⟩ 8 (by kernel_rfl) (by kernel_rfl) (by kernel_rfl) (by kernel_rfl)) ?_
  intro W base args ds gs before hval0 hW hcnd hsz0 _
  have hsz : (DataW.weightsEach Try.prog (Try.f7.params.toList ++ Rows.blockPlaysSpec.plain.varTypes Try.prog) (ds ++ gs)).all (· ≤ reachBytes) = true := hsz0
  have hval : ∀ (j : Nat) t v, Try.f7.params[j]? = some t → args[j]? = some v → Value.okWide Try.prog W .any base t v := hval0
  have hW' := hW
  obtain ⟨p, q, hA0, hV, rfl, hfz, hnd⟩ := hW
  have hA : DataW.TrodAll enc Try.prog W 0 (fun _ => true) true Try.f7.params.toList args.toList ds p := hA0
  rw [Try.params7] at hA hval hsz
  obtain ⟨v0, vs0, d0, ds0, p0, q0, hargs, rfl, rfl, h0, r0⟩ := trodAll_cons hA
  obtain ⟨v1, vs1, d1, ds1, p1, q1, rfl, rfl, rfl, h1, r1⟩ := trodAll_cons r0
  obtain ⟨v2, vs2, d2, ds2, p2, q2, rfl, rfl, rfl, h2, r2⟩ := trodAll_cons r1
  obtain ⟨v3, vs3, d3, ds3, p3, q3, rfl, rfl, rfl, h3, r3⟩ := trodAll_cons r2
  obtain ⟨rfl, rfl, rfl⟩ := trodAll_nil r3
  obtain rfl : args = #[v0, v1, v2, v3] := by cases args; simp_all
  obtain ⟨rfl, rfl⟩ := trodVars_none hV
  obtain ⟨a0, rfl, rfl, rfl, w0⟩ := open_int Try.underlying3 (hval 0 3 v0 rfl rfl) h0
  have k1 := weights_le hsz 1 (t := 36) (d := d1) rfl rfl
  have s1 := Opn.param Try.underlying36 (Opn.bytes Try.underlying36 Try.underlying5 (by kernel_rfl) (by kernel_rfl)) (hval 1 36 v1 rfl rfl) h1 k1
  obtain ⟨x1, c1, img, e1, l1, s1, m1⟩ := s1
  cases e1
  have k2 := weights_le hsz 2 (t := 23) (d := d2) rfl rfl
  have s2 := Opn.param Try.underlying23 (Opn.ints (by' := 8) Try.underlying23 Try.underlying3 (by kernel_rfl) (by kernel_rfl)) (hval 2 23 v2 rfl rfl) h2 k2
  obtain ⟨x2, c2, ds, e2, l2, ok2, s2, m2⟩ := s2
  cases e2
  have k3 := weights_le hsz 3 (t := 67) (d := d3) rfl rfl
  have s3 := Opn.param Try.underlying67 (BAct.list W) (hval 3 67 v3 rfl rfl) h3 k3
  obtain ⟨x3, c3, ops, e3, l3, ok3, s3, m3⟩ := s3
  cases e3
  clear hA0 hval0 hsz0 hsz
  refine ((walk W s1 l1 m1 s2 m2 s3 ok3) W (Sat.start W)).mono fun e W' he => ?_
  obtain ⟨_, _, he, hs⟩ := he
  subst he
  exact ⟨_, rfl, law_post laid (params_ok (by kernel_rfl)) rfl Try.underlying4 hW' rfl rfl (Sat.below (by repeat (first | exact Ext.here | apply Ext.there)) hs)⟩
theorem over : Rows.blockPlaysRow.holds Try.pinned (OpenSpec.ofChange Rows.blockPlaysSpec) :=
  OpenClaim.holds_of_wide 7 Try.f7 rfl rfl rfl rfl rfl rfl rfl ⟨rfl, rfl, rfl, rfl, rfl⟩ rfl rfl rfl rfl rfl (by kernel_rfl) Try.func7 (by kernel_rfl)
    (of_decide_eq_true (by kernel_rfl)) (by unfold Func.isWrapper; first | (rw [if_pos (by decide +kernel)]; kernel_rfl) | (rw [if_neg (by decide +kernel)]; exact ⟨rfl, rfl⟩))
    (fun os started H enc _ => lifted os started H enc)
theorem proved : Rows.BlockPlaysSaid := over
#print axioms proved
end Go.Proofs.Ytoejnhfcegchhaa.blockPlays
