/- VdiskPlays: whatever is asked of a slice: each answer, and what waits behind it, are the document's: the law returns true and changes nothing that was there. -/
import Derived.Test.YtoejnhfcegchhaaVdr4
namespace Go.Proofs.Ytoejnhfcegchhaa.Vd
open Go Go.Sl Go.RowKit Go.Proofs Go.Proofs.Ytoejnhfcegchhaa.T Go.Proofs.Ytoejnhfcegchhaa.Ms
set_option linter.unusedVariables false
set_option linter.unusedSimpArgs false
set_option maxRecDepth 100000
theorem pool_head {G : List HProp} {m : Msg} {ms : List Msg} : Imp (pool (m :: ms) :: G) (m.own :: pool ms :: G) := star_take (L := (m :: ms).map Msg.own) (i := 0) rfl
theorem drop_cons {α : Type} {l : List α} {i : Nat} {x : α} (h : l[i]? = some x) : l.drop i = x :: l.drop (i + 1) := by
  obtain ⟨hlt, rfl⟩ := List.getElem?_eq_some_iff.1 h
  exact List.drop_eq_getElem_cons hlt
def nines (l : List Int) (i : Nat) : List Int := List.replicate i 99 ++ l.drop i
theorem nines_len (l : List Int) {i : Nat} (h : i ≤ l.length) : (nines l i).length = l.length := by simp [nines]; omega
theorem nines_step {l : List Int} {i : Nat} (h : i < l.length) : (nines l i).set i 99 = nines l (i + 1) := by
  unfold nines
  rw [List.set_append_right _ _ (by simp), List.length_replicate, Nat.sub_self, List.drop_eq_getElem_cons h, List.set_cons_zero, List.replicate_succ', List.append_assoc]; rfl
theorem intsV_set (k : IntKind) (l : List Int) (i : Nat) (x : Int) : (intsV k l).set i (.int k x) = intsV k (l.set i x) := by simp [intsV, List.map_set]
section
variable (W0 : World) (Fr : List HProp)
theorem spoil_spec {m : Msg} (hn : m.b.length ≤ 2 ^ 62) : Ctr Try.prog W0 55 [m.cell] (m.own :: Fr) (fun _ : Unit => True) (fun _ => .tuple #[]) (fun _ => Fr) := by
  obtain ⟨a, c, bs⟩ := m
  unfold Msg.cell Msg.own
  dsimp only at hn ⊢
  generalize hm : bs.length = m
  refine Ctr.of_body Try.func55 rfl Try.ntmps55 rfl ?_
  refine CG.seq ?_
  refine CG.region ?_
  refine OG.yield (Yield.assign rfl) rfl ?_
  refine OG.nil ?_
  refine QG.then ?_
  refine CG.block ?_
  refine CG.loop (fun s : Nat × List UInt8 => s.1 ≤ m ∧ s.2.length = m) (fun s => [(0, .slice a m c), (2, .int .i64 s.1)]) (fun s => osl 5 1 a c m (bytesV s.2) :: Fr) (fun s => m - s.1) (0, bs) ⟨Nat.zero_le _, hm⟩ (by repeat (first | exact Env.sub_nil _ | refine Env.sub_cons rfl ?_)) (by rw [← hm]; exact Imp.refl _) ?_
  rintro ⟨i, xs⟩ ⟨hi, hl⟩
  dsimp only at hi hl
  refine CG.seq ?_
  refine CG.seq ?_
  refine CG.region ?_
  refine OG.yield (Yield.move rfl) rfl ?_
  refine OG.yield (Yield.move rfl) rfl ?_
  refine OG.yield (Yield.len_slice Try.underlying36 rfl rfl) rfl ?_
  refine OG.yield (by first | exact Yield.as (Yield.lss rfl rfl) (bT (by omega)) | exact Yield.as (Yield.lss rfl rfl) (bF (by omega)) | exact Yield.lss rfl rfl) rfl ?_
  refine OG.nil ?_
  refine QG.then ?_
  refine CG.cond rfl (fun hc => ?_) (fun hc => ?_)
  · try replace hc := of_decide_eq_true hc
    have hi' : i < xs.length := by omega
    have hget : xs[i]? = some xs[i] := by simp [hi']
    generalize xs[i] = v at hget
    refine CG.pure (fun w hw => SlR.shape (SlR.of_osl (W0 := W0) (E := 5) (sz := 1) (c := c) (m := m) (xs := bytesV xs) (by repeat (first | exact Ext.here | apply Ext.there))) (by intro q; have := congrArg List.length q; simp [bytesV] at this; subst this; simp at hi') w hw) ?_
    rintro ⟨b, o, rfl⟩
    refine CG.skip ?_
    refine QG.then ?_
    refine CG.seq ?_
    refine CG.block ?_
    refine CG.region ?_
    refine OG.yield (Yield.move rfl) rfl ?_
    refine OG.yield (Yield.move rfl) rfl ?_
    refine OG.yield (Yield.index_slice Try.underlying36 ti5 rfl rfl (by omega) (by omega)) rfl ?_
    refine OG.yield (Yield.load ti5 rfl (v := byteV v) (by simpa using (SlR.of_osl (W0 := W0) (by repeat (first | exact Ext.here | apply Ext.there))).cel (bytesV_get hget))) rfl ?_
    refine OG.yield (Yield.add rfl rfl (wrap_u8_add v 1)) rfl ?_
    refine OG.yield (Yield.index_slice Try.underlying36 ti5 rfl rfl (by omega) (by omega)) rfl ?_
    refine OG.eff (Eff.storeElem (i := i) ti5 (by simp; rfl) rfl (by repeat (first | exact Foc.here | apply Foc.there)) rfl (by omega)) rfl ?_
    rintro ⟨⟩ -
    rw [show Value.int IntKind.u8 ((v + 1).toNat : Int) = byteV (v + 1) from rfl, bytesV_set]
    refine OG.nil ?_
    refine QG.block_normal ?_
    refine QG.then ?_
    refine CG.region ?_
    refine OG.yield (Yield.move rfl) rfl ?_
    refine OG.yield (Yield.add rfl rfl (w64 (by omega) (by omega))) rfl ?_
    refine OG.yield (Yield.assign rfl) rfl ?_
    refine OG.nil ?_
    exact QG.next (i + 1, xs.set i (v + 1)) ⟨by simp only; omega, by simpa using hl⟩ (by simp only; omega) (by repeat (first | exact Env.sub_nil _ | refine Env.sub_cons rfl ?_)) (by repeat (first | exact Imp.refl _ | exact Imp.none _ | apply Imp.pull (by repeat (first | exact Ext.here | apply Ext.there)) | apply Imp.trans Imp.drop))
  · try replace hc := of_decide_eq_false hc
    refine CG.exit ?_
    refine QG.pass_exit ?_
    refine QG.pass_exit ?_
    refine QG.block_exit ?_
    exact QG.end0 rfl () trivial rfl Imp.drop
theorem submit_any {d : Nat} {s : Ds} {sector addr major : Int} :
    Ctr Try.prog W0 14 [.pointer (some ⟨d, 0, none⟩), .bool false, .int .i64 sector, .int .u32 addr, .slice none 0 0, .int .i64 major] (D d s :: Fr) (fun _ : Value × Ds => True) (fun q => q.1) (fun q => D d q.2 :: Fr) := by
  by_cases h : subE s false sector 0 major = 0
  · exact (submit_ok W0 Fr (d := d) (s := s) (write := false) (sector := sector) (addr := addr) (major := major) (da := none) (dc := 0) (data := []) (RdB.of_slR SlR.nil (Nat.le_refl _)) (by decide) h).to (fun _ => (_, subR s false sector addr [] major)) (fun _ _ => trivial) (fun _ => rfl) (fun _ => Imp.refl _)
  · exact (submit_bad W0 Fr (d := d) (s := s) (write := false) (sector := sector) (addr := addr) (major := major) (da := none) (dm := 0) (dc := 0) h).to (fun _ => (_, s)) (fun _ _ => trivial) (fun _ => rfl) (fun _ => Imp.refl _)
theorem alike_spec {d r : Nat} {s : Ds} : Ctr Try.prog W0 27 [.pointer (some ⟨d, 0, none⟩), .pointer (some ⟨r, 0, none⟩)] (D d s :: Dd r s :: Fr) (fun _ : Unit => True) (fun _ => .bool true) (fun _ => D d s :: Dd r s :: Fr) := by
  refine Ctr.pure (fun w hw => d_facts (d := d) (s := s) Ext.here w hw) fun hds => ?_
  have h4 := hds.asks
  have ht4 := hds.told
  refine Ctr.of_body Try.func27 rfl Try.ntmps27 rfl ?_
  refine CG.seq ?_
  refine CG.region ?_
  refine OG.yield (Yield.assign rfl) rfl ?_
  refine OG.nil ?_
  refine QG.then ?_
  refine CG.seq ?_
  refine CG.region ?_
  refine OG.yield (Yield.move rfl) rfl ?_
  refine OG.callo call13 rfl (Imp.refl _) (waiting_spec W0 _ (d := d) (s := s)) rfl ?_
  rintro ⟨aw, cw⟩ -
  refine OG.yield (Yield.move rfl) rfl ?_
  refine OG.callo call60 rfl ((by repeat (first | exact Imp.refl _ | exact Imp.none _ | apply Imp.pull (by repeat (first | exact Ext.here | apply Ext.there)) | apply Imp.trans Imp.drop))) (told_spec W0 _ (d := d) (s := s)) rfl ?_
  rintro ⟨at_, ct⟩ -
  refine OG.yield (Yield.assign rfl) rfl ?_
  refine OG.yield (Yield.assign rfl) rfl ?_
  refine OG.nil ?_
  refine QG.then ?_
  refine CG.seq ?_
  refine CG.region ?_
  refine OG.yield (Yield.move rfl) rfl ?_
  refine OG.yield (Yield.move rfl) rfl ?_
  refine OG.callo call62 rfl ((by repeat (first | exact Imp.refl _ | exact Imp.none _ | apply Imp.pull (by repeat (first | exact Ext.here | apply Ext.there)) | apply Imp.trans Imp.drop))) (rwaiting_spec W0 _ (d := r) (s := s)) rfl ?_
  rintro ⟨ar, cr⟩ -
  refine OG.callo call61 rfl (Imp.refl _) (sameTags_spec W0 _ (a := aw) (c := cw) (a2 := ar) (c2 := cr) (l := s.asks.map Ak.tag) (by exact SlR.of_osl (E := 35) (a := aw) (c := cw) (by repeat (first | exact Ext.here | apply Ext.there))) (by exact SlR.of_osl (E := 35) (a := ar) (c := cr) (by repeat (first | exact Ext.here | apply Ext.there))) (by rw [List.length_map]; omega)) rfl ?_
  rintro ⟨⟩ -
  refine OG.yield (Yield.move rfl) rfl ?_
  refine OG.ex (A := Dd r s) (by repeat (first | exact Ext.here | apply Ext.there)) rd_open ?_
  intro x hx
  refine OG.imp star_open ?_
  have hcl := fun G => rd_close (d := r) (G := G) x hx
  dsimp only [RO, List.cons_append, List.nil_append] at hcl ⊢
  refine OG.guard_yes rfl rfl rfl (by decide) ?_
  refine OG.yield (Yield.move rfl) rfl ?_
  refine OG.guard_yes rfl rfl rfl (by decide) ?_
  refine OG.yield (Yield.move rfl) rfl ?_
  refine OG.guard_yes rfl rfl rfl (by decide) ?_
  refine OG.yield (Yield.nilCheck rfl) rfl ?_
  refine OG.guard_yes rfl rfl rfl (by decide) ?_
  refine OG.yield (Yield.fieldAddr fa109_6 rfl) rfl ?_
  refine OG.guard_yes rfl rfl rfl (by decide) ?_
  refine OG.yield (Yield.load (v := .slice x.ta s.told.length x.tc) ti43 rfl (Cel.of_blk (b := r) (by repeat (first | exact Ext.here | apply Ext.there)) rfl)) rfl ?_
  refine OG.guard_yes rfl rfl rfl (by decide) ?_
  refine OG.callo call61 rfl (Imp.refl _) (sameTags_spec W0 _ (a := at_) (c := ct) (a2 := x.ta) (c2 := x.tc) (l := s.told) (by exact SlR.of_osl (E := 35) (a := at_) (c := ct) (by repeat (first | exact Ext.here | apply Ext.there))) (by exact SlR.of_osl (E := 35) (a := x.ta) (c := x.tc) (by repeat (first | exact Ext.here | apply Ext.there))) (by omega)) rfl ?_
  rintro ⟨⟩ -
  refine OG.yield (by first | exact Yield.pick_t rfl rfl | exact Yield.pick_f rfl rfl | exact Yield.pick rfl (fun _ => rfl) (fun _ => rfl)) rfl ?_
  refine OG.yield (Yield.assign rfl) rfl ?_
  refine OG.nil ?_
  refine QG.imp (G' := Dd r s :: onum 35 .u32 aw cw (s.asks.map Ak.tag) :: onum 35 .u32 at_ ct s.told :: D d s :: Fr) (Imp.trans (Imp.pull (A := RH r s s.last x.a x.ras.length x.c x.ta s.told.length x.tc) (by repeat (first | exact Ext.here | apply Ext.there)) (Imp.pull (A := oras x.a x.c x.ras) (by repeat (first | exact Ext.here | apply Ext.there)) (Imp.pull (A := onum 35 .u32 x.ta x.tc s.told) (by repeat (first | exact Ext.here | apply Ext.there)) (Imp.pull (A := pool x.pl) (by repeat (first | exact Ext.here | apply Ext.there)) (Imp.pull (A := onum 35 .u32 aw cw (s.asks.map Ak.tag)) (by repeat (first | exact Ext.here | apply Ext.there)) (Imp.pull (A := onum 35 .u32 at_ ct s.told) (by repeat (first | exact Ext.here | apply Ext.there)) (by repeat (first | exact Imp.refl _ | exact Imp.none _ | apply Imp.pull (by repeat (first | exact Ext.here | apply Ext.there)) | apply Imp.trans Imp.drop)))))))) (hcl _)) ?_
  clear hcl
  refine QG.then ?_
  refine CG.seq ?_
  refine CG.seq ?_
  refine CG.region ?_
  refine OG.yield (Yield.assign rfl) rfl ?_
  refine OG.nil ?_
  refine QG.then ?_
  refine CG.block ?_
  refine CG.loop (fun i : Nat => i ≤ (s.asks.map Ak.tag).length) (fun i => [(5, .slice aw (s.asks.map Ak.tag).length cw), (6, .slice at_ s.told.length ct), (7, .bool true), (8, .int .i64 i)]) (fun i => osl 35 1 aw cw (s.asks.map Ak.tag).length (intsV .u32 (nines (s.asks.map Ak.tag) i)) :: Dd r s :: onum 35 .u32 at_ ct s.told :: D d s :: Fr) (fun i => (s.asks.map Ak.tag).length - i) 0 (Nat.zero_le _) (by repeat (first | exact Env.sub_nil _ | refine Env.sub_cons rfl ?_)) (Imp.pull (A := onum 35 .u32 aw cw (s.asks.map Ak.tag)) (by repeat (first | exact Ext.here | apply Ext.there)) (by repeat (first | exact Imp.refl _ | exact Imp.none _ | apply Imp.pull (by repeat (first | exact Ext.here | apply Ext.there)) | apply Imp.trans Imp.drop))) ?_
  intro i hi
  have hnl := nines_len (s.asks.map Ak.tag) hi
  have hml : (s.asks.map Ak.tag).length ≤ 4 := by rw [List.length_map]; exact h4
  refine CG.seq ?_
  refine CG.seq ?_
  refine CG.region ?_
  refine OG.yield (Yield.move rfl) rfl ?_
  refine OG.yield (Yield.move rfl) rfl ?_
  refine OG.yield (Yield.len_slice Try.underlying43 rfl rfl) rfl ?_
  refine OG.yield (by first | exact Yield.as (Yield.lss rfl rfl) (bT (by omega)) | exact Yield.as (Yield.lss rfl rfl) (bF (by omega)) | exact Yield.lss rfl rfl) rfl ?_
  refine OG.nil ?_
  refine QG.then ?_
  refine CG.cond rfl (fun hc => ?_) (fun hc => ?_)
  · try replace hc := of_decide_eq_true hc
    have hi' : i < (s.asks.map Ak.tag).length := by omega
    refine CG.pure (fun w hw => SlR.shape (SlR.of_osl (W0 := W0) (E := 35) (a := aw) (c := cw) (by repeat (first | exact Ext.here | apply Ext.there))) (by intro q; have := congrArg List.length q; rw [intsV_len, hnl] at this; simp only [List.length_nil] at this; omega) w hw) ?_
    rintro ⟨bw, ow, rfl⟩
    refine CG.skip ?_
    refine QG.then ?_
    refine CG.seq ?_
    refine CG.block ?_
    refine CG.region ?_
    refine OG.yield (Yield.move rfl) rfl ?_
    refine OG.yield (Yield.move rfl) rfl ?_
    refine OG.yield (Yield.index_slice Try.underlying43 ti35 rfl rfl (by omega) (by omega)) rfl ?_
    refine OG.eff (Eff.storeElem (i := i) ti35 (by rw [show ow + (i : Int).toNat * 1 = ow + i by omega]; rfl) rfl (Foc.here) rfl (by omega)) rfl ?_
    rintro ⟨⟩ -
    rw [intsV_set, nines_step hi']
    refine OG.nil ?_
    refine QG.block_normal ?_
    refine QG.then ?_
    refine CG.region ?_
    refine OG.yield (Yield.move rfl) rfl ?_
    refine OG.yield (Yield.add rfl rfl (w64 (by omega) (by omega))) rfl ?_
    refine OG.yield (Yield.assign rfl) rfl ?_
    refine OG.nil ?_
    exact QG.next (i + 1) (show i + 1 ≤ (s.asks.map Ak.tag).length by omega) (show (s.asks.map Ak.tag).length - (i + 1) < (s.asks.map Ak.tag).length - i by omega) (by repeat (first | exact Env.sub_nil _ | refine Env.sub_cons rfl ?_)) (by repeat (first | exact Imp.refl _ | exact Imp.none _ | apply Imp.pull (by repeat (first | exact Ext.here | apply Ext.there)) | apply Imp.trans Imp.drop))
  · try replace hc := of_decide_eq_false hc
    refine CG.exit ?_
    refine QG.pass_exit ?_
    refine QG.pass_exit ?_
    refine QG.block_exit ?_
    refine QG.then ?_
    refine CG.seq ?_
    refine CG.seq ?_
    refine CG.region ?_
    refine OG.yield (Yield.assign rfl) rfl ?_
    refine OG.nil ?_
    refine QG.then ?_
    refine CG.block ?_
    refine CG.loop (fun j : Nat => j ≤ s.told.length) (fun j => [(6, .slice at_ s.told.length ct), (7, .bool true), (9, .int .i64 j)]) (fun j => osl 35 1 at_ ct s.told.length (intsV .u32 (nines s.told j)) :: D d s :: Dd r s :: Fr) (fun j => s.told.length - j) 0 (Nat.zero_le _) (by repeat (first | exact Env.sub_nil _ | refine Env.sub_cons rfl ?_)) (Imp.pull (A := onum 35 .u32 at_ ct s.told) (by repeat (first | exact Ext.here | apply Ext.there)) (by repeat (first | exact Imp.refl _ | exact Imp.none _ | apply Imp.pull (by repeat (first | exact Ext.here | apply Ext.there)) | apply Imp.trans Imp.drop))) ?_
    intro j hj
    have hnl2 := nines_len s.told hj
    refine CG.seq ?_
    refine CG.seq ?_
    refine CG.region ?_
    refine OG.yield (Yield.move rfl) rfl ?_
    refine OG.yield (Yield.move rfl) rfl ?_
    refine OG.yield (Yield.len_slice Try.underlying43 rfl rfl) rfl ?_
    refine OG.yield (by first | exact Yield.as (Yield.lss rfl rfl) (bT (by omega)) | exact Yield.as (Yield.lss rfl rfl) (bF (by omega)) | exact Yield.lss rfl rfl) rfl ?_
    refine OG.nil ?_
    refine QG.then ?_
    refine CG.cond rfl (fun hc => ?_) (fun hc => ?_)
    · try replace hc := of_decide_eq_true hc
      have hj' : j < s.told.length := by omega
      refine CG.pure (fun w hw => SlR.shape (SlR.of_osl (W0 := W0) (E := 35) (a := at_) (c := ct) (by repeat (first | exact Ext.here | apply Ext.there))) (by intro q; have := congrArg List.length q; rw [intsV_len, hnl2] at this; simp only [List.length_nil] at this; omega) w hw) ?_
      rintro ⟨bt, ot, rfl⟩
      refine CG.skip ?_
      refine QG.then ?_
      refine CG.seq ?_
      refine CG.block ?_
      refine CG.region ?_
      refine OG.yield (Yield.move rfl) rfl ?_
      refine OG.yield (Yield.move rfl) rfl ?_
      refine OG.yield (Yield.index_slice Try.underlying43 ti35 rfl rfl (by omega) (by omega)) rfl ?_
      refine OG.eff (Eff.storeElem (i := j) ti35 (by rw [show ot + (j : Int).toNat * 1 = ot + j by omega]; rfl) rfl (Foc.here) rfl (by omega)) rfl ?_
      rintro ⟨⟩ -
      rw [intsV_set, nines_step hj']
      refine OG.nil ?_
      refine QG.block_normal ?_
      refine QG.then ?_
      refine CG.region ?_
      refine OG.yield (Yield.move rfl) rfl ?_
      refine OG.yield (Yield.add rfl rfl (w64 (by omega) (by omega))) rfl ?_
      refine OG.yield (Yield.assign rfl) rfl ?_
      refine OG.nil ?_
      exact QG.next (j + 1) (show j + 1 ≤ s.told.length by omega) (show s.told.length - (j + 1) < s.told.length - j by omega) (by repeat (first | exact Env.sub_nil _ | refine Env.sub_cons rfl ?_)) (by repeat (first | exact Imp.refl _ | exact Imp.none _ | apply Imp.pull (by repeat (first | exact Ext.here | apply Ext.there)) | apply Imp.trans Imp.drop))
    · try replace hc := of_decide_eq_false hc
      refine CG.exit ?_
      refine QG.pass_exit ?_
      refine QG.pass_exit ?_
      refine QG.block_exit ?_
      refine QG.then ?_
      refine CG.seq ?_
      refine CG.region ?_
      refine OG.yield (Yield.move rfl) rfl ?_
      refine OG.yield (Yield.assign rfl) rfl ?_
      refine OG.nil ?_
      refine QG.then ?_
      refine CG.ret ?_
      exact QG.ret1 rfl rfl () trivial rfl (by repeat (first | exact Imp.refl _ | exact Imp.none _ | apply Imp.pull (by repeat (first | exact Ext.here | apply Ext.there)) | apply Imp.trans Imp.drop))
def VAct.rq (a : VAct) : CR := ⟨a.R_Part, a.R_Tag, a.R_Write, a.R_Sector, ⟨a.R_Dataa, a.R_Datac, a.R_Data⟩⟩
set_option maxHeartbeats 4000000 in
theorem act_spec {d r : Nat} {s : Ds} {a : VAct} (hD : RdB W0 Fr a.Dataa a.Datac a.Data) (hR : RdB W0 Fr a.R_Dataa a.R_Datac a.R_Data) (hDl : a.Data.length ≤ 140737488351232) (hRl : a.R_Data.length ≤ 140737488351232) :
    Ctr Try.prog W0 26 [.pointer (some ⟨d, 0, none⟩), .pointer (some ⟨r, 0, none⟩), .agg a.cells.toArray] (D d s :: Dd r s :: Fr) (fun _ : Ds => True) (fun _ => .bool true) (fun s' => D d s' :: Dd r s' :: Fr) := by
  refine Ctr.pure (fun w hw => d_facts (d := d) (s := s) Ext.here w hw) fun hds => ?_
  have h4 := hds.asks
  have hd64 := hds.data
  refine Ctr.of_body Try.func26 rfl Try.ntmps26 rfl ?_
  refine CG.seq ?_
  refine CG.region ?_
  refine OG.effd (Eff.box rfl) rfl ?_
  rintro b5 -
  refine OG.yield (Yield.assign rfl) rfl ?_
  refine OG.nil ?_
  refine QG.then ?_
  refine CG.seq ?_
  refine CG.seq ?_
  refine CG.region ?_
  refine OG.yield (Yield.fieldAddr fa42_0 rfl) rfl ?_
  refine OG.yield (Yield.load (v := .int .i64 a.Kind) ti3 rfl (Cel.of_blk (b := b5) (by repeat (first | exact Ext.here | apply Ext.there)) rfl)) rfl ?_
  refine OG.nil ?_
  refine QG.then ?_
  refine CG.block ?_
  refine CG.seq ?_
  refine CG.region ?_
  refine OG.yield (Yield.eql rfl rfl) rfl ?_
  refine OG.yield (Yield.assign rfl) rfl ?_
  refine OG.nil ?_
  refine QG.then ?_
  refine CG.cond rfl (fun hc => ?_) (fun hc => ?_)
  · try replace hc := of_decide_eq_true hc
    refine CG.seq ?_
    refine CG.region ?_
    refine OG.effd (Eff.lit0 Try.underlying36 ti5 rfl) rfl ?_
    rintro b25 -
    refine OG.yield (Yield.fieldAddr fa42_4 rfl) rfl ?_
    refine OG.yield (Yield.load (v := .slice a.Dataa a.Data.length a.Datac) ti36 rfl (Cel.of_blk (b := b5) (by repeat (first | exact Ext.here | apply Ext.there)) rfl)) rfl ?_
    refine OG.effd (Eff.appendB (a := some ⟨b25, 0, none⟩) (c := 0) (bs := []) (ys := a.Data) rfl rfl rfl Try.underlying36 Try.underlying36 ti5 (by decide) (by repeat (first | exact Foc.here | apply Foc.there)) (hD.imp (by repeat (first | exact Imp.refl _ | exact Imp.none _ | apply Imp.pull (by repeat (first | exact Ext.here | apply Ext.there)) | apply Imp.trans Imp.drop))).slR (by simp only [List.length_nil]; omega)) rfl ?_
    rintro ⟨a28, c28⟩ -
    rw [List.nil_append]
    refine OG.yield (Yield.assign rfl) rfl ?_
    refine OG.nil ?_
    refine QG.then ?_
    refine CG.seq ?_
    rcases Classical.em (subE s a.Write a.Sector a.Data.length a.Major = 0) with he | he
    · skip
      refine CG.region ?_
      refine OG.yield (Yield.move rfl) rfl ?_
      refine OG.yield (Yield.fieldAddr fa42_1 rfl) rfl ?_
      refine OG.yield (Yield.load (v := .bool a.Write) ti4 rfl (Cel.of_blk (b := b5) (by repeat (first | exact Ext.here | apply Ext.there)) rfl)) rfl ?_
      refine OG.yield (Yield.fieldAddr fa42_2 rfl) rfl ?_
      refine OG.yield (Yield.load (v := .int .i64 a.Sector) ti3 rfl (Cel.of_blk (b := b5) (by repeat (first | exact Ext.here | apply Ext.there)) rfl)) rfl ?_
      refine OG.yield (Yield.fieldAddr fa42_3 rfl) rfl ?_
      refine OG.yield (Yield.load (v := .int .u32 a.Addr) ti35 rfl (Cel.of_blk (b := b5) (by repeat (first | exact Ext.here | apply Ext.there)) rfl)) rfl ?_
      refine OG.yield (Yield.move rfl) rfl ?_
      refine OG.yield (Yield.fieldAddr fa42_5 rfl) rfl ?_
      refine OG.yield (Yield.load (v := .int .i64 a.Major) ti3 rfl (Cel.of_blk (b := b5) (by repeat (first | exact Ext.here | apply Ext.there)) rfl)) rfl ?_
      refine OG.callo call14 rfl ((by repeat (first | exact Imp.refl _ | exact Imp.none _ | apply Imp.pull (by repeat (first | exact Ext.here | apply Ext.there)) | apply Imp.trans Imp.drop))) (submit_ok W0 _ (d := d) (s := s) (write := a.Write) (sector := a.Sector) (addr := a.Addr) (major := a.Major) (da := a28) (dc := c28) (data := a.Data) (by exact RdB.of_osl (E := 5) (a := a28) (c := c28) (by repeat (first | exact Ext.here | apply Ext.there)) rfl rfl) (by omega) he) rfl ?_
      rintro ⟨⟩ -
      refine OG.yield (Yield.move rfl) rfl ?_
      refine OG.yield (Yield.extract rfl rfl) rfl ?_
      refine OG.yield (Yield.extract rfl rfl) rfl ?_
      refine OG.yield (Yield.assign rfl) rfl ?_
      refine OG.yield (Yield.assign rfl) rfl ?_
      refine OG.nil ?_
      refine QG.then ?_
      refine CG.seq ?_
      refine CG.region ?_
      refine OG.yield (Yield.move rfl) rfl ?_
      refine OG.yield (Yield.fieldAddr fa42_1 rfl) rfl ?_
      refine OG.yield (Yield.load (v := .bool a.Write) ti4 rfl (Cel.of_blk (b := b5) (by repeat (first | exact Ext.here | apply Ext.there)) rfl)) rfl ?_
      refine OG.yield (Yield.fieldAddr fa42_2 rfl) rfl ?_
      refine OG.yield (Yield.load (v := .int .i64 a.Sector) ti3 rfl (Cel.of_blk (b := b5) (by repeat (first | exact Ext.here | apply Ext.there)) rfl)) rfl ?_
      refine OG.yield (Yield.fieldAddr fa42_3 rfl) rfl ?_
      refine OG.yield (Yield.load (v := .int .u32 a.Addr) ti35 rfl (Cel.of_blk (b := b5) (by repeat (first | exact Ext.here | apply Ext.there)) rfl)) rfl ?_
      refine OG.yield (Yield.fieldAddr fa42_4 rfl) rfl ?_
      refine OG.yield (Yield.load (v := .slice a.Dataa a.Data.length a.Datac) ti36 rfl (Cel.of_blk (b := b5) (by repeat (first | exact Ext.here | apply Ext.there)) rfl)) rfl ?_
      refine OG.yield (Yield.fieldAddr fa42_5 rfl) rfl ?_
      refine OG.yield (Yield.load (v := .int .i64 a.Major) ti3 rfl (Cel.of_blk (b := b5) (by repeat (first | exact Ext.here | apply Ext.there)) rfl)) rfl ?_
      refine OG.callo call54 rfl ((by repeat (first | exact Imp.refl _ | exact Imp.none _ | apply Imp.pull (by repeat (first | exact Ext.here | apply Ext.there)) | apply Imp.trans Imp.drop))) (rsubmit_ok W0 _ (d := r) (s := s) (write := a.Write) (sector := a.Sector) (addr := a.Addr) (major := a.Major) (da := a.Dataa) (dc := a.Datac) (data := a.Data) (by exact hD.imp (by repeat (first | exact Imp.refl _ | exact Imp.none _ | apply Imp.pull (by repeat (first | exact Ext.here | apply Ext.there)) | apply Imp.trans Imp.drop))) (by omega) he) rfl ?_
      rintro ⟨⟩ -
      refine OG.yield (Yield.move rfl) rfl ?_
      refine OG.yield (Yield.extract rfl rfl) rfl ?_
      refine OG.yield (Yield.extract rfl rfl) rfl ?_
      refine OG.yield (Yield.assign rfl) rfl ?_
      refine OG.yield (Yield.assign rfl) rfl ?_
      refine OG.nil ?_
      refine QG.then ?_
      refine CG.seq ?_
      refine CG.region ?_
      refine OG.yield (Yield.move rfl) rfl ?_
      refine OG.yield (Yield.move rfl) rfl ?_
      refine OG.yield (Yield.as (Yield.eql rfl rfl) (bT rfl)) rfl ?_
      refine OG.yield (Yield.move rfl) rfl ?_
      refine OG.guard_yes rfl rfl rfl (by decide) ?_
      refine OG.yield (Yield.move rfl) rfl ?_
      refine OG.guard_yes rfl rfl rfl (by decide) ?_
      refine OG.yield (Yield.move rfl) rfl ?_
      refine OG.guard_yes rfl rfl rfl (by decide) ?_
      refine OG.yield (Yield.as (Yield.eql rfl rfl) (bT rfl)) rfl ?_
      refine OG.yield (by first | exact Yield.pick_t rfl rfl | exact Yield.pick_f rfl rfl | exact Yield.pick rfl (fun _ => rfl) (fun _ => rfl)) rfl ?_
      refine OG.yield (Yield.move rfl) rfl ?_
      refine OG.guard_yes rfl rfl rfl (by decide) ?_
      refine OG.yield (Yield.move rfl) rfl ?_
      refine OG.guard_yes rfl rfl rfl (by decide) ?_
      refine OG.yield (Yield.toStr (bs := a.Data) Try.underlying36 Try.underlying9 Try.underlying5 rfl (SlR.of_osl (E := 5) (a := a28) (c := c28) (by repeat (first | exact Ext.here | apply Ext.there)))) rfl ?_
      refine OG.guard_yes rfl rfl rfl (by decide) ?_
      refine OG.yield (Yield.fieldAddr fa42_4 rfl) rfl ?_
      refine OG.guard_yes rfl rfl rfl (by decide) ?_
      refine OG.yield (Yield.load (v := .slice a.Dataa a.Data.length a.Datac) ti36 rfl (Cel.of_blk (b := b5) (by repeat (first | exact Ext.here | apply Ext.there)) rfl)) rfl ?_
      refine OG.guard_yes rfl rfl rfl (by decide) ?_
      refine OG.yield (Yield.toStr (bs := a.Data) Try.underlying36 Try.underlying9 Try.underlying5 rfl (hD.imp (by repeat (first | exact Imp.refl _ | exact Imp.none _ | apply Imp.pull (by repeat (first | exact Ext.here | apply Ext.there)) | apply Imp.trans Imp.drop))).slR) rfl ?_
      refine OG.guard_yes rfl rfl rfl (by decide) ?_
      refine OG.yield (Yield.as (Yield.str_eql rfl rfl) (v' := .bool true) (by simp)) rfl ?_
      refine OG.yield (by first | exact Yield.pick_t rfl rfl | exact Yield.pick_f rfl rfl | exact Yield.pick rfl (fun _ => rfl) (fun _ => rfl)) rfl ?_
      refine OG.yield (Yield.assign rfl) rfl ?_
      refine OG.nil ?_
      refine QG.then ?_
      refine CG.seq ?_
      refine CG.region ?_
      refine OG.yield (Yield.move rfl) rfl ?_
      refine OG.callo call55 rfl ((by repeat (first | exact Imp.refl _ | exact Imp.none _ | apply Imp.pull (by repeat (first | exact Ext.here | apply Ext.there)) | apply Imp.trans Imp.drop))) (spoil_spec W0 _ (m := ⟨a28, c28, a.Data⟩) (by show a.Data.length ≤ _; omega)) rfl ?_
      rintro ⟨⟩ -
      refine OG.nil ?_
      refine QG.then ?_
      refine CG.seq ?_
      refine CG.region ?_
      refine OG.yield (Yield.move rfl) rfl ?_
      refine OG.yield (Yield.assign rfl) rfl ?_
      refine OG.nil ?_
      refine QG.then ?_
      refine CG.ret ?_
      refine QG.block_ret ?_
      refine QG.pass_ret ?_
      exact QG.ret1 rfl rfl (subR s a.Write a.Sector a.Addr a.Data a.Major) trivial rfl (by repeat (first | exact Imp.refl _ | exact Imp.none _ | apply Imp.pull (by repeat (first | exact Ext.here | apply Ext.there)) | apply Imp.trans Imp.drop))
    · skip
      refine CG.region ?_
      refine OG.yield (Yield.move rfl) rfl ?_
      refine OG.yield (Yield.fieldAddr fa42_1 rfl) rfl ?_
      refine OG.yield (Yield.load (v := .bool a.Write) ti4 rfl (Cel.of_blk (b := b5) (by repeat (first | exact Ext.here | apply Ext.there)) rfl)) rfl ?_
      refine OG.yield (Yield.fieldAddr fa42_2 rfl) rfl ?_
      refine OG.yield (Yield.load (v := .int .i64 a.Sector) ti3 rfl (Cel.of_blk (b := b5) (by repeat (first | exact Ext.here | apply Ext.there)) rfl)) rfl ?_
      refine OG.yield (Yield.fieldAddr fa42_3 rfl) rfl ?_
      refine OG.yield (Yield.load (v := .int .u32 a.Addr) ti35 rfl (Cel.of_blk (b := b5) (by repeat (first | exact Ext.here | apply Ext.there)) rfl)) rfl ?_
      refine OG.yield (Yield.move rfl) rfl ?_
      refine OG.yield (Yield.fieldAddr fa42_5 rfl) rfl ?_
      refine OG.yield (Yield.load (v := .int .i64 a.Major) ti3 rfl (Cel.of_blk (b := b5) (by repeat (first | exact Ext.here | apply Ext.there)) rfl)) rfl ?_
      refine OG.callo call14 rfl ((by repeat (first | exact Imp.refl _ | exact Imp.none _ | apply Imp.pull (by repeat (first | exact Ext.here | apply Ext.there)) | apply Imp.trans Imp.drop))) (submit_bad W0 _ (d := d) (s := s) (write := a.Write) (sector := a.Sector) (addr := a.Addr) (major := a.Major) (da := a28) (dm := a.Data.length) (dc := c28) he) rfl ?_
      rintro ⟨⟩ -
      refine OG.yield (Yield.move rfl) rfl ?_
      refine OG.yield (Yield.extract rfl rfl) rfl ?_
      refine OG.yield (Yield.extract rfl rfl) rfl ?_
      refine OG.yield (Yield.assign rfl) rfl ?_
      refine OG.yield (Yield.assign rfl) rfl ?_
      refine OG.nil ?_
      refine QG.then ?_
      refine CG.seq ?_
      refine CG.region ?_
      refine OG.yield (Yield.move rfl) rfl ?_
      refine OG.yield (Yield.fieldAddr fa42_1 rfl) rfl ?_
      refine OG.yield (Yield.load (v := .bool a.Write) ti4 rfl (Cel.of_blk (b := b5) (by repeat (first | exact Ext.here | apply Ext.there)) rfl)) rfl ?_
      refine OG.yield (Yield.fieldAddr fa42_2 rfl) rfl ?_
      refine OG.yield (Yield.load (v := .int .i64 a.Sector) ti3 rfl (Cel.of_blk (b := b5) (by repeat (first | exact Ext.here | apply Ext.there)) rfl)) rfl ?_
      refine OG.yield (Yield.fieldAddr fa42_3 rfl) rfl ?_
      refine OG.yield (Yield.load (v := .int .u32 a.Addr) ti35 rfl (Cel.of_blk (b := b5) (by repeat (first | exact Ext.here | apply Ext.there)) rfl)) rfl ?_
      refine OG.yield (Yield.fieldAddr fa42_4 rfl) rfl ?_
      refine OG.yield (Yield.load (v := .slice a.Dataa a.Data.length a.Datac) ti36 rfl (Cel.of_blk (b := b5) (by repeat (first | exact Ext.here | apply Ext.there)) rfl)) rfl ?_
      refine OG.yield (Yield.fieldAddr fa42_5 rfl) rfl ?_
      refine OG.yield (Yield.load (v := .int .i64 a.Major) ti3 rfl (Cel.of_blk (b := b5) (by repeat (first | exact Ext.here | apply Ext.there)) rfl)) rfl ?_
      refine OG.callo call54 rfl ((by repeat (first | exact Imp.refl _ | exact Imp.none _ | apply Imp.pull (by repeat (first | exact Ext.here | apply Ext.there)) | apply Imp.trans Imp.drop))) (rsubmit_bad W0 _ (d := r) (s := s) (write := a.Write) (sector := a.Sector) (addr := a.Addr) (major := a.Major) (da := a.Dataa) (dm := a.Data.length) (dc := a.Datac) he) rfl ?_
      rintro ⟨⟩ -
      refine OG.yield (Yield.move rfl) rfl ?_
      refine OG.yield (Yield.extract rfl rfl) rfl ?_
      refine OG.yield (Yield.extract rfl rfl) rfl ?_
      refine OG.yield (Yield.assign rfl) rfl ?_
      refine OG.yield (Yield.assign rfl) rfl ?_
      refine OG.nil ?_
      refine QG.then ?_
      refine CG.seq ?_
      refine CG.region ?_
      refine OG.yield (Yield.move rfl) rfl ?_
      refine OG.yield (Yield.move rfl) rfl ?_
      refine OG.yield (Yield.as (Yield.eql rfl rfl) (bT rfl)) rfl ?_
      refine OG.yield (Yield.move rfl) rfl ?_
      refine OG.guard_yes rfl rfl rfl (by decide) ?_
      refine OG.yield (Yield.move rfl) rfl ?_
      refine OG.guard_yes rfl rfl rfl (by decide) ?_
      refine OG.yield (Yield.move rfl) rfl ?_
      refine OG.guard_yes rfl rfl rfl (by decide) ?_
      refine OG.yield (Yield.as (Yield.eql rfl rfl) (bT rfl)) rfl ?_
      refine OG.yield (by first | exact Yield.pick_t rfl rfl | exact Yield.pick_f rfl rfl | exact Yield.pick rfl (fun _ => rfl) (fun _ => rfl)) rfl ?_
      refine OG.yield (Yield.move rfl) rfl ?_
      refine OG.guard_yes rfl rfl rfl (by decide) ?_
      refine OG.yield (Yield.move rfl) rfl ?_
      refine OG.guard_yes rfl rfl rfl (by decide) ?_
      refine OG.yield (Yield.toStr (bs := a.Data) Try.underlying36 Try.underlying9 Try.underlying5 rfl (SlR.of_osl (E := 5) (a := a28) (c := c28) (by repeat (first | exact Ext.here | apply Ext.there)))) rfl ?_
      refine OG.guard_yes rfl rfl rfl (by decide) ?_
      refine OG.yield (Yield.fieldAddr fa42_4 rfl) rfl ?_
      refine OG.guard_yes rfl rfl rfl (by decide) ?_
      refine OG.yield (Yield.load (v := .slice a.Dataa a.Data.length a.Datac) ti36 rfl (Cel.of_blk (b := b5) (by repeat (first | exact Ext.here | apply Ext.there)) rfl)) rfl ?_
      refine OG.guard_yes rfl rfl rfl (by decide) ?_
      refine OG.yield (Yield.toStr (bs := a.Data) Try.underlying36 Try.underlying9 Try.underlying5 rfl (hD.imp (by repeat (first | exact Imp.refl _ | exact Imp.none _ | apply Imp.pull (by repeat (first | exact Ext.here | apply Ext.there)) | apply Imp.trans Imp.drop))).slR) rfl ?_
      refine OG.guard_yes rfl rfl rfl (by decide) ?_
      refine OG.yield (Yield.as (Yield.str_eql rfl rfl) (v' := .bool true) (by simp)) rfl ?_
      refine OG.yield (by first | exact Yield.pick_t rfl rfl | exact Yield.pick_f rfl rfl | exact Yield.pick rfl (fun _ => rfl) (fun _ => rfl)) rfl ?_
      refine OG.yield (Yield.assign rfl) rfl ?_
      refine OG.nil ?_
      refine QG.then ?_
      refine CG.seq ?_
      refine CG.region ?_
      refine OG.yield (Yield.move rfl) rfl ?_
      refine OG.callo call55 rfl ((by repeat (first | exact Imp.refl _ | exact Imp.none _ | apply Imp.pull (by repeat (first | exact Ext.here | apply Ext.there)) | apply Imp.trans Imp.drop))) (spoil_spec W0 _ (m := ⟨a28, c28, a.Data⟩) (by show a.Data.length ≤ _; omega)) rfl ?_
      rintro ⟨⟩ -
      refine OG.nil ?_
      refine QG.then ?_
      refine CG.seq ?_
      refine CG.region ?_
      refine OG.yield (Yield.move rfl) rfl ?_
      refine OG.yield (Yield.assign rfl) rfl ?_
      refine OG.nil ?_
      refine QG.then ?_
      refine CG.ret ?_
      refine QG.block_ret ?_
      refine QG.pass_ret ?_
      exact QG.ret1 rfl rfl s trivial rfl (by repeat (first | exact Imp.refl _ | exact Imp.none _ | apply Imp.pull (by repeat (first | exact Ext.here | apply Ext.there)) | apply Imp.trans Imp.drop))
  · try replace hc := of_decide_eq_false hc
    refine CG.seq ?_
    refine CG.region ?_
    refine OG.yield (Yield.eql rfl rfl) rfl ?_
    refine OG.yield (Yield.assign rfl) rfl ?_
    refine OG.nil ?_
    refine QG.then ?_
    refine CG.cond rfl (fun hc => ?_) (fun hc => ?_)
    · try replace hc := of_decide_eq_true hc
      refine CG.seq ?_
      refine CG.region ?_
      refine OG.yield (Yield.move rfl) rfl ?_
      refine OG.callo call15 rfl ((by repeat (first | exact Imp.refl _ | exact Imp.none _ | apply Imp.pull (by repeat (first | exact Ext.here | apply Ext.there)) | apply Imp.trans Imp.drop))) (issue_spec W0 _ (d := d) (s := s)) rfl ?_
      rintro ⟨l, la, lc⟩ hl
      dsimp only at hl
      dsimp only [Rqs.G, List.cons_append, List.nil_append]
      have hll : l.length ≤ 4 := by have := congrArg List.length hl; unfold issR at this; simp only [List.length_map] at this; rw [this]; exact Nat.le_trans (List.length_filter_le _ _) h4
      have hlm : ∀ m ∈ l.map CR.m, m.b.length ≤ 64 := fun m hm => by
        rw [List.mem_map] at hm
        obtain ⟨c, hc, rfl⟩ := hm
        have h9 : c.abs ∈ issR s := by rw [← hl]; exact List.mem_map_of_mem hc
        unfold issR at h9
        rw [List.mem_map] at h9
        obtain ⟨q, hq, hqe⟩ := h9
        have h8 : q.data = c.m.b := congrArg Rq.data hqe
        rw [← h8]; exact hd64 q (List.mem_filter.1 hq).1
      refine OG.yield (Yield.assign rfl) rfl ?_
      refine OG.nil ?_
      refine QG.then ?_
      refine CG.seq ?_
      refine CG.region ?_
      refine OG.yield (Yield.move rfl) rfl ?_
      refine OG.yield (Yield.move rfl) rfl ?_
      refine OG.callo call56 rfl ((by repeat (first | exact Imp.refl _ | exact Imp.none _ | apply Imp.pull (by repeat (first | exact Ext.here | apply Ext.there)) | apply Imp.trans Imp.drop))) (rissue_spec W0 _ (d := r) (s := s)) rfl ?_
      rintro ⟨l2, l2a, l2c⟩ hl2
      dsimp only at hl2
      dsimp only [Rqs.G, List.cons_append, List.nil_append]
      refine OG.callo call23 rfl (Imp.refl _) (sameAll_spec W0 _ (x := ⟨l, la, lc⟩) (y := ⟨l2, l2a, l2c⟩) (by exact SlR.of_osl (E := 40) (a := la) (c := lc) (by repeat (first | exact Ext.here | apply Ext.there))) (by exact SlR.of_osl (E := 40) (a := l2a) (c := l2c) (by repeat (first | exact Ext.here | apply Ext.there))) (by intro m hm; exact pool_rd (ms := Rqs.ms ⟨l, la, lc⟩) (by repeat (first | exact Ext.here | apply Ext.there)) hm) (by intro m hm; exact pool_rd (ms := Rqs.ms ⟨l2, l2a, l2c⟩) (by repeat (first | exact Ext.here | apply Ext.there)) hm) (hl.trans hl2.symm) (by dsimp only; omega)) rfl ?_
      rintro ⟨⟩ -
      refine OG.yield (Yield.assign rfl) rfl ?_
      refine OG.nil ?_
      refine QG.then ?_
      refine CG.seq ?_
      refine CG.seq ?_
      refine CG.region ?_
      refine OG.yield (Yield.assign rfl) rfl ?_
      refine OG.nil ?_
      refine QG.then ?_
      refine CG.block ?_
      refine CG.loop (fun i : Nat => i ≤ l.length) (fun i => [(13, .slice la l.length lc), (14, .bool true), (15, .int .i64 i)]) (fun i => oreqs la lc l :: pool ((l.map CR.m).drop i) :: D d (issS s) :: Dd r (issS s) :: Fr) (fun i => l.length - i) 0 (Nat.zero_le _) (by repeat (first | exact Env.sub_nil _ | refine Env.sub_cons rfl ?_)) (Imp.pull (A := oreqs la lc l) (by repeat (first | exact Ext.here | apply Ext.there)) (Imp.pull (A := pool (Rqs.ms ⟨l, la, lc⟩)) (by repeat (first | exact Ext.here | apply Ext.there)) (by repeat (first | exact Imp.refl _ | exact Imp.none _ | apply Imp.pull (by repeat (first | exact Ext.here | apply Ext.there)) | apply Imp.trans Imp.drop)))) ?_
      intro i hi
      refine CG.seq ?_
      refine CG.seq ?_
      refine CG.region ?_
      refine OG.yield (Yield.move rfl) rfl ?_
      refine OG.yield (Yield.move rfl) rfl ?_
      refine OG.yield (Yield.len_slice Try.underlying32 rfl rfl) rfl ?_
      refine OG.yield (by first | exact Yield.as (Yield.lss rfl rfl) (bT (by omega)) | exact Yield.as (Yield.lss rfl rfl) (bF (by omega)) | exact Yield.lss rfl rfl) rfl ?_
      refine OG.nil ?_
      refine QG.then ?_
      refine CG.cond rfl (fun hc => ?_) (fun hc => ?_)
      · try replace hc := of_decide_eq_true hc
        have hi' : i < l.length := by omega
        have hget : l[i]? = some l[i] := by simp [hi']
        generalize l[i] = cr at hget
        have hgm : (l.map CR.m)[i]? = some cr.m := by rw [List.getElem?_map, hget]; rfl
        have hcl := hlm cr.m (List.mem_of_getElem? hgm)
        refine CG.pure (fun w hw => SlR.elem_shape (i := i) (SlR.of_osl (W0 := W0) (E := 40) (a := la) (c := lc) (by repeat (first | exact Ext.here | apply Ext.there))) CR.len (by decide) hi' w hw) ?_
        rintro ⟨bl, ol, rfl⟩
        rw [drop_cons hgm]
        refine CG.skip ?_
        refine QG.then ?_
        refine CG.seq ?_
        refine CG.block ?_
        refine CG.region ?_
        refine OG.yield (Yield.move rfl) rfl ?_
        refine OG.yield (Yield.move rfl) rfl ?_
        refine OG.yield (Yield.index_slice Try.underlying32 ti40 rfl rfl (by omega) (by omega)) rfl ?_
        refine OG.yield (Yield.fieldAddr fa40_4 rfl) rfl ?_
        refine OG.yield (Yield.load (v := cr.m.cell) ti36 rfl (by rw [show ol + (i : Int).toNat * 5 = ol + i * 5 by omega]; exact (SlR.elem (SlR.of_osl (E := 40) (a := some ⟨bl, ol, none⟩) (c := lc) (by repeat (first | exact Ext.here | apply Ext.there))) CR.len hget) 4 _ rfl)) rfl ?_
        refine OG.callo call55 rfl (Imp.trans (Imp.pull (A := pool (cr.m :: (l.map CR.m).drop (i + 1))) (by repeat (first | exact Ext.here | apply Ext.there)) (Imp.refl _)) pool_head) (spoil_spec W0 _ (m := cr.m) (by omega)) rfl ?_
        rintro ⟨⟩ -
        refine OG.nil ?_
        refine QG.block_normal ?_
        refine QG.then ?_
        refine CG.region ?_
        refine OG.yield (Yield.move rfl) rfl ?_
        refine OG.yield (Yield.add rfl rfl (w64 (by omega) (by omega))) rfl ?_
        refine OG.yield (Yield.assign rfl) rfl ?_
        refine OG.nil ?_
        exact QG.next (i + 1) (show i + 1 ≤ l.length by omega) (show l.length - (i + 1) < l.length - i by omega) (by repeat (first | exact Env.sub_nil _ | refine Env.sub_cons rfl ?_)) (Imp.pull (by repeat (first | exact Ext.here | apply Ext.there)) (Imp.pull (A := pool ((l.map CR.m).drop (i + 1))) (by repeat (first | exact Ext.here | apply Ext.there)) (by repeat (first | exact Imp.refl _ | exact Imp.none _ | apply Imp.pull (by repeat (first | exact Ext.here | apply Ext.there)) | apply Imp.trans Imp.drop))))
      · try replace hc := of_decide_eq_false hc
        refine CG.exit ?_
        refine QG.pass_exit ?_
        refine QG.pass_exit ?_
        refine QG.block_exit ?_
        refine QG.then ?_
        refine CG.seq ?_
        refine CG.region ?_
        refine OG.yield (Yield.move rfl) rfl ?_
        refine OG.yield (Yield.assign rfl) rfl ?_
        refine OG.nil ?_
        refine QG.then ?_
        refine CG.ret ?_
        refine QG.block_ret ?_
        refine QG.pass_ret ?_
        exact QG.ret1 rfl rfl (issS s) trivial rfl (by repeat (first | exact Imp.refl _ | exact Imp.none _ | apply Imp.pull (by repeat (first | exact Ext.here | apply Ext.there)) | apply Imp.trans Imp.drop))
    · try replace hc := of_decide_eq_false hc
      refine CG.seq ?_
      refine CG.region ?_
      refine OG.yield (Yield.eql rfl rfl) rfl ?_
      refine OG.yield (Yield.assign rfl) rfl ?_
      refine OG.nil ?_
      refine QG.then ?_
      refine CG.cond rfl (fun hc => ?_) (fun hc => ?_)
      · try replace hc := of_decide_eq_true hc
        refine CG.seq ?_
        refine CG.region ?_
        refine OG.yield (Yield.fieldAddr fa42_6 rfl) rfl ?_
        refine OG.yield (Yield.load_agg (vs := a.rq.cells) ti40 rfl (CR.len _) (Row.of_blk (b := b5) (by repeat (first | exact Ext.here | apply Ext.there)) rfl)) rfl ?_
        refine OG.callo call29 rfl (Imp.refl _) (copy_spec W0 _ (x := a.rq) (by exact hR.imp (by repeat (first | exact Imp.refl _ | exact Imp.none _ | apply Imp.pull (by repeat (first | exact Ext.here | apply Ext.there)) | apply Imp.trans Imp.drop))) (by show a.R_Data.length ≤ _; omega)) rfl ?_
        rintro m hm
        refine OG.effd (Eff.alloc ti40) rfl ?_
        rintro b16 -
        refine OG.eff (Eff.storeAll ti40 rfl rfl (by repeat (first | exact Foc.here | apply Foc.there)) (CR.len { a.rq with m := m }) (CR.ones _) rfl) rfl ?_
        rintro ⟨⟩ -
        refine OG.nil ?_
        refine QG.then ?_
        refine CG.seq ?_
        refine CG.draw (.look 0 1 (.look 1 1 (.look 3 0 (.look 4 0 (.look 5 0 (.eff1 2 false (.eff1 6 false (.look 7 1 (.look 8 1 (.look 9 1 (.look 10 1 (.look 11 1 (.eff1 12 false (.look 13 1 (.look 14 1 (.done)))))))))))))))) [2, 6, 12] [] ([blk b5 a.cells 42]) ([]) mixed (by kernel_rfl) ((by repeat (first | exact Imp.refl _ | exact Imp.none _ | apply Imp.pull (by repeat (first | exact Ext.here | apply Ext.there)) | apply Imp.trans Imp.drop))) (Imp.none _) ?_
        refine DG.look rfl rfl (Yield.move rfl) rfl ?_
        refine DG.look rfl rfl (Yield.load_agg (vs := CR.cells { a.rq with m := m }) ti40 rfl (CR.len _) (Row.of_blk (b := b16) (by repeat (first | exact Ext.here | apply Ext.there)) rfl)) rfl ?_
        refine DG.look rfl rfl (Yield.move rfl) rfl ?_
        refine DG.look rfl rfl (Yield.fieldAddr fa42_6 rfl) rfl ?_
        refine DG.look rfl rfl (Yield.load_agg (vs := a.rq.cells) ti40 rfl (CR.len _) (Row.of_blk (b := b5) (by repeat (first | exact Ext.here | apply Ext.there)) rfl)) rfl ?_
        refine DG.eff1 ?_
        refine Chg.callo rfl rfl call16 rfl ((by repeat (first | exact Imp.refl _ | exact Imp.none _ | apply Imp.pull (by repeat (first | exact Ext.here | apply Ext.there)) | apply Imp.trans Imp.drop))) (complete_spec W0 _ (d := d) (s := s) (r := { a.rq with m := m }) (by exact RdB.of_osl (E := 5) (a := m.a) (c := m.c) (by repeat (first | exact Ext.here | apply Ext.there)) rfl rfl) (by show m.b.length ≤ _; rw [hm]; show a.R_Data.length ≤ _; omega)) rfl (fun _ => (by repeat (first | exact Imp.refl _ | exact Imp.none _ | apply Imp.pull (by repeat (first | exact Ext.here | apply Ext.there)) | apply Imp.trans Imp.drop))) (fun _ => Imp.refl _) (fun _ => (by repeat (first | exact Imp.refl _ | exact Imp.none _ | apply Imp.pull (by repeat (first | exact Ext.here | apply Ext.there)) | apply Imp.trans Imp.drop))) ?_
        rintro ⟨⟩ -
        refine DG.eff1 ?_
        refine Chg.callo rfl rfl call57 rfl ((by repeat (first | exact Imp.refl _ | exact Imp.none _ | apply Imp.pull (by repeat (first | exact Ext.here | apply Ext.there)) | apply Imp.trans Imp.drop))) (rcomplete_spec W0 _ (d := r) (s := s) (r := a.rq) (by exact hR.imp (by repeat (first | exact Imp.refl _ | exact Imp.none _ | apply Imp.pull (by repeat (first | exact Ext.here | apply Ext.there)) | apply Imp.trans Imp.drop))) (by show a.R_Data.length ≤ _; omega)) rfl (fun _ => (by repeat (first | exact Imp.refl _ | exact Imp.none _ | apply Imp.pull (by repeat (first | exact Ext.here | apply Ext.there)) | apply Imp.trans Imp.drop))) (fun _ => Imp.refl _) (fun _ => (by repeat (first | exact Imp.refl _ | exact Imp.none _ | apply Imp.pull (by repeat (first | exact Ext.here | apply Ext.there)) | apply Imp.trans Imp.drop))) ?_
        rintro ⟨⟩ -
        refine DG.look rfl rfl (Yield.as (Yield.eql rfl rfl) (bT (by dsimp only; rw [hm]))) rfl ?_
        refine DG.look rfl rfl (Yield.move rfl) rfl ?_
        refine DG.look rfl rfl (Yield.load_agg (vs := CR.cells { a.rq with m := m }) ti40 rfl (CR.len _) (Row.of_blk (b := b16) (by repeat (first | exact Ext.here | apply Ext.there)) rfl)) rfl ?_
        refine DG.look rfl rfl (Yield.fieldAddr fa42_6 rfl) rfl ?_
        refine DG.look rfl rfl (Yield.load_agg (vs := a.rq.cells) ti40 rfl (CR.len _) (Row.of_blk (b := b5) (by repeat (first | exact Ext.here | apply Ext.there)) rfl)) rfl ?_
        refine DG.eff1 ?_
        refine Chg.callo rfl rfl call31 rfl (Imp.refl _) (same_spec W0 _ (x := { a.rq with m := m }) (y := a.rq) (by exact RdB.of_osl (E := 5) (a := m.a) (c := m.c) (by repeat (first | exact Ext.here | apply Ext.there)) rfl rfl) (by exact hR.imp (by repeat (first | exact Imp.refl _ | exact Imp.none _ | apply Imp.pull (by repeat (first | exact Ext.here | apply Ext.there)) | apply Imp.trans Imp.drop))) (by unfold CR.abs; dsimp only; rw [hm])) rfl (fun _ => (by repeat (first | exact Imp.refl _ | exact Imp.none _ | apply Imp.pull (by repeat (first | exact Ext.here | apply Ext.there)) | apply Imp.trans Imp.drop))) (fun _ => Imp.refl _) (fun _ => (by repeat (first | exact Imp.refl _ | exact Imp.none _ | apply Imp.pull (by repeat (first | exact Ext.here | apply Ext.there)) | apply Imp.trans Imp.drop))) ?_
        rintro ⟨⟩ -
        refine DG.look rfl rfl (by first | exact Yield.pick_t rfl rfl | exact Yield.pick_f rfl rfl | exact Yield.pick rfl (fun _ => rfl) (fun _ => rfl)) rfl ?_
        refine DG.look rfl rfl (Yield.assign rfl) rfl ?_
        refine DG.done ?_
        refine QG.then ?_
        refine CG.seq ?_
        refine CG.region ?_
        refine OG.yield (Yield.fieldAddr fa40_4 rfl) rfl ?_
        refine OG.yield (Yield.load (v := m.cell) ti36 rfl (Cel.of_blk (b := b16) (by repeat (first | exact Ext.here | apply Ext.there)) rfl)) rfl ?_
        refine OG.callo call55 rfl ((by repeat (first | exact Imp.refl _ | exact Imp.none _ | apply Imp.pull (by repeat (first | exact Ext.here | apply Ext.there)) | apply Imp.trans Imp.drop))) (spoil_spec W0 _ (m := m) (by rw [hm]; show a.R_Data.length ≤ _; omega)) rfl ?_
        rintro ⟨⟩ -
        refine OG.nil ?_
        refine QG.then ?_
        refine CG.seq ?_
        refine CG.region ?_
        refine OG.yield (Yield.move rfl) rfl ?_
        refine OG.yield (Yield.assign rfl) rfl ?_
        refine OG.nil ?_
        refine QG.then ?_
        refine CG.ret ?_
        refine QG.block_ret ?_
        refine QG.pass_ret ?_
        refine QG.ret1 rfl rfl (comR s a.R_Tag a.R_Data).2 trivial rfl ?_
        dsimp only
        rw [hm]
        exact (by repeat (first | exact Imp.refl _ | exact Imp.none _ | apply Imp.pull (by repeat (first | exact Ext.here | apply Ext.there)) | apply Imp.trans Imp.drop))
      · try replace hc := of_decide_eq_false hc
        refine CG.seq ?_
        refine CG.region ?_
        refine OG.yield (Yield.eql rfl rfl) rfl ?_
        refine OG.yield (Yield.assign rfl) rfl ?_
        refine OG.nil ?_
        refine QG.then ?_
        refine CG.cond rfl (fun hc => ?_) (fun hc => ?_)
        · try replace hc := of_decide_eq_true hc
          refine CG.seq ?_
          refine CG.region ?_
          refine OG.yield (Yield.move rfl) rfl ?_
          refine OG.yield (Yield.fieldAddr fa42_5 rfl) rfl ?_
          refine OG.yield (Yield.load (v := .int .i64 a.Major) ti3 rfl (Cel.of_blk (b := b5) (by repeat (first | exact Ext.here | apply Ext.there)) rfl)) rfl ?_
          refine OG.callo call12 rfl ((by repeat (first | exact Imp.refl _ | exact Imp.none _ | apply Imp.pull (by repeat (first | exact Ext.here | apply Ext.there)) | apply Imp.trans Imp.drop))) (ready_spec W0 _ (d := d) (s := s) a.Major) rfl ?_
          rintro ⟨l, la, lc⟩ hl
          dsimp only at hl
          dsimp only [Dns.G, List.cons_append, List.nil_append]
          have hll : l.length ≤ 4 := by have := congrArg List.length hl; unfold rdyL at this; simp only [List.length_map] at this; rw [this]; exact Nat.le_trans (List.length_filter_le _ _) h4
          have hlm : ∀ m ∈ l.map CD.m, m.b.length ≤ 64 := fun m hm => by
            rw [List.mem_map] at hm
            obtain ⟨c, hc, rfl⟩ := hm
            have h9 : c.abs ∈ rdyL s a.Major := by rw [← hl]; exact List.mem_map_of_mem hc
            unfold rdyL at h9
            rw [List.mem_map] at h9
            obtain ⟨q, hq, hqe⟩ := h9
            have h8 : (done q).data = c.m.b := congrArg Dn.data hqe
            rw [← h8]
            have h7 := hd64 q (List.mem_filter.1 hq).1
            unfold done; dsimp only; split; exact Nat.zero_le _; exact h7
          refine OG.yield (Yield.assign rfl) rfl ?_
          refine OG.nil ?_
          refine QG.then ?_
          refine CG.seq ?_
          refine CG.region ?_
          refine OG.yield (Yield.move rfl) rfl ?_
          refine OG.yield (Yield.move rfl) rfl ?_
          refine OG.yield (Yield.fieldAddr fa42_5 rfl) rfl ?_
          refine OG.yield (Yield.load (v := .int .i64 a.Major) ti3 rfl (Cel.of_blk (b := b5) (by repeat (first | exact Ext.here | apply Ext.there)) rfl)) rfl ?_
          refine OG.callo call59 rfl ((by repeat (first | exact Imp.refl _ | exact Imp.none _ | apply Imp.pull (by repeat (first | exact Ext.here | apply Ext.there)) | apply Imp.trans Imp.drop))) (rready_spec W0 _ (d := r) (s := s) a.Major) rfl ?_
          rintro ⟨l2, l2a, l2c⟩ hl2
          dsimp only at hl2
          dsimp only [Dns.RG, List.cons_append, List.nil_append]
          refine OG.callo call58 rfl (Imp.refl _) (sameDone_spec W0 _ (x := ⟨l, la, lc⟩) (y := ⟨l2, l2a, l2c⟩) (by exact SlR.of_osl (E := 38) (a := la) (c := lc) (by repeat (first | exact Ext.here | apply Ext.there))) (by exact SlR.of_osl (E := 129) (a := l2a) (c := l2c) (by repeat (first | exact Ext.here | apply Ext.there))) (by intro m hm; exact pool_rd (ms := Dns.ms ⟨l, la, lc⟩) (by repeat (first | exact Ext.here | apply Ext.there)) hm) (by intro m hm; exact pool_rd (ms := Dns.ms ⟨l2, l2a, l2c⟩) (by repeat (first | exact Ext.here | apply Ext.there)) hm) (hl.trans hl2.symm) (by dsimp only; omega)) rfl ?_
          rintro ⟨⟩ -
          refine OG.yield (Yield.assign rfl) rfl ?_
          refine OG.nil ?_
          refine QG.then ?_
          refine CG.seq ?_
          refine CG.seq ?_
          refine CG.region ?_
          refine OG.yield (Yield.assign rfl) rfl ?_
          refine OG.nil ?_
          refine QG.then ?_
          refine CG.block ?_
          refine CG.loop (fun i : Nat => i ≤ l.length) (fun i => [(18, .slice la l.length lc), (19, .bool true), (20, .int .i64 i)]) (fun i => odone la lc l :: pool ((l.map CD.m).drop i) :: D d (rdyS s a.Major) :: Dd r (rdyS s a.Major) :: Fr) (fun i => l.length - i) 0 (Nat.zero_le _) (by repeat (first | exact Env.sub_nil _ | refine Env.sub_cons rfl ?_)) (Imp.pull (A := odone la lc l) (by repeat (first | exact Ext.here | apply Ext.there)) (Imp.pull (A := pool (Dns.ms ⟨l, la, lc⟩)) (by repeat (first | exact Ext.here | apply Ext.there)) (by repeat (first | exact Imp.refl _ | exact Imp.none _ | apply Imp.pull (by repeat (first | exact Ext.here | apply Ext.there)) | apply Imp.trans Imp.drop)))) ?_
          intro i hi
          refine CG.seq ?_
          refine CG.seq ?_
          refine CG.region ?_
          refine OG.yield (Yield.move rfl) rfl ?_
          refine OG.yield (Yield.move rfl) rfl ?_
          refine OG.yield (Yield.len_slice Try.underlying33 rfl rfl) rfl ?_
          refine OG.yield (by first | exact Yield.as (Yield.lss rfl rfl) (bT (by omega)) | exact Yield.as (Yield.lss rfl rfl) (bF (by omega)) | exact Yield.lss rfl rfl) rfl ?_
          refine OG.nil ?_
          refine QG.then ?_
          refine CG.cond rfl (fun hc => ?_) (fun hc => ?_)
          · try replace hc := of_decide_eq_true hc
            have hi' : i < l.length := by omega
            have hget : l[i]? = some l[i] := by simp [hi']
            generalize l[i] = cr at hget
            have hgm : (l.map CD.m)[i]? = some cr.m := by rw [List.getElem?_map, hget]; rfl
            have hcl := hlm cr.m (List.mem_of_getElem? hgm)
            refine CG.pure (fun w hw => SlR.elem_shape (i := i) (SlR.of_osl (W0 := W0) (E := 38) (a := la) (c := lc) (by repeat (first | exact Ext.here | apply Ext.there))) CD.len (by decide) hi' w hw) ?_
            rintro ⟨bl, ol, rfl⟩
            rw [drop_cons hgm]
            refine CG.skip ?_
            refine QG.then ?_
            refine CG.seq ?_
            refine CG.block ?_
            refine CG.region ?_
            refine OG.yield (Yield.move rfl) rfl ?_
            refine OG.yield (Yield.move rfl) rfl ?_
            refine OG.yield (Yield.index_slice Try.underlying33 ti38 rfl rfl (by omega) (by omega)) rfl ?_
            refine OG.yield (Yield.fieldAddr fa38_3 rfl) rfl ?_
            refine OG.yield (Yield.load (v := cr.m.cell) ti36 rfl (by rw [show ol + (i : Int).toNat * 4 = ol + i * 4 by omega]; exact (SlR.elem (SlR.of_osl (E := 38) (a := some ⟨bl, ol, none⟩) (c := lc) (by repeat (first | exact Ext.here | apply Ext.there))) CD.len hget) 3 _ rfl)) rfl ?_
            refine OG.callo call55 rfl (Imp.trans (Imp.pull (A := pool (cr.m :: (l.map CD.m).drop (i + 1))) (by repeat (first | exact Ext.here | apply Ext.there)) (Imp.refl _)) pool_head) (spoil_spec W0 _ (m := cr.m) (by omega)) rfl ?_
            rintro ⟨⟩ -
            refine OG.nil ?_
            refine QG.block_normal ?_
            refine QG.then ?_
            refine CG.region ?_
            refine OG.yield (Yield.move rfl) rfl ?_
            refine OG.yield (Yield.add rfl rfl (w64 (by omega) (by omega))) rfl ?_
            refine OG.yield (Yield.assign rfl) rfl ?_
            refine OG.nil ?_
            exact QG.next (i + 1) (show i + 1 ≤ l.length by omega) (show l.length - (i + 1) < l.length - i by omega) (by repeat (first | exact Env.sub_nil _ | refine Env.sub_cons rfl ?_)) (Imp.pull (by repeat (first | exact Ext.here | apply Ext.there)) (Imp.pull (A := pool ((l.map CD.m).drop (i + 1))) (by repeat (first | exact Ext.here | apply Ext.there)) (by repeat (first | exact Imp.refl _ | exact Imp.none _ | apply Imp.pull (by repeat (first | exact Ext.here | apply Ext.there)) | apply Imp.trans Imp.drop))))
          · try replace hc := of_decide_eq_false hc
            refine CG.exit ?_
            refine QG.pass_exit ?_
            refine QG.pass_exit ?_
            refine QG.block_exit ?_
            refine QG.then ?_
            refine CG.seq ?_
            refine CG.region ?_
            refine OG.yield (Yield.move rfl) rfl ?_
            refine OG.yield (Yield.assign rfl) rfl ?_
            refine OG.nil ?_
            refine QG.then ?_
            refine CG.ret ?_
            refine QG.block_ret ?_
            refine QG.pass_ret ?_
            exact QG.ret1 rfl rfl (rdyS s a.Major) trivial rfl (by repeat (first | exact Imp.refl _ | exact Imp.none _ | apply Imp.pull (by repeat (first | exact Ext.here | apply Ext.there)) | apply Imp.trans Imp.drop))
        · try replace hc := of_decide_eq_false hc
          refine CG.skip ?_
          refine QG.block_normal ?_
          refine QG.then ?_
          refine CG.seq ?_
          refine CG.region ?_
          refine OG.yield (Yield.assign rfl) rfl ?_
          refine OG.nil ?_
          refine QG.then ?_
          refine CG.ret ?_
          exact QG.ret1 rfl rfl s trivial rfl (by repeat (first | exact Imp.refl _ | exact Imp.none _ | apply Imp.pull (by repeat (first | exact Ext.here | apply Ext.there)) | apply Imp.trans Imp.drop))
end
end Go.Proofs.Ytoejnhfcegchhaa.Vd
namespace Go.Proofs.Ytoejnhfcegchhaa.vdiskPlays
open Go Go.Sl Go.RowKit Go.Proofs Go.Proofs.Ytoejnhfcegchhaa.T Go.Proofs.Ytoejnhfcegchhaa.Ms Go.Proofs.Ytoejnhfcegchhaa.Vd
set_option linter.unusedVariables false
set_option linter.unusedSimpArgs false
set_option maxRecDepth 100000
set_option maxHeartbeats 8000000 in
theorem walk (W : World) {part first count latency : Int} {a0 : Option Addr} {c0 : Nat} {ops : List VAct} (hops : SlAt W 11 a0 ops.length ((ops.map VAct.cells).flatten)) (hok : ∀ o ∈ ops, o.OK W) :
    Ctr Try.prog W 6 [.int .i64 part, .int .i64 first, .int .i64 count, .int .i64 latency, .slice a0 ops.length c0] [old W] (fun _ : Unit => True) (fun _ => .bool true) (fun _ => [old W]) := by
  refine Ctr.of_body Try.func6 rfl Try.ntmps6 rfl ?_
  refine CG.seq ?_
  refine CG.region ?_
  refine OG.yield (Yield.assign rfl) rfl ?_
  refine OG.nil ?_
  refine QG.then ?_
  refine CG.seq ?_
  rcases hnb : newBad part first count latency
  · skip
    refine CG.region ?_
    refine OG.yield (Yield.move rfl) rfl ?_
    refine OG.yield (Yield.move rfl) rfl ?_
    refine OG.yield (Yield.move rfl) rfl ?_
    refine OG.yield (Yield.move rfl) rfl ?_
    refine OG.callo call10 rfl ((by repeat (first | exact Imp.refl _ | exact Imp.none _ | apply Imp.pull (by repeat (first | exact Ext.here | apply Ext.there)) | apply Imp.trans Imp.drop))) (new_ok W _ hnb) rfl ?_
    rintro d -
    refine OG.yield (Yield.move rfl) rfl ?_
    refine OG.yield (Yield.extract rfl rfl) rfl ?_
    refine OG.yield (Yield.extract rfl rfl) rfl ?_
    refine OG.yield (Yield.assign rfl) rfl ?_
    refine OG.yield (Yield.assign rfl) rfl ?_
    refine OG.nil ?_
    refine QG.then ?_
    refine CG.seq ?_
    refine CG.region ?_
    refine OG.yield (Yield.move rfl) rfl ?_
    refine OG.yield (Yield.move rfl) rfl ?_
    refine OG.yield (Yield.move rfl) rfl ?_
    refine OG.yield (Yield.move rfl) rfl ?_
    refine OG.callo call24 rfl ((by repeat (first | exact Imp.refl _ | exact Imp.none _ | apply Imp.pull (by repeat (first | exact Ext.here | apply Ext.there)) | apply Imp.trans Imp.drop))) (rnew_ok W _ hnb) rfl ?_
    rintro r -
    refine OG.yield (Yield.move rfl) rfl ?_
    refine OG.yield (Yield.extract rfl rfl) rfl ?_
    refine OG.yield (Yield.extract rfl rfl) rfl ?_
    refine OG.yield (Yield.assign rfl) rfl ?_
    refine OG.yield (Yield.assign rfl) rfl ?_
    refine OG.nil ?_
    refine QG.then ?_
    refine CG.seq ?_
    refine CG.seq ?_
    refine CG.region ?_
    refine OG.yield (Yield.move rfl) rfl ?_
    refine OG.yield (Yield.move rfl) rfl ?_
    refine OG.yield (Yield.as (Yield.neq rfl rfl) (bF (not_not_intro rfl))) rfl ?_
    refine OG.yield (Yield.move rfl) rfl ?_
    refine OG.guard_yes rfl rfl rfl (by decide) ?_
    refine OG.yield (Yield.move rfl) rfl ?_
    refine OG.guard_yes rfl rfl rfl (by decide) ?_
    refine OG.yield (by first | exact Yield.ptr_nil Try.underlying26 rfl rfl | exact Yield.nil_nil Try.underlying26 rfl rfl) rfl ?_
    refine OG.guard_yes rfl rfl rfl (by decide) ?_
    refine OG.yield (Yield.move rfl) rfl ?_
    refine OG.guard_yes rfl rfl rfl (by decide) ?_
    refine OG.yield (by first | exact Yield.ptr_nil Try.underlying60 rfl rfl | exact Yield.nil_nil Try.underlying60 rfl rfl) rfl ?_
    refine OG.guard_yes rfl rfl rfl (by decide) ?_
    refine OG.yield (Yield.as (Yield.bool_neq Try.underlying4 rfl rfl) (v' := .bool false) (by simp)) rfl ?_
    refine OG.yield (by first | exact Yield.pick_t rfl rfl | exact Yield.pick_f rfl rfl | exact Yield.pick rfl (fun _ => rfl) (fun _ => rfl)) rfl ?_
    refine OG.nil ?_
    refine QG.then ?_
    refine CG.cond_f rfl ?_
    refine CG.skip ?_
    refine QG.then ?_
    refine CG.seq ?_
    refine CG.seq ?_
    refine CG.region ?_
    refine OG.yield (Yield.move rfl) rfl ?_
    refine OG.yield (by first | exact Yield.ptr_nil Try.underlying60 rfl rfl | exact Yield.nil_nil Try.underlying60 rfl rfl) rfl ?_
    refine OG.nil ?_
    refine QG.then ?_
    refine CG.cond_f rfl ?_
    refine CG.skip ?_
    refine QG.then ?_
    refine CG.seq ?_
    refine CG.seq ?_
    refine CG.region ?_
    refine OG.yield (Yield.assign rfl) rfl ?_
    refine OG.nil ?_
    refine QG.then ?_
    refine CG.block ?_
    refine CG.loop (fun x : Nat × Ds × Nat => x.1 ≤ ops.length ∧ x.1 ≤ 300) (fun x => [(4, .slice a0 ops.length c0), (11, .pointer (some ⟨x.2.2, 0, none⟩)), (13, .pointer (some ⟨r, 0, none⟩)), (15, .int .i64 x.1)]) (fun x => [D x.2.2 x.2.1, Dd r x.2.1, old W]) (fun x => ops.length - x.1) (0, ⟨part, first, count, latency, 0, [], []⟩, d) ⟨Nat.zero_le _, Nat.zero_le _⟩ (by repeat (first | exact Env.sub_nil _ | refine Env.sub_cons rfl ?_)) (by repeat (first | exact Imp.refl _ | exact Imp.none _ | apply Imp.pull (by repeat (first | exact Ext.here | apply Ext.there)) | apply Imp.trans Imp.drop)) ?_
    clear hnb
    clear d
    rintro ⟨i, s, d⟩ ⟨im, im2⟩
    dsimp only at im im2 ⊢
    refine CG.seq ?_
    refine CG.seq ?_
    rcases loop_head (i) (ops.length) 300 with hh | hh | hh
    · skip
      refine CG.region ?_
      refine OG.yield (Yield.move rfl) rfl ?_
      refine OG.yield (Yield.move rfl) rfl ?_
      refine OG.yield (Yield.len_slice Try.underlying22 rfl rfl) rfl ?_
      refine OG.yield (by first | exact Yield.as (Yield.lss rfl rfl) (bT (by omega)) | exact Yield.as (Yield.lss rfl rfl) (bF (by omega)) | exact Yield.lss rfl rfl) rfl ?_
      refine OG.yield (Yield.move rfl) rfl ?_
      refine OG.guard_yes rfl rfl rfl (by decide) ?_
      refine OG.yield (Yield.move rfl) rfl ?_
      refine OG.guard_yes rfl rfl rfl (by decide) ?_
      refine OG.yield (by first | exact Yield.as (Yield.lss rfl rfl) (bT (by omega)) | exact Yield.as (Yield.lss rfl rfl) (bF (by omega)) | exact Yield.lss rfl rfl) rfl ?_
      refine OG.yield (by first | exact Yield.pick_t rfl rfl | exact Yield.pick_f rfl rfl | exact Yield.pick rfl (fun _ => rfl) (fun _ => rfl)) rfl ?_
      refine OG.nil ?_
      refine QG.then ?_
      refine CG.cond_t rfl ?_
      refine CG.skip ?_
      refine QG.then ?_
      refine CG.seq ?_
      refine CG.block ?_
      obtain ⟨h1, h2⟩ := hh
      have hget : ops[i]? = some ops[i] := by simp [h1]
      have hko := hok ops[i] (List.getElem_mem h1)
      generalize ops[i] = op at hget hko
      refine CG.pure (fun w hw => (hops.old (G := [D d s, Dd r s, old W]) (by repeat (first | exact Ext.here | apply Ext.there))).elem_shape VAct.len (by decide) h1 w hw) ?_
      rintro ⟨b, o, rfl⟩
      have hDm := hko.Datam
      have hRm := hko.R_Datam
      unfold reachBytes at hDm hRm
      have hrow : ∀ {G R : List HProp}, Ext G (old W) R → Row W G b (o + i * 11) (VAct.cells op) := fun x => (hops.old x).elem VAct.len hget
      refine CG.cut (fun x : Ds × Nat => True) (fun x => [(4, .slice (some ⟨b, o, none⟩) ops.length c0), (11, .pointer (some ⟨x.2, 0, none⟩)), (13, .pointer (some ⟨r, 0, none⟩)), (15, .int .i64 i)]) (fun x => [D x.2 x.1, Dd r x.1, old W]) ?_ ?_
      · skip
        refine CG.seq ?_
        refine CG.region ?_
        refine OG.yield (Yield.move rfl) rfl ?_
        refine OG.yield (Yield.move rfl) rfl ?_
        refine OG.yield (Yield.index_slice Try.underlying22 ti42 rfl rfl (by omega) (by omega)) rfl ?_
        refine OG.yield (Yield.fieldAddr fa42_0 rfl) rfl ?_
        refine OG.yield (Yield.load (v := .int .i64 op.Kind) ti3 rfl ((hrow (by repeat (first | exact Ext.here | apply Ext.there))) 0 _ rfl)) rfl ?_
        refine OG.yield (Yield.eql rfl rfl) rfl ?_
        refine OG.nil ?_
        refine QG.then ?_
        refine CG.cond rfl (fun hc => ?_) (fun hc => ?_)
        · try replace hc := of_decide_eq_true hc
          refine CG.seq ?_
          refine CG.region ?_
          refine OG.yield (Yield.move rfl) rfl ?_
          refine OG.callo call25 rfl ((by repeat (first | exact Imp.refl _ | exact Imp.none _ | apply Imp.pull (by repeat (first | exact Ext.here | apply Ext.there)) | apply Imp.trans Imp.drop))) (clone_spec W _ (d := d) (s := s)) rfl ?_
          rintro u -
          refine OG.yield (Yield.assign rfl) rfl ?_
          refine OG.nil ?_
          refine QG.then ?_
          refine CG.seq ?_
          refine CG.seq ?_
          refine CG.region ?_
          refine OG.yield (Yield.move rfl) rfl ?_
          refine OG.yield (by first | exact Yield.ptr_nil Try.underlying26 rfl rfl | exact Yield.nil_nil Try.underlying26 rfl rfl) rfl ?_
          refine OG.nil ?_
          refine QG.then ?_
          refine CG.cond_f rfl ?_
          refine CG.skip ?_
          refine QG.then ?_
          refine CG.seq ?_
          refine CG.region ?_
          refine OG.yield (Yield.move rfl) rfl ?_
          refine OG.callo call15 rfl ((by repeat (first | exact Imp.refl _ | exact Imp.none _ | apply Imp.pull (by repeat (first | exact Ext.here | apply Ext.there)) | apply Imp.trans Imp.drop))) (issue_spec W _ (d := d) (s := s)) rfl ?_
          rintro ⟨l, la, lc⟩ -
          dsimp only [Rqs.G, List.cons_append, List.nil_append]
          refine OG.nil ?_
          refine QG.then ?_
          refine CG.seq ?_
          refine CG.region ?_
          refine OG.yield (Yield.move rfl) rfl ?_
          refine OG.callo call12 rfl ((by repeat (first | exact Imp.refl _ | exact Imp.none _ | apply Imp.pull (by repeat (first | exact Ext.here | apply Ext.there)) | apply Imp.trans Imp.drop))) (ready_spec W _ (d := d) (s := issS s) 281474976710756) rfl ?_
          rintro ⟨l2, l2a, l2c⟩ -
          dsimp only [Dns.G, List.cons_append, List.nil_append]
          refine OG.nil ?_
          refine QG.then ?_
          refine CG.seq ?_
          refine CG.region ?_
          refine OG.yield (Yield.move rfl) rfl ?_
          refine OG.callo call14 rfl ((by repeat (first | exact Imp.refl _ | exact Imp.none _ | apply Imp.pull (by repeat (first | exact Ext.here | apply Ext.there)) | apply Imp.trans Imp.drop))) (submit_any W _ (d := d) (s := rdyS (issS s) 281474976710756) (sector := 0) (addr := 0) (major := 0)) rfl ?_
          rintro ⟨v70, s70⟩ -
          refine OG.nil ?_
          refine QG.then ?_
          refine CG.region ?_
          refine OG.yield (Yield.move rfl) rfl ?_
          refine OG.yield (Yield.assign rfl) rfl ?_
          refine OG.nil ?_
          exact QG.mid (s, u) trivial (by repeat (first | exact Env.sub_nil _ | refine Env.sub_cons rfl ?_)) (by repeat (first | exact Imp.refl _ | exact Imp.none _ | apply Imp.pull (by repeat (first | exact Ext.here | apply Ext.there)) | apply Imp.trans Imp.drop))
        · try replace hc := of_decide_eq_false hc
          refine CG.skip ?_
          exact QG.mid (s, d) trivial (by repeat (first | exact Env.sub_nil _ | refine Env.sub_cons rfl ?_)) (by repeat (first | exact Imp.refl _ | exact Imp.none _ | apply Imp.pull (by repeat (first | exact Ext.here | apply Ext.there)) | apply Imp.trans Imp.drop))
      rintro ⟨s1, d1⟩ -
      dsimp only
      refine CG.seq ?_
      refine CG.region ?_
      refine OG.yield (Yield.move rfl) rfl ?_
      refine OG.yield (Yield.move rfl) rfl ?_
      refine OG.yield (Yield.move rfl) rfl ?_
      refine OG.yield (Yield.move rfl) rfl ?_
      refine OG.yield (Yield.index_slice Try.underlying22 ti42 rfl rfl (by omega) (by omega)) rfl ?_
      refine OG.yield (Yield.load_agg (vs := VAct.cells op) ti42 rfl rfl (hrow (by repeat (first | exact Ext.here | apply Ext.there)))) rfl ?_
      refine OG.callo call26 rfl ((by repeat (first | exact Imp.refl _ | exact Imp.none _ | apply Imp.pull (by repeat (first | exact Ext.here | apply Ext.there)) | apply Imp.trans Imp.drop))) (act_spec W _ (d := d1) (r := r) (s := s1) (a := op) (by exact RdB.of_slR (hko.Data.old (by repeat (first | exact Ext.here | apply Ext.there))) hko.Datac) (by exact RdB.of_slR (hko.R_Data.old (by repeat (first | exact Ext.here | apply Ext.there))) hko.R_Datac) (by omega) (by omega)) rfl ?_
      rintro s2 -
      refine OG.yield (Yield.not rfl) rfl ?_
      refine OG.yield (Yield.move rfl) rfl ?_
      refine OG.guard_yes rfl rfl rfl (by decide) ?_
      refine OG.yield (Yield.move rfl) rfl ?_
      refine OG.guard_yes rfl rfl rfl (by decide) ?_
      refine OG.yield (Yield.move rfl) rfl ?_
      refine OG.guard_yes rfl rfl rfl (by decide) ?_
      refine OG.callo call27 rfl ((by repeat (first | exact Imp.refl _ | exact Imp.none _ | apply Imp.pull (by repeat (first | exact Ext.here | apply Ext.there)) | apply Imp.trans Imp.drop))) (alike_spec W _ (d := d1) (r := r) (s := s2)) rfl ?_
      rintro ⟨⟩ -
      refine OG.guard_yes rfl rfl rfl (by decide) ?_
      refine OG.yield (Yield.not rfl) rfl ?_
      refine OG.yield (by first | exact Yield.pick_t rfl rfl | exact Yield.pick_f rfl rfl | exact Yield.pick rfl (fun _ => rfl) (fun _ => rfl)) rfl ?_
      refine OG.nil ?_
      refine QG.then ?_
      refine CG.cond_f rfl ?_
      refine CG.skip ?_
      refine QG.block_normal ?_
      refine QG.then ?_
      refine CG.region ?_
      refine OG.yield (Yield.move rfl) rfl ?_
      refine OG.yield (Yield.add rfl rfl (w64 (by omega) (by omega))) rfl ?_
      refine OG.yield (Yield.assign rfl) rfl ?_
      refine OG.nil ?_
      exact QG.next (i + 1, s2, d1) ⟨by simp only; omega, by simp only; omega⟩ (by simp only; omega) (by repeat (first | exact Env.sub_nil _ | refine Env.sub_cons rfl ?_)) (by repeat (first | exact Imp.refl _ | exact Imp.none _ | apply Imp.pull (by repeat (first | exact Ext.here | apply Ext.there)) | apply Imp.trans Imp.drop))
    · skip
      refine CG.region ?_
      refine OG.yield (Yield.move rfl) rfl ?_
      refine OG.yield (Yield.move rfl) rfl ?_
      refine OG.yield (Yield.len_slice Try.underlying22 rfl rfl) rfl ?_
      refine OG.yield (by first | exact Yield.as (Yield.lss rfl rfl) (bT (by omega)) | exact Yield.as (Yield.lss rfl rfl) (bF (by omega)) | exact Yield.lss rfl rfl) rfl ?_
      refine OG.yield (Yield.move rfl) rfl ?_
      refine OG.guard_yes rfl rfl rfl (by decide) ?_
      refine OG.yield (Yield.move rfl) rfl ?_
      refine OG.guard_yes rfl rfl rfl (by decide) ?_
      refine OG.yield (by first | exact Yield.as (Yield.lss rfl rfl) (bT (by omega)) | exact Yield.as (Yield.lss rfl rfl) (bF (by omega)) | exact Yield.lss rfl rfl) rfl ?_
      refine OG.yield (by first | exact Yield.pick_t rfl rfl | exact Yield.pick_f rfl rfl | exact Yield.pick rfl (fun _ => rfl) (fun _ => rfl)) rfl ?_
      refine OG.nil ?_
      refine QG.then ?_
      refine CG.cond_f rfl ?_
      refine CG.exit ?_
      refine QG.pass_exit ?_
      refine QG.pass_exit ?_
      refine QG.block_exit ?_
      refine QG.then ?_
      refine CG.seq ?_
      refine CG.region ?_
      refine OG.yield (Yield.move rfl) rfl ?_
      refine OG.yield (Yield.move rfl) rfl ?_
      refine OG.callo call27 rfl ((by repeat (first | exact Imp.refl _ | exact Imp.none _ | apply Imp.pull (by repeat (first | exact Ext.here | apply Ext.there)) | apply Imp.trans Imp.drop))) (alike_spec W _ (d := d) (r := r) (s := s)) rfl ?_
      rintro ⟨⟩ -
      refine OG.yield (Yield.assign rfl) rfl ?_
      refine OG.nil ?_
      refine QG.then ?_
      refine CG.ret ?_
      exact QG.ret1 rfl rfl () trivial rfl (by repeat (first | exact Imp.refl _ | exact Imp.none _ | apply Imp.pull (by repeat (first | exact Ext.here | apply Ext.there)) | apply Imp.trans Imp.drop))
    · skip
      refine CG.region ?_
      refine OG.yield (Yield.move rfl) rfl ?_
      refine OG.yield (Yield.move rfl) rfl ?_
      refine OG.yield (Yield.len_slice Try.underlying22 rfl rfl) rfl ?_
      refine OG.yield (by first | exact Yield.as (Yield.lss rfl rfl) (bT (by omega)) | exact Yield.as (Yield.lss rfl rfl) (bF (by omega)) | exact Yield.lss rfl rfl) rfl ?_
      refine OG.yield (Yield.move rfl) rfl ?_
      refine OG.guard_no rfl rfl rfl rfl rfl (by decide) (by decide) ?_
      refine OG.guard_no rfl rfl rfl rfl rfl (by decide) (by decide) ?_
      refine OG.yield (by first | exact Yield.pick_t rfl rfl | exact Yield.pick_f rfl rfl | exact Yield.pick rfl (fun _ => rfl) (fun _ => rfl)) rfl ?_
      refine OG.nil ?_
      refine QG.then ?_
      refine CG.cond_f rfl ?_
      refine CG.exit ?_
      refine QG.pass_exit ?_
      refine QG.pass_exit ?_
      refine QG.block_exit ?_
      refine QG.then ?_
      refine CG.seq ?_
      refine CG.region ?_
      refine OG.yield (Yield.move rfl) rfl ?_
      refine OG.yield (Yield.move rfl) rfl ?_
      refine OG.callo call27 rfl ((by repeat (first | exact Imp.refl _ | exact Imp.none _ | apply Imp.pull (by repeat (first | exact Ext.here | apply Ext.there)) | apply Imp.trans Imp.drop))) (alike_spec W _ (d := d) (r := r) (s := s)) rfl ?_
      rintro ⟨⟩ -
      refine OG.yield (Yield.assign rfl) rfl ?_
      refine OG.nil ?_
      refine QG.then ?_
      refine CG.ret ?_
      exact QG.ret1 rfl rfl () trivial rfl (by repeat (first | exact Imp.refl _ | exact Imp.none _ | apply Imp.pull (by repeat (first | exact Ext.here | apply Ext.there)) | apply Imp.trans Imp.drop))
  · skip
    refine CG.region ?_
    refine OG.yield (Yield.move rfl) rfl ?_
    refine OG.yield (Yield.move rfl) rfl ?_
    refine OG.yield (Yield.move rfl) rfl ?_
    refine OG.yield (Yield.move rfl) rfl ?_
    refine OG.callo call10 rfl ((by repeat (first | exact Imp.refl _ | exact Imp.none _ | apply Imp.pull (by repeat (first | exact Ext.here | apply Ext.there)) | apply Imp.trans Imp.drop))) (new_bad W _ hnb) rfl ?_
    rintro ⟨⟩ -
    refine OG.yield (Yield.move rfl) rfl ?_
    refine OG.yield (Yield.extract rfl rfl) rfl ?_
    refine OG.yield (Yield.extract rfl rfl) rfl ?_
    refine OG.yield (Yield.assign rfl) rfl ?_
    refine OG.yield (Yield.assign rfl) rfl ?_
    refine OG.nil ?_
    refine QG.then ?_
    refine CG.seq ?_
    refine CG.region ?_
    refine OG.yield (Yield.move rfl) rfl ?_
    refine OG.yield (Yield.move rfl) rfl ?_
    refine OG.yield (Yield.move rfl) rfl ?_
    refine OG.yield (Yield.move rfl) rfl ?_
    refine OG.callo call24 rfl ((by repeat (first | exact Imp.refl _ | exact Imp.none _ | apply Imp.pull (by repeat (first | exact Ext.here | apply Ext.there)) | apply Imp.trans Imp.drop))) (rnew_bad W _ hnb) rfl ?_
    rintro ⟨⟩ -
    refine OG.yield (Yield.move rfl) rfl ?_
    refine OG.yield (Yield.extract rfl rfl) rfl ?_
    refine OG.yield (Yield.extract rfl rfl) rfl ?_
    refine OG.yield (Yield.assign rfl) rfl ?_
    refine OG.yield (Yield.assign rfl) rfl ?_
    refine OG.nil ?_
    refine QG.then ?_
    refine CG.seq ?_
    refine CG.seq ?_
    refine CG.region ?_
    refine OG.yield (Yield.move rfl) rfl ?_
    refine OG.yield (Yield.move rfl) rfl ?_
    refine OG.yield (Yield.as (Yield.neq rfl rfl) (bF (not_not_intro rfl))) rfl ?_
    refine OG.yield (Yield.move rfl) rfl ?_
    refine OG.guard_yes rfl rfl rfl (by decide) ?_
    refine OG.yield (Yield.move rfl) rfl ?_
    refine OG.guard_yes rfl rfl rfl (by decide) ?_
    refine OG.yield (by first | exact Yield.ptr_nil Try.underlying26 rfl rfl | exact Yield.nil_nil Try.underlying26 rfl rfl) rfl ?_
    refine OG.guard_yes rfl rfl rfl (by decide) ?_
    refine OG.yield (Yield.move rfl) rfl ?_
    refine OG.guard_yes rfl rfl rfl (by decide) ?_
    refine OG.yield (by first | exact Yield.ptr_nil Try.underlying60 rfl rfl | exact Yield.nil_nil Try.underlying60 rfl rfl) rfl ?_
    refine OG.guard_yes rfl rfl rfl (by decide) ?_
    refine OG.yield (Yield.as (Yield.bool_neq Try.underlying4 rfl rfl) (v' := .bool false) (by simp)) rfl ?_
    refine OG.yield (by first | exact Yield.pick_t rfl rfl | exact Yield.pick_f rfl rfl | exact Yield.pick rfl (fun _ => rfl) (fun _ => rfl)) rfl ?_
    refine OG.nil ?_
    refine QG.then ?_
    refine CG.cond_f rfl ?_
    refine CG.skip ?_
    refine QG.then ?_
    refine CG.seq ?_
    refine CG.seq ?_
    refine CG.region ?_
    refine OG.yield (Yield.move rfl) rfl ?_
    refine OG.yield (by first | exact Yield.ptr_nil Try.underlying60 rfl rfl | exact Yield.nil_nil Try.underlying60 rfl rfl) rfl ?_
    refine OG.nil ?_
    refine QG.then ?_
    refine CG.cond_t rfl ?_
    refine CG.seq ?_
    refine CG.region ?_
    refine OG.yield (Yield.assign rfl) rfl ?_
    refine OG.nil ?_
    refine QG.then ?_
    refine CG.ret ?_
    refine QG.pass_ret ?_
    exact QG.ret1 rfl rfl () trivial rfl (by repeat (first | exact Imp.refl _ | exact Imp.none _ | apply Imp.pull (by repeat (first | exact Ext.here | apply Ext.there)) | apply Imp.trans Imp.drop))
open Go.ChangeShapes Go.WideShapes Go.ChangeAt
theorem own : ownKnob Try.prog.godebug = none := by kernel_rfl
theorem laid : laidOutB Try.prog = true := by kernel_rfl
set_option maxRecDepth 100000 in
theorem lifted (os : Os) (started : os.Started) (H : Type) (enc : TypeId × Value → H) :
    ReturnsInHanded {} Try.checked os 6 .any (Rows.vdiskPlaysSpec.pre6 enc Try.prog Try.f6 Rows.vdiskPlaysRow.domain false) (Rows.vdiskPlaysSpec.post enc Try.prog Try.f6 false true false false) := by
  refine returnsInHanded_of_change_sized (C := Try.checked) own started (by kernel_rfl) Try.func6
    (ChangeSpec.witness6 (enc := enc) (C := Try.checked) false ⟨#[], #[.int .i64 0, .int .i64 0, .int .i64 0, .int .i64 0, .slice none 0 0], []⟩ 8 (by kernel_rfl) (by kernel_rfl) (by kernel_rfl) (by kernel_rfl)) ?_
  intro W base args ds gs before hval0 hW hcnd hsz0 _
  have hsz : (DataW.weightsEach Try.prog (Try.f6.params.toList ++ Rows.vdiskPlaysSpec.plain.varTypes Try.prog) (ds ++ gs)).all (· ≤ reachBytes) = true := hsz0
  have hval : ∀ (j : Nat) t v, Try.f6.params[j]? = some t → args[j]? = some v → Value.okWide Try.prog W .any base t v := hval0
  have hW' := hW
  obtain ⟨p, q, hA0, hV, rfl, hfz, hnd⟩ := hW
  have hA : DataW.TrodAll enc Try.prog W 0 (fun _ => true) true Try.f6.params.toList args.toList ds p := hA0
  rw [Try.params6] at hA hval hsz
  obtain ⟨v0, vs0, d0, ds0, p0, q0, hargs, rfl, rfl, h0, r0⟩ := trodAll_cons hA
  obtain ⟨v1, vs1, d1, ds1, p1, q1, rfl, rfl, rfl, h1, r1⟩ := trodAll_cons r0
  obtain ⟨v2, vs2, d2, ds2, p2, q2, rfl, rfl, rfl, h2, r2⟩ := trodAll_cons r1
  obtain ⟨v3, vs3, d3, ds3, p3, q3, rfl, rfl, rfl, h3, r3⟩ := trodAll_cons r2
  obtain ⟨v4, vs4, d4, ds4, p4, q4, rfl, rfl, rfl, h4, r4⟩ := trodAll_cons r3
  obtain ⟨rfl, rfl, rfl⟩ := trodAll_nil r4
  obtain rfl : args = #[v0, v1, v2, v3, v4] := by cases args; simp_all
  obtain ⟨rfl, rfl⟩ := trodVars_none hV
  obtain ⟨a0, rfl, rfl, rfl, w0⟩ := open_int Try.underlying3 (hval 0 3 v0 rfl rfl) h0
  obtain ⟨a1, rfl, rfl, rfl, w1⟩ := open_int Try.underlying3 (hval 1 3 v1 rfl rfl) h1
  obtain ⟨a2, rfl, rfl, rfl, w2⟩ := open_int Try.underlying3 (hval 2 3 v2 rfl rfl) h2
  obtain ⟨a3, rfl, rfl, rfl, w3⟩ := open_int Try.underlying3 (hval 3 3 v3 rfl rfl) h3
  have k4 := weights_le hsz 4 (t := 22) (d := d4) rfl rfl
  have s4 := Opn.param Try.underlying22 (VAct.list W) (hval 4 22 v4 rfl rfl) h4 k4
  obtain ⟨x0, c0, ops, e4, l0, ok0, s0, m0⟩ := s4
  cases e4
  clear hA0 hval0 hsz0 hsz
  refine ((walk W s0 ok0) W (Sat.start W)).mono fun e W' he => ?_
  obtain ⟨_, _, he, hs⟩ := he
  subst he
  exact ⟨_, rfl, law_post laid (params_ok (by kernel_rfl)) rfl Try.underlying4 hW' rfl rfl (Sat.below (by repeat (first | exact Ext.here | apply Ext.there)) hs)⟩
theorem over : Rows.vdiskPlaysRow.holds Try.pinned (OpenSpec.ofChange Rows.vdiskPlaysSpec) :=
  OpenClaim.holds_of_wide 6 Try.f6 rfl rfl rfl rfl rfl rfl rfl ⟨rfl, rfl, rfl, rfl, rfl⟩ rfl rfl rfl rfl rfl (by kernel_rfl) Try.func6 (by kernel_rfl)
    (of_decide_eq_true (by kernel_rfl)) (by unfold Func.isWrapper; first | (rw [if_pos (by decide +kernel)]; kernel_rfl) | (rw [if_neg (by decide +kernel)]; exact ⟨rfl, rfl⟩))
    (fun os started H enc _ => lifted os started H enc)
theorem proved : Rows.VdiskPlaysSaid := over
#print axioms proved
end Go.Proofs.Ytoejnhfcegchhaa.vdiskPlays
