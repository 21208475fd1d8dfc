/- PageAlone: tables of two roots in one memory know nothing of one another: the law returns true and changes nothing that was there. -/
import Derived.Test.YtmlfcfbblfcpdaaPal
namespace Go.Proofs.Ytmlfcfbblfcpdaa.pageAlone
open Go Go.Sl Go.RowKit Go.Proofs Go.Proofs.Ytmlfcfbblfcpdaa.T Go.Proofs.Ytmlfcfbblfcpdaa.Me Go.Proofs.Ytmlfcfbblfcpdaa.Pe Go.Proofs.Ytmlfcfbblfcpdaa.Pg
set_option linter.unusedVariables false
set_option linter.unusedSimpArgs false
set_option maxRecDepth 100000
abbrev vf : Nat × Nat → Int := fun x => (x.1 : Int)
/-- Both roots, after i acts. -/
structure AI (i : Nat) (bs : List UInt8) (l0 l1 : List (Int × Int)) (s0 s1 : Nat) : Prop where
  a : R1 200 0 2 vf bs l0 s0
  b : R1 200 1 70 vf bs l1 s1
  a1 : 2 ≤ s0
  a2 : s0 ≤ 2 + i
  b1 : 70 ≤ s1
  b2 : s1 ≤ 70 + i
theorem AI.start : AI 0 (List.replicate (200 * 256) 0) [] [] 2 70 := ⟨R1.start (by decide), R1.start (by decide), by decide, by decide, by decide, by decide⟩
theorem AI.clear0 {i : Nat} {bs : List UInt8} {l0 l1 : List (Int × Int)} {s0 s1 p : Nat} (K : AI i bs l0 l1 s0 s1) (hi : i < 60) (hp : p < 4096) : AI (i + 1) (clearR 200 bs 0 p) (mdel l0 (p : Int)) l1 s0 s1 := by
  have h1 := K.a1; have h2 := K.a2; have h3 := K.b1; have h4 := K.b2
  obtain ⟨q1, q2, q3⟩ := K.a.clear hp
  exact ⟨q1, K.b.other q2 fun t ht h => q3 t ht (by omega) (by omega), h1, by omega, h3, by omega⟩
theorem AI.clear1 {i : Nat} {bs : List UInt8} {l0 l1 : List (Int × Int)} {s0 s1 p : Nat} (K : AI i bs l0 l1 s0 s1) (hi : i < 60) (hp : p < 4096) : AI (i + 1) (clearR 200 bs 1 p) l0 (mdel l1 (p : Int)) s0 s1 := by
  have h1 := K.a1; have h2 := K.a2; have h3 := K.b1; have h4 := K.b2
  obtain ⟨q1, q2, q3⟩ := K.b.clear hp
  exact ⟨K.a.other q2 fun t ht h => q3 t ht (by omega) (by omega), q1, h1, by omega, h3, by omega⟩
theorem AI.set0 {i : Nat} {bs : List UInt8} {l0 l1 : List (Int × Int)} {s0 s1 p f : Nat} (K : AI i bs l0 l1 s0 s1) (hi : i < 60) (hp : p < 4096) (hf : f < 200) : ∃ u cs, setR 200 bs 0 p (entryOf f 3).toNat (s0 : Nat) = (u, 0, cs) ∧ AI (i + 1) cs (mset l0 (p : Int) (f : Int)) l1 (if u then s0 + 1 else s0) s1 := by
  have h1 := K.a1; have h2 := K.a2; have h3 := K.b1; have h4 := K.b2
  obtain ⟨u, cs, e, q1, q2, q3⟩ := K.a.set (pm := 3) (by decide) (by omega) (by omega) (by omega) hp hf (by decide)
  exact ⟨u, cs, e, q1, K.b.other q2 fun t ht h => q3 t ht (by omega) (by omega), by cases u <;> simp <;> omega, by cases u <;> simp <;> omega, h3, by omega⟩
theorem AI.set1 {i : Nat} {bs : List UInt8} {l0 l1 : List (Int × Int)} {s0 s1 p f : Nat} (K : AI i bs l0 l1 s0 s1) (hi : i < 60) (hp : p < 4096) (hf : f < 200) : ∃ u cs, setR 200 bs 1 p (entryOf f 3).toNat (s1 : Nat) = (u, 0, cs) ∧ AI (i + 1) cs l0 (mset l1 (p : Int) (f : Int)) s0 (if u then s1 + 1 else s1) := by
  have h1 := K.a1; have h2 := K.a2; have h3 := K.b1; have h4 := K.b2
  obtain ⟨u, cs, e, q1, q2, q3⟩ := K.b.set (pm := 3) (by decide) (by omega) (by omega) (by omega) hp hf (by decide)
  exact ⟨u, cs, e, K.a.other q2 fun t ht h => q3 t ht (by omega) (by omega), q1, h1, by omega, by cases u <;> simp <;> omega, by cases u <;> simp <;> omega⟩
abbrev St := List UInt8 × List (Int × Int) × List (Int × Int) × Nat × Nat
def AIs (i : Nat) (s : St) : Prop := AI i s.1 s.2.1 s.2.2.1 s.2.2.2.1 s.2.2.2.2
/-- What lies in the memory. -/
abbrev GS (W : World) (m r0 r1 b5 b6 b2 : Nat) (s : St) : List HProp := [blk b6 [.int .i64 s.2.2.2.1, .int .i64 s.2.2.2.2] 47, blk b5 [.map (some r0), .map (some r1)] 46, hmap vi vi r0 s.2.1, hmap vi vi r1 s.2.2.1, M m 200 s.1, blk b2 [.bool false] 4, old W]
theorem fourC {n r p : Nat} {bs : List UInt8} (h : r < 2) : (r = 0 ∧ wk n bs 0 p = none) ∨ (r = 0 ∧ ∃ x, wk n bs 0 p = some x) ∨ (r = 1 ∧ wk n bs 1 p = none) ∨ (r = 1 ∧ ∃ x, wk n bs 1 p = some x) := by
  rcases (show r = 0 ∨ r = 1 by omega) with rfl | rfl
  · cases wk n bs 0 p <;> simp
  · cases wk n bs 1 p <;> simp
set_option maxHeartbeats 8000000 in
theorem walk (W : World) {a0 : Option Addr} {c0 : Nat} {ops : List POp} (hops : SlAt W 8 a0 ops.length ((ops.map POp.cells).flatten)) (hok : ∀ o ∈ ops, o.OK W) :
    Ctr Try.prog W 4 [.slice a0 ops.length c0] [old W] (fun _ : Unit => True) (fun _ => .bool true) (fun _ => [old W]) := by
  refine Ctr.of_bodyM Try.func4 rfl Try.ntmps4 rfl ?_
  refine CG.seq ?_
  refine CG.region ?_
  refine OG.effd (Eff.alloc ti4) rfl ?_
  rintro b2 -
  refine OG.nil ?_
  refine QG.then ?_
  refine CG.seq ?_
  refine CG.seq ?_
  refine CG.region ?_
  refine OG.callo call9 rfl (Imp.refl _) (works_spec W _) rfl ?_
  rintro ⟨⟩ -
  refine OG.yield (Yield.not rfl) rfl ?_
  refine OG.nil ?_
  refine QG.then ?_
  refine CG.cond_f rfl ?_
  refine CG.skip ?_
  refine QG.then ?_
  refine CG.seq ?_
  refine CG.region ?_
  refine OG.callo call10 rfl ((by repeat (first | exact Imp.refl _ | exact Imp.none _ | apply Imp.pull (by repeat (first | exact Ext.here | apply Ext.there)) | apply Imp.trans Imp.drop))) (Me.new_spec W _ (n := 200) (by decide) (by decide)) rfl ?_
  rintro m -
  refine OG.yield (Yield.move rfl) rfl ?_
  refine OG.yield (Yield.extract rfl rfl) rfl ?_
  refine OG.yield (Yield.extract rfl rfl) rfl ?_
  refine OG.yield (Yield.assign rfl) rfl ?_
  refine OG.yield (Yield.assign rfl) rfl ?_
  refine OG.nil ?_
  refine QG.then ?_
  refine CG.seq ?_
  refine CG.seq ?_
  refine CG.region ?_
  refine OG.yield (Yield.move rfl) rfl ?_
  refine OG.yield (by first | exact Yield.as (Yield.neq rfl rfl) (bT (by omega)) | exact Yield.as (Yield.neq rfl rfl) (bF (by omega)) | exact Yield.neq rfl rfl) rfl ?_
  refine OG.yield (Yield.move rfl) rfl ?_
  refine OG.guard_yes rfl rfl rfl (by decide) ?_
  refine OG.yield (Yield.move rfl) rfl ?_
  refine OG.guard_yes rfl rfl rfl (by decide) ?_
  refine OG.yield (by first | exact Yield.ptr_nil Try.underlying24 rfl rfl | exact Yield.nil_nil Try.underlying24 rfl rfl) rfl ?_
  refine OG.yield (by first | exact Yield.pick_t rfl rfl | exact Yield.pick_f rfl rfl | exact Yield.pick rfl (fun _ => rfl) (fun _ => rfl)) rfl ?_
  refine OG.nil ?_
  refine QG.then ?_
  refine CG.cond_f rfl ?_
  refine CG.skip ?_
  refine QG.then ?_
  refine CG.seq ?_
  refine CG.region ?_
  refine OG.effd (Eff.makeMap vi vi) rfl ?_
  rintro r0 -
  refine OG.effd (Eff.makeMap vi vi) rfl ?_
  rintro r1 -
  refine OG.yield (Yield.buildArr (zs := [.map none, .map none]) (cells := [.map (some r0), .map (some r1)]) Try.underlying46 ti46 ti45 rfl rfl) rfl ?_
  refine OG.effd (Eff.alloc ti46) rfl ?_
  rintro b5 -
  refine OG.eff (Eff.storeAll ti46 rfl rfl (by repeat (first | exact Foc.here | apply Foc.there)) rfl (by simp [one]) (by first | rfl | simp)) rfl ?_
  rintro ⟨⟩ -
  refine OG.nil ?_
  refine QG.then ?_
  refine CG.seq ?_
  refine CG.region ?_
  refine OG.yield (Yield.buildArr (zs := [.int .i64 0, .int .i64 0]) (cells := [.int .i64 2, .int .i64 70]) Try.underlying47 ti47 ti3 rfl rfl) rfl ?_
  refine OG.effd (Eff.alloc ti47) rfl ?_
  rintro b6 -
  refine OG.eff (Eff.storeAll ti47 rfl rfl (by repeat (first | exact Foc.here | apply Foc.there)) rfl (by simp [one]) (by first | rfl | simp)) rfl ?_
  rintro ⟨⟩ -
  refine OG.nil ?_
  refine QG.then ?_
  refine CG.cut (fun s : Nat × St => AIs s.1 s.2) (fun s => [(2, .pointer (some ⟨b2, 0, none⟩)), (3, .pointer (some ⟨m, 0, none⟩)), (5, .pointer (some ⟨b5, 0, none⟩))]) (fun s => GS W m r0 r1 b5 b6 b2 s.2) ?_ ?_
  · skip
    refine CG.seq ?_
    refine CG.region ?_
    refine OG.yield (Yield.assign rfl) rfl ?_
    refine OG.nil ?_
    refine QG.then ?_
    refine CG.block ?_
    refine CG.loop (fun s : Nat × St => s.1 ≤ ops.length ∧ s.1 ≤ 60 ∧ AIs s.1 s.2) (fun s => [(0, .slice a0 ops.length c0), (2, .pointer (some ⟨b2, 0, none⟩)), (3, .pointer (some ⟨m, 0, none⟩)), (5, .pointer (some ⟨b5, 0, none⟩)), (6, .pointer (some ⟨b6, 0, none⟩)), (7, .int .i64 s.1)]) (fun s => GS W m r0 r1 b5 b6 b2 s.2) (fun s => ops.length - s.1) (0, List.replicate (200 * 256) 0, [], [], 2, 70) ⟨Nat.zero_le _, by decide, AI.start⟩ (by repeat (first | exact Env.sub_nil _ | refine Env.sub_cons rfl ?_)) (by repeat (first | exact Imp.refl _ | exact Imp.none _ | apply Imp.pull (by repeat (first | exact Ext.here | apply Ext.there)) | apply Imp.trans Imp.drop)) ?_
    rintro ⟨i, s⟩ ⟨hi, hi6, K⟩
    dsimp only at hi hi6 K ⊢
    refine CG.seq ?_
    refine CG.seq ?_
    rcases loop_head (i) (ops.length) 60 with hh | hh | hh
    · skip
      refine CG.region ?_
      refine OG.yield (Yield.move rfl) rfl ?_
      refine OG.yield (Yield.move rfl) rfl ?_
      refine OG.yield (Yield.len_slice Try.underlying22 rfl rfl) rfl ?_
      refine OG.yield (by first | exact Yield.as (Yield.lss rfl rfl) (bT (by omega)) | exact Yield.as (Yield.lss rfl rfl) (bF (by omega)) | exact Yield.lss rfl rfl) rfl ?_
      refine OG.yield (Yield.move rfl) rfl ?_
      refine OG.guard_yes rfl rfl rfl (by decide) ?_
      refine OG.yield (Yield.move rfl) rfl ?_
      refine OG.guard_yes rfl rfl rfl (by decide) ?_
      refine OG.yield (by first | exact Yield.as (Yield.lss rfl rfl) (bT (by omega)) | exact Yield.as (Yield.lss rfl rfl) (bF (by omega)) | exact Yield.lss rfl rfl) rfl ?_
      refine OG.yield (by first | exact Yield.pick_t rfl rfl | exact Yield.pick_f rfl rfl | exact Yield.pick rfl (fun _ => rfl) (fun _ => rfl)) rfl ?_
      refine OG.nil ?_
      refine QG.then ?_
      refine CG.cond_t rfl ?_
      refine CG.skip ?_
      refine QG.then ?_
      refine CG.seq ?_
      refine CG.block ?_
      refine CG.seq ?_
      obtain ⟨h1, h2⟩ := hh
      have hget : ops[i]? = some ops[i] := by simp [h1]
      have hko := hok ops[i] (List.getElem_mem h1)
      generalize ops[i] = op at hget hko
      refine CG.pure (fun w hw => (hops.old (G := GS W m r0 r1 b5 b6 b2 s) (by repeat (first | exact Ext.here | apply Ext.there))).elem_shape POp.len (by decide) h1 w hw) ?_
      rintro ⟨b, o, rfl⟩
      have hrow : ∀ {G R : List HProp}, Ext G (old W) R → Row W G b (o + i * 8) op.cells := fun x => (hops.old x).elem POp.len hget
      have hw := wrap_u64_range op.Put_Page
      have hwf := wrap_u64_range op.Put_Frame
      have hwr := wrap_u64_range op.Root
      refine CG.region ?_
      refine OG.yield (Yield.move rfl) rfl ?_
      refine OG.yield (Yield.move rfl) rfl ?_
      refine OG.yield (Yield.index_slice Try.underlying22 ti34 rfl rfl (by omega) (by omega)) rfl ?_
      refine OG.yield (Yield.fieldAddr fa34_1 rfl) rfl ?_
      refine OG.yield (Yield.load (v := .int .i64 op.Root) ti3 rfl ((hrow (by repeat (first | exact Ext.here | apply Ext.there))) 1 _ rfl)) rfl ?_
      refine OG.yield (Yield.conv Try.underlying29 rfl rfl rfl) rfl ?_
      generalize IntKind.u64.wrap op.Root = wq at hwr ⊢
      obtain ⟨k, hk, hk2⟩ : ∃ p : Nat, wq % 2 = (p : Int) ∧ p < 2 := ⟨(wq % 2).toNat, by omega, by omega⟩
      refine OG.yield (Yield.rem (c := (k : Int)) rfl rfl (by decide) (by rw [← hk]; exact tmod_pos (by omega) (by omega))) rfl ?_
      refine OG.yield (by first | exact Yield.conv Try.underlying3 rfl rfl (w64 (by omega) (by omega)) | exact Yield.conv Try.underlying3 rfl rfl rfl) rfl ?_
      refine OG.yield (Yield.assign rfl) rfl ?_
      refine OG.nil ?_
      refine QG.then ?_
      refine CG.seq ?_
      refine CG.region ?_
      refine OG.yield (Yield.move rfl) rfl ?_
      refine OG.yield (Yield.move rfl) rfl ?_
      refine OG.yield (Yield.index_slice Try.underlying22 ti34 rfl rfl (by omega) (by omega)) rfl ?_
      refine OG.yield (Yield.fieldAddr fa34_2 rfl) rfl ?_
      refine OG.yield (Yield.fieldAddr fa31_0 rfl) rfl ?_
      refine OG.yield (Yield.load (v := .int .i64 op.Put_Page) ti3 rfl ((hrow (by repeat (first | exact Ext.here | apply Ext.there))) 2 _ rfl)) rfl ?_
      refine OG.yield (Yield.conv Try.underlying29 rfl rfl rfl) rfl ?_
      generalize IntKind.u64.wrap op.Put_Page = wr at hw ⊢
      obtain ⟨p, hp, hp4⟩ : ∃ p : Nat, wr % 4096 = (p : Int) ∧ p < 4096 := ⟨(wr % 4096).toNat, by omega, by omega⟩
      refine OG.yield (Yield.rem (c := (p : Int)) rfl rfl (by decide) (by rw [← hp]; exact tmod_pos (by omega) (by omega))) rfl ?_
      refine OG.yield (by first | exact Yield.conv Try.underlying3 rfl rfl (w64 (by omega) (by omega)) | exact Yield.conv Try.underlying3 rfl rfl rfl) rfl ?_
      refine OG.yield (Yield.assign rfl) rfl ?_
      refine OG.nil ?_
      refine QG.then ?_
      refine CG.cut (fun s : St => AIs (i + 1) s) (fun s => [(0, .slice (some ⟨b, o, none⟩) ops.length c0), (2, .pointer (some ⟨b2, 0, none⟩)), (3, .pointer (some ⟨m, 0, none⟩)), (5, .pointer (some ⟨b5, 0, none⟩)), (6, .pointer (some ⟨b6, 0, none⟩)), (7, .int .i64 i), (9, .int .i64 p)]) (fun s => GS W m r0 r1 b5 b6 b2 s) ?_ ?_
      · skip
        refine CG.seq ?_
        refine CG.region ?_
        refine OG.yield (Yield.move rfl) rfl ?_
        refine OG.yield (Yield.move rfl) rfl ?_
        refine OG.yield (Yield.index_slice Try.underlying22 ti34 rfl rfl (by omega) (by omega)) rfl ?_
        refine OG.yield (Yield.fieldAddr fa34_0 rfl) rfl ?_
        refine OG.yield (Yield.load (v := .int .i64 op.Kind) ti3 rfl ((hrow (by repeat (first | exact Ext.here | apply Ext.there))) 0 _ rfl)) rfl ?_
        refine OG.yield (Yield.eql rfl rfl) rfl ?_
        refine OG.nil ?_
        refine QG.then ?_
        refine CG.cond rfl (fun hc => ?_) (fun hc => ?_)
        · try replace hc := of_decide_eq_true hc
          refine CG.seq ?_
          rcases (show k = 0 ∨ k = 1 by omega) with rfl | rfl
          · skip
            refine CG.region ?_
            refine OG.yield (Yield.move rfl) rfl ?_
            refine OG.yield (Yield.index_array Try.underlying46 ti45 rfl rfl (by omega) (by omega)) rfl ?_
            refine OG.yield (Yield.load ti45 rfl (by first | exact Cel.of_blk (by repeat (first | exact Ext.here | apply Ext.there)) rfl | exact (hrow (by repeat (first | exact Ext.here | apply Ext.there))) _ _ rfl)) rfl ?_
            refine OG.yield (Yield.move rfl) rfl ?_
            refine OG.yield (Yield.lookup vi vi (l := s.2.1) Try.underlying45 ti3 keyInt (p : Int) rfl rfl (by repeat (first | exact Ext.here | apply Ext.there))) rfl ?_
            refine OG.yield (Yield.move rfl) rfl ?_
            refine OG.yield (Yield.extract rfl rfl) rfl ?_
            refine OG.yield (Yield.extract rfl rfl) rfl ?_
            refine OG.yield (Yield.assign rfl) rfl ?_
            refine OG.yield (Yield.assign rfl) rfl ?_
            refine OG.nil ?_
            refine QG.then ?_
            refine CG.seq ?_
            refine CG.seq ?_
            refine CG.region ?_
            refine OG.yield (Yield.move rfl) rfl ?_
            refine OG.yield (Yield.move rfl) rfl ?_
            refine OG.yield (Yield.move rfl) rfl ?_
            refine OG.callo call11 rfl ((by repeat (first | exact Imp.refl _ | exact Imp.none _ | apply Imp.pull (by repeat (first | exact Ext.here | apply Ext.there)) | apply Imp.trans Imp.drop))) (clear_spec W _ (m := m) (n := 200) (root := 0) (p := p) (bs := s.1) (by decide) hp4) rfl ?_
            rintro ⟨⟩ -
            refine OG.yield (Yield.as (Yield.eql rfl rfl) (v' := .bool (wk 200 s.1 0 p).isSome) (by rw [walk_0])) rfl ?_
            refine OG.yield (Yield.move rfl) rfl ?_
            refine OG.yield (Yield.as (Yield.bool_neq Try.underlying4 rfl rfl) (v' := .bool false) (by rw [K.a.has p hp4]; cases wk 200 s.1 0 p <;> rfl)) rfl ?_
            refine OG.nil ?_
            refine QG.then ?_
            refine CG.cond_f rfl ?_
            refine CG.skip ?_
            refine QG.then ?_
            refine CG.region ?_
            refine OG.yield (Yield.move rfl) rfl ?_
            refine OG.yield (Yield.index_array Try.underlying46 ti45 rfl rfl (by omega) (by omega)) rfl ?_
            refine OG.yield (Yield.load ti45 rfl (by first | exact Cel.of_blk (by repeat (first | exact Ext.here | apply Ext.there)) rfl | exact (hrow (by repeat (first | exact Ext.here | apply Ext.there))) _ _ rfl)) rfl ?_
            refine OG.yield (Yield.move rfl) rfl ?_
            refine OG.eff (Eff.mapDelete vi vi rfl Try.underlying45 keyInt (p : Int) rfl rfl (by repeat (first | exact Foc.here | apply Foc.there))) rfl ?_
            rintro ⟨⟩ -
            refine OG.nil ?_
            exact QG.mid (clearR 200 s.1 0 p, mdel s.2.1 (p : Int), s.2.2.1, s.2.2.2.1, s.2.2.2.2) (K.clear0 h2 hp4) (by repeat (first | exact Env.sub_nil _ | refine Env.sub_cons rfl ?_)) (by repeat (first | exact Imp.refl _ | exact Imp.none _ | apply Imp.pull (by repeat (first | exact Ext.here | apply Ext.there)) | apply Imp.trans Imp.drop))
          · skip
            refine CG.region ?_
            refine OG.yield (Yield.move rfl) rfl ?_
            refine OG.yield (Yield.index_array Try.underlying46 ti45 rfl rfl (by omega) (by omega)) rfl ?_
            refine OG.yield (Yield.load ti45 rfl (by first | exact Cel.of_blk (by repeat (first | exact Ext.here | apply Ext.there)) rfl | exact (hrow (by repeat (first | exact Ext.here | apply Ext.there))) _ _ rfl)) rfl ?_
            refine OG.yield (Yield.move rfl) rfl ?_
            refine OG.yield (Yield.lookup vi vi (l := s.2.2.1) Try.underlying45 ti3 keyInt (p : Int) rfl rfl (by repeat (first | exact Ext.here | apply Ext.there))) rfl ?_
            refine OG.yield (Yield.move rfl) rfl ?_
            refine OG.yield (Yield.extract rfl rfl) rfl ?_
            refine OG.yield (Yield.extract rfl rfl) rfl ?_
            refine OG.yield (Yield.assign rfl) rfl ?_
            refine OG.yield (Yield.assign rfl) rfl ?_
            refine OG.nil ?_
            refine QG.then ?_
            refine CG.seq ?_
            refine CG.seq ?_
            refine CG.region ?_
            refine OG.yield (Yield.move rfl) rfl ?_
            refine OG.yield (Yield.move rfl) rfl ?_
            refine OG.yield (Yield.move rfl) rfl ?_
            refine OG.callo call11 rfl ((by repeat (first | exact Imp.refl _ | exact Imp.none _ | apply Imp.pull (by repeat (first | exact Ext.here | apply Ext.there)) | apply Imp.trans Imp.drop))) (clear_spec W _ (m := m) (n := 200) (root := 1) (p := p) (bs := s.1) (by decide) hp4) rfl ?_
            rintro ⟨⟩ -
            refine OG.yield (Yield.as (Yield.eql rfl rfl) (v' := .bool (wk 200 s.1 1 p).isSome) (by rw [walk_0])) rfl ?_
            refine OG.yield (Yield.move rfl) rfl ?_
            refine OG.yield (Yield.as (Yield.bool_neq Try.underlying4 rfl rfl) (v' := .bool false) (by rw [K.b.has p hp4]; cases wk 200 s.1 1 p <;> rfl)) rfl ?_
            refine OG.nil ?_
            refine QG.then ?_
            refine CG.cond_f rfl ?_
            refine CG.skip ?_
            refine QG.then ?_
            refine CG.region ?_
            refine OG.yield (Yield.move rfl) rfl ?_
            refine OG.yield (Yield.index_array Try.underlying46 ti45 rfl rfl (by omega) (by omega)) rfl ?_
            refine OG.yield (Yield.load ti45 rfl (by first | exact Cel.of_blk (by repeat (first | exact Ext.here | apply Ext.there)) rfl | exact (hrow (by repeat (first | exact Ext.here | apply Ext.there))) _ _ rfl)) rfl ?_
            refine OG.yield (Yield.move rfl) rfl ?_
            refine OG.eff (Eff.mapDelete vi vi rfl Try.underlying45 keyInt (p : Int) rfl rfl (by repeat (first | exact Foc.here | apply Foc.there))) rfl ?_
            rintro ⟨⟩ -
            refine OG.nil ?_
            exact QG.mid (clearR 200 s.1 1 p, s.2.1, mdel s.2.2.1 (p : Int), s.2.2.2.1, s.2.2.2.2) (K.clear1 h2 hp4) (by repeat (first | exact Env.sub_nil _ | refine Env.sub_cons rfl ?_)) (by repeat (first | exact Imp.refl _ | exact Imp.none _ | apply Imp.pull (by repeat (first | exact Ext.here | apply Ext.there)) | apply Imp.trans Imp.drop))
        · try replace hc := of_decide_eq_false hc
          refine CG.seq ?_
          refine CG.region ?_
          refine OG.yield (Yield.move rfl) rfl ?_
          refine OG.yield (Yield.move rfl) rfl ?_
          refine OG.yield (Yield.index_slice Try.underlying22 ti34 rfl rfl (by omega) (by omega)) rfl ?_
          refine OG.yield (Yield.fieldAddr fa34_2 rfl) rfl ?_
          refine OG.yield (Yield.fieldAddr fa31_1 rfl) rfl ?_
          refine OG.yield (Yield.load (v := .int .i64 op.Put_Frame) ti3 rfl ((hrow (by repeat (first | exact Ext.here | apply Ext.there))) 3 _ rfl)) rfl ?_
          refine OG.yield (Yield.conv Try.underlying29 rfl rfl rfl) rfl ?_
          generalize IntKind.u64.wrap op.Put_Frame = wf at hwf ⊢
          obtain ⟨f0, hf0, hf4⟩ : ∃ p : Nat, wf % 60 = (p : Int) ∧ p < 60 := ⟨(wf % 60).toNat, by omega, by omega⟩
          refine OG.yield (Yield.rem (c := (f0 : Int)) rfl rfl (by decide) (by rw [← hf0]; exact tmod_pos (by omega) (by omega))) rfl ?_
          refine OG.yield (by first | exact Yield.conv Try.underlying3 rfl rfl (w64 (by omega) (by omega)) | exact Yield.conv Try.underlying3 rfl rfl rfl) rfl ?_
          refine OG.yield (Yield.add (c := ((140 + f0 : Nat) : Int)) rfl rfl (by rw [w64 (by omega) (by omega)]; omega)) rfl ?_
          refine OG.yield (Yield.assign rfl) rfl ?_
          refine OG.nil ?_
          refine QG.then ?_
          refine CG.seq ?_
          rcases (show k = 0 ∨ k = 1 by omega) with rfl | rfl
          · skip
            obtain ⟨u, cs, hset, K2⟩ := AI.set0 (p := p) (f := 140 + f0) K h2 hp4 (by omega)
            have hent := (sp_entry (f := 140 + f0) (p := 3) (by omega) (by omega)).1
            have hsa := K.a1
            have hsb := K.a2
            refine CG.region ?_
            refine OG.yield (Yield.move rfl) rfl ?_
            refine OG.yield (Yield.move rfl) rfl ?_
            refine OG.yield (Yield.move rfl) rfl ?_
            refine OG.yield (Yield.move rfl) rfl ?_
            refine OG.yield (Yield.move rfl) rfl ?_
            refine OG.yield (Yield.index_array Try.underlying47 ti3 rfl rfl (by omega) (by omega)) rfl ?_
            refine OG.yield (Yield.load ti3 rfl (by first | exact Cel.of_blk (by repeat (first | exact Ext.here | apply Ext.there)) rfl | exact (hrow (by repeat (first | exact Ext.here | apply Ext.there))) _ _ rfl)) rfl ?_
            refine OG.callo call12 rfl ((by repeat (first | exact Imp.refl _ | exact Imp.none _ | apply Imp.pull (by repeat (first | exact Ext.here | apply Ext.there)) | apply Imp.trans Imp.drop))) (set_spec W _ (m := m) (n := 200) (root := 0) (p := p) (e := (entryOf ((140 + f0 : Nat) : Int) 3).toNat) (f := ((140 + f0 : Nat) : Int)) (pm := 3) (spare := (s.2.2.2.1 : Int)) (bs := s.1) (by decide) hp4 (by rw [show (3 : Int) = ((3 : Nat) : Int) from rfl, hent]; rfl) (by rw [show (3 : Int) = ((3 : Nat) : Int) from rfl, hent]; omega) (by omega)) rfl ?_
            rintro ⟨⟩ -
            rw [show setR 200 s.1 0 p (entryOf ((140 + f0 : Nat) : Int) 3).toNat (s.2.2.2.1 : Int) = _ from hset]
            refine OG.yield (Yield.move rfl) rfl ?_
            refine OG.yield (Yield.extract rfl rfl) rfl ?_
            refine OG.yield (Yield.extract rfl rfl) rfl ?_
            refine OG.yield (Yield.assign rfl) rfl ?_
            refine OG.yield (Yield.assign rfl) rfl ?_
            refine OG.nil ?_
            refine QG.then ?_
            refine CG.seq ?_
            refine CG.seq ?_
            refine CG.region ?_
            refine OG.yield (Yield.move rfl) rfl ?_
            refine OG.yield (by first | exact Yield.as (Yield.neq rfl rfl) (bT (by omega)) | exact Yield.as (Yield.neq rfl rfl) (bF (by omega)) | exact Yield.neq rfl rfl) rfl ?_
            refine OG.nil ?_
            refine QG.then ?_
            refine CG.cond_f rfl ?_
            refine CG.skip ?_
            refine QG.then ?_
            refine CG.seq ?_
            refine CG.seq ?_
            cases u
            · skip
              refine CG.region ?_
              refine OG.yield (Yield.move rfl) rfl ?_
              refine OG.nil ?_
              refine QG.then ?_
              refine CG.cond_f rfl ?_
              refine CG.skip ?_
              refine QG.then ?_
              refine CG.region ?_
              refine OG.yield (Yield.move rfl) rfl ?_
              refine OG.yield (Yield.index_array Try.underlying46 ti45 rfl rfl (by omega) (by omega)) rfl ?_
              refine OG.yield (Yield.load ti45 rfl (by first | exact Cel.of_blk (by repeat (first | exact Ext.here | apply Ext.there)) rfl | exact (hrow (by repeat (first | exact Ext.here | apply Ext.there))) _ _ rfl)) rfl ?_
              refine OG.yield (Yield.move rfl) rfl ?_
              refine OG.yield (Yield.move rfl) rfl ?_
              refine OG.eff (Eff.mapUpdate vi vi Try.underlying45 keyInt (p : Int) ((140 + f0 : Nat) : Int) rfl rfl rfl (by repeat (first | exact Foc.here | apply Foc.there))) rfl ?_
              rintro ⟨⟩ -
              refine OG.nil ?_
              exact QG.mid (cs, mset s.2.1 (p : Int) ((140 + f0 : Nat) : Int), s.2.2.1, s.2.2.2.1, s.2.2.2.2) K2 (by repeat (first | exact Env.sub_nil _ | refine Env.sub_cons rfl ?_)) (by repeat (first | exact Imp.refl _ | exact Imp.none _ | apply Imp.pull (by repeat (first | exact Ext.here | apply Ext.there)) | apply Imp.trans Imp.drop))
            · skip
              refine CG.region ?_
              refine OG.yield (Yield.move rfl) rfl ?_
              refine OG.nil ?_
              refine QG.then ?_
              refine CG.cond_t rfl ?_
              refine CG.region ?_
              refine OG.yield (Yield.move rfl) rfl ?_
              refine OG.yield (Yield.index_array Try.underlying47 ti3 rfl rfl (by omega) (by omega)) rfl ?_
              refine OG.yield (Yield.load ti3 rfl (by first | exact Cel.of_blk (by repeat (first | exact Ext.here | apply Ext.there)) rfl | exact (hrow (by repeat (first | exact Ext.here | apply Ext.there))) _ _ rfl)) rfl ?_
              refine OG.yield (Yield.add (c := ((s.2.2.2.1 + 1 : Nat) : Int)) rfl rfl (by rw [w64 (by omega) (by omega)]; omega)) rfl ?_
              refine OG.yield (Yield.index_array Try.underlying47 ti3 rfl rfl (by omega) (by omega)) rfl ?_
              refine OG.eff (Eff.store1 ti3 rfl rfl (by repeat (first | exact Foc.here | apply Foc.there)) rfl (by simp)) rfl ?_
              rintro ⟨⟩ -
              refine OG.nil ?_
              refine QG.then ?_
              refine CG.region ?_
              refine OG.yield (Yield.move rfl) rfl ?_
              refine OG.yield (Yield.index_array Try.underlying46 ti45 rfl rfl (by omega) (by omega)) rfl ?_
              refine OG.yield (Yield.load ti45 rfl (by first | exact Cel.of_blk (by repeat (first | exact Ext.here | apply Ext.there)) rfl | exact (hrow (by repeat (first | exact Ext.here | apply Ext.there))) _ _ rfl)) rfl ?_
              refine OG.yield (Yield.move rfl) rfl ?_
              refine OG.yield (Yield.move rfl) rfl ?_
              refine OG.eff (Eff.mapUpdate vi vi Try.underlying45 keyInt (p : Int) ((140 + f0 : Nat) : Int) rfl rfl rfl (by repeat (first | exact Foc.here | apply Foc.there))) rfl ?_
              rintro ⟨⟩ -
              refine OG.nil ?_
              exact QG.mid (cs, mset s.2.1 (p : Int) ((140 + f0 : Nat) : Int), s.2.2.1, s.2.2.2.1 + 1, s.2.2.2.2) K2 (by repeat (first | exact Env.sub_nil _ | refine Env.sub_cons rfl ?_)) (by repeat (first | exact Imp.refl _ | exact Imp.none _ | apply Imp.pull (by repeat (first | exact Ext.here | apply Ext.there)) | apply Imp.trans Imp.drop))
          · skip
            obtain ⟨u, cs, hset, K2⟩ := AI.set1 (p := p) (f := 140 + f0) K h2 hp4 (by omega)
            have hent := (sp_entry (f := 140 + f0) (p := 3) (by omega) (by omega)).1
            have hsa := K.b1
            have hsb := K.b2
            refine CG.region ?_
            refine OG.yield (Yield.move rfl) rfl ?_
            refine OG.yield (Yield.move rfl) rfl ?_
            refine OG.yield (Yield.move rfl) rfl ?_
            refine OG.yield (Yield.move rfl) rfl ?_
            refine OG.yield (Yield.move rfl) rfl ?_
            refine OG.yield (Yield.index_array Try.underlying47 ti3 rfl rfl (by omega) (by omega)) rfl ?_
            refine OG.yield (Yield.load ti3 rfl (by first | exact Cel.of_blk (by repeat (first | exact Ext.here | apply Ext.there)) rfl | exact (hrow (by repeat (first | exact Ext.here | apply Ext.there))) _ _ rfl)) rfl ?_
            refine OG.callo call12 rfl ((by repeat (first | exact Imp.refl _ | exact Imp.none _ | apply Imp.pull (by repeat (first | exact Ext.here | apply Ext.there)) | apply Imp.trans Imp.drop))) (set_spec W _ (m := m) (n := 200) (root := 1) (p := p) (e := (entryOf ((140 + f0 : Nat) : Int) 3).toNat) (f := ((140 + f0 : Nat) : Int)) (pm := 3) (spare := (s.2.2.2.2 : Int)) (bs := s.1) (by decide) hp4 (by rw [show (3 : Int) = ((3 : Nat) : Int) from rfl, hent]; rfl) (by rw [show (3 : Int) = ((3 : Nat) : Int) from rfl, hent]; omega) (by omega)) rfl ?_
            rintro ⟨⟩ -
            rw [show setR 200 s.1 1 p (entryOf ((140 + f0 : Nat) : Int) 3).toNat (s.2.2.2.2 : Int) = _ from hset]
            refine OG.yield (Yield.move rfl) rfl ?_
            refine OG.yield (Yield.extract rfl rfl) rfl ?_
            refine OG.yield (Yield.extract rfl rfl) rfl ?_
            refine OG.yield (Yield.assign rfl) rfl ?_
            refine OG.yield (Yield.assign rfl) rfl ?_
            refine OG.nil ?_
            refine QG.then ?_
            refine CG.seq ?_
            refine CG.seq ?_
            refine CG.region ?_
            refine OG.yield (Yield.move rfl) rfl ?_
            refine OG.yield (by first | exact Yield.as (Yield.neq rfl rfl) (bT (by omega)) | exact Yield.as (Yield.neq rfl rfl) (bF (by omega)) | exact Yield.neq rfl rfl) rfl ?_
            refine OG.nil ?_
            refine QG.then ?_
            refine CG.cond_f rfl ?_
            refine CG.skip ?_
            refine QG.then ?_
            refine CG.seq ?_
            refine CG.seq ?_
            cases u
            · skip
              refine CG.region ?_
              refine OG.yield (Yield.move rfl) rfl ?_
              refine OG.nil ?_
              refine QG.then ?_
              refine CG.cond_f rfl ?_
              refine CG.skip ?_
              refine QG.then ?_
              refine CG.region ?_
              refine OG.yield (Yield.move rfl) rfl ?_
              refine OG.yield (Yield.index_array Try.underlying46 ti45 rfl rfl (by omega) (by omega)) rfl ?_
              refine OG.yield (Yield.load ti45 rfl (by first | exact Cel.of_blk (by repeat (first | exact Ext.here | apply Ext.there)) rfl | exact (hrow (by repeat (first | exact Ext.here | apply Ext.there))) _ _ rfl)) rfl ?_
              refine OG.yield (Yield.move rfl) rfl ?_
              refine OG.yield (Yield.move rfl) rfl ?_
              refine OG.eff (Eff.mapUpdate vi vi Try.underlying45 keyInt (p : Int) ((140 + f0 : Nat) : Int) rfl rfl rfl (by repeat (first | exact Foc.here | apply Foc.there))) rfl ?_
              rintro ⟨⟩ -
              refine OG.nil ?_
              exact QG.mid (cs, s.2.1, mset s.2.2.1 (p : Int) ((140 + f0 : Nat) : Int), s.2.2.2.1, s.2.2.2.2) K2 (by repeat (first | exact Env.sub_nil _ | refine Env.sub_cons rfl ?_)) (by repeat (first | exact Imp.refl _ | exact Imp.none _ | apply Imp.pull (by repeat (first | exact Ext.here | apply Ext.there)) | apply Imp.trans Imp.drop))
            · skip
              refine CG.region ?_
              refine OG.yield (Yield.move rfl) rfl ?_
              refine OG.nil ?_
              refine QG.then ?_
              refine CG.cond_t rfl ?_
              refine CG.region ?_
              refine OG.yield (Yield.move rfl) rfl ?_
              refine OG.yield (Yield.index_array Try.underlying47 ti3 rfl rfl (by omega) (by omega)) rfl ?_
              refine OG.yield (Yield.load ti3 rfl (by first | exact Cel.of_blk (by repeat (first | exact Ext.here | apply Ext.there)) rfl | exact (hrow (by repeat (first | exact Ext.here | apply Ext.there))) _ _ rfl)) rfl ?_
              refine OG.yield (Yield.add (c := ((s.2.2.2.2 + 1 : Nat) : Int)) rfl rfl (by rw [w64 (by omega) (by omega)]; omega)) rfl ?_
              refine OG.yield (Yield.index_array Try.underlying47 ti3 rfl rfl (by omega) (by omega)) rfl ?_
              refine OG.eff (Eff.store1 ti3 rfl rfl (by repeat (first | exact Foc.here | apply Foc.there)) rfl (by simp)) rfl ?_
              rintro ⟨⟩ -
              refine OG.nil ?_
              refine QG.then ?_
              refine CG.region ?_
              refine OG.yield (Yield.move rfl) rfl ?_
              refine OG.yield (Yield.index_array Try.underlying46 ti45 rfl rfl (by omega) (by omega)) rfl ?_
              refine OG.yield (Yield.load ti45 rfl (by first | exact Cel.of_blk (by repeat (first | exact Ext.here | apply Ext.there)) rfl | exact (hrow (by repeat (first | exact Ext.here | apply Ext.there))) _ _ rfl)) rfl ?_
              refine OG.yield (Yield.move rfl) rfl ?_
              refine OG.yield (Yield.move rfl) rfl ?_
              refine OG.eff (Eff.mapUpdate vi vi Try.underlying45 keyInt (p : Int) ((140 + f0 : Nat) : Int) rfl rfl rfl (by repeat (first | exact Foc.here | apply Foc.there))) rfl ?_
              rintro ⟨⟩ -
              refine OG.nil ?_
              exact QG.mid (cs, s.2.1, mset s.2.2.1 (p : Int) ((140 + f0 : Nat) : Int), s.2.2.2.1, s.2.2.2.2 + 1) K2 (by repeat (first | exact Env.sub_nil _ | refine Env.sub_cons rfl ?_)) (by repeat (first | exact Imp.refl _ | exact Imp.none _ | apply Imp.pull (by repeat (first | exact Ext.here | apply Ext.there)) | apply Imp.trans Imp.drop))
      rintro s' K'
      clear hrow hko hget
      refine CG.seq ?_
      refine CG.region ?_
      refine OG.yield (Yield.assign rfl) rfl ?_
      refine OG.nil ?_
      refine QG.then ?_
      refine CG.block ?_
      refine CG.loop (fun r : Nat => r ≤ 2) (fun r => [(0, .slice (some ⟨b, o, none⟩) ops.length c0), (2, .pointer (some ⟨b2, 0, none⟩)), (3, .pointer (some ⟨m, 0, none⟩)), (5, .pointer (some ⟨b5, 0, none⟩)), (6, .pointer (some ⟨b6, 0, none⟩)), (7, .int .i64 i), (9, .int .i64 p), (15, .int .i64 r)]) (fun r => GS W m r0 r1 b5 b6 b2 s') (fun r => 2 - r) 0 (Nat.zero_le _) (by repeat (first | exact Env.sub_nil _ | refine Env.sub_cons rfl ?_)) (by repeat (first | exact Imp.refl _ | exact Imp.none _ | apply Imp.pull (by repeat (first | exact Ext.here | apply Ext.there)) | apply Imp.trans Imp.drop)) ?_
      intro r hr
      refine CG.seq ?_
      refine CG.seq ?_
      refine CG.region ?_
      refine OG.yield (Yield.move rfl) rfl ?_
      refine OG.yield (by first | exact Yield.as (Yield.lss rfl rfl) (bT (by omega)) | exact Yield.as (Yield.lss rfl rfl) (bF (by omega)) | exact Yield.lss rfl rfl) rfl ?_
      refine OG.nil ?_
      refine QG.then ?_
      refine CG.cond rfl (fun hc => ?_) (fun hc => ?_)
      · try replace hc := of_decide_eq_true hc
        have hr2 : r < 2 := by omega
        refine CG.skip ?_
        refine QG.then ?_
        refine CG.seq ?_
        refine CG.block ?_
        refine CG.seq ?_
        refine CG.region ?_
        refine OG.yield (Yield.move rfl) rfl ?_
        refine OG.yield (Yield.move rfl) rfl ?_
        refine OG.yield (Yield.move rfl) rfl ?_
        refine OG.callo call13 rfl ((by repeat (first | exact Imp.refl _ | exact Imp.none _ | apply Imp.pull (by repeat (first | exact Ext.here | apply Ext.there)) | apply Imp.trans Imp.drop))) (walk_spec W _ (m := m) (n := 200) (root := r) (p := p) (bs := s'.1) (by omega) hp4) rfl ?_
        rintro ⟨⟩ -
        refine OG.yield (Yield.move rfl) rfl ?_
        refine OG.yield (Yield.extract rfl rfl) rfl ?_
        refine OG.yield (Yield.extract rfl rfl) rfl ?_
        refine OG.yield (Yield.extract rfl rfl) rfl ?_
        refine OG.yield (Yield.assign rfl) rfl ?_
        refine OG.yield (Yield.assign rfl) rfl ?_
        refine OG.yield (Yield.assign rfl) rfl ?_
        refine OG.nil ?_
        refine QG.then ?_
        refine CG.seq ?_
        rcases fourC (n := 200) (bs := s'.1) (p := p) hr2 with ⟨rfl, hwk⟩ | ⟨rfl, x, hwk⟩ | ⟨rfl, hwk⟩ | ⟨rfl, x, hwk⟩
        · skip
          rw [walkR_none hwk]
          refine CG.region ?_
          refine OG.yield (Yield.move rfl) rfl ?_
          refine OG.yield (Yield.index_array Try.underlying46 ti45 rfl rfl (by omega) (by omega)) rfl ?_
          refine OG.yield (Yield.load ti45 rfl (by first | exact Cel.of_blk (by repeat (first | exact Ext.here | apply Ext.there)) rfl | exact (hrow (by repeat (first | exact Ext.here | apply Ext.there))) _ _ rfl)) rfl ?_
          refine OG.yield (Yield.move rfl) rfl ?_
          refine OG.yield (Yield.lookup vi vi (l := s'.2.1) Try.underlying45 ti3 keyInt (p : Int) rfl rfl (by repeat (first | exact Ext.here | apply Ext.there))) rfl ?_
          first | rw [K'.a.has p hp4, hwk] | rw [K'.b.has p hp4, hwk]
          refine OG.yield (Yield.move rfl) rfl ?_
          refine OG.yield (Yield.extract rfl rfl) rfl ?_
          refine OG.yield (Yield.extract rfl rfl) rfl ?_
          refine OG.yield (Yield.assign rfl) rfl ?_
          refine OG.yield (Yield.assign rfl) rfl ?_
          refine OG.nil ?_
          refine QG.then ?_
          refine CG.seq ?_
          refine CG.region ?_
          refine OG.yield (Yield.move rfl) rfl ?_
          refine OG.yield (Yield.move rfl) rfl ?_
          refine OG.yield (by first | exact Yield.as (Yield.eql rfl rfl) (bT (by omega)) | exact Yield.as (Yield.eql rfl rfl) (bF (by omega)) | exact Yield.eql rfl rfl) rfl ?_
          refine OG.yield (by first | exact Yield.bool_samen Try.underlying4 rfl rfl | exact Yield.bool_neq Try.underlying4 rfl rfl) rfl ?_
          refine OG.yield (Yield.move rfl) rfl ?_
          refine OG.guard_yes rfl rfl rfl (by decide) ?_
          refine OG.yield (Yield.move rfl) rfl ?_
          refine OG.guard_yes rfl rfl rfl (by decide) ?_
          refine OG.yield (Yield.move rfl) rfl ?_
          refine OG.guard_no rfl rfl rfl rfl rfl (by decide) (by decide) ?_
          refine OG.guard_no rfl rfl rfl rfl rfl (by decide) (by decide) ?_
          refine OG.guard_no rfl rfl rfl rfl rfl (by decide) (by decide) ?_
          refine OG.guard_yes rfl rfl rfl (by decide) ?_
          refine OG.yield (by first | exact Yield.pick_t rfl rfl | exact Yield.pick_f rfl rfl | exact Yield.pick rfl (fun _ => rfl) (fun _ => rfl)) rfl ?_
          refine OG.yield (by first | exact Yield.pick_t rfl rfl | exact Yield.pick_f rfl rfl | exact Yield.pick rfl (fun _ => rfl) (fun _ => rfl)) rfl ?_
          refine OG.nil ?_
          refine QG.then ?_
          refine CG.cond_f rfl ?_
          refine CG.skip ?_
          refine QG.block_normal ?_
          refine QG.then ?_
          refine CG.region ?_
          refine OG.yield (Yield.move rfl) rfl ?_
          refine OG.yield (Yield.add rfl rfl (w64 (by omega) (by omega))) rfl ?_
          refine OG.yield (Yield.assign rfl) rfl ?_
          refine OG.nil ?_
          exact QG.next 1 (by decide) (by decide) (by repeat (first | exact Env.sub_nil _ | refine Env.sub_cons rfl ?_)) (by repeat (first | exact Imp.refl _ | exact Imp.none _ | apply Imp.pull (by repeat (first | exact Ext.here | apply Ext.there)) | apply Imp.trans Imp.drop))
        · skip
          rw [walkR_some hwk]
          refine CG.region ?_
          refine OG.yield (Yield.move rfl) rfl ?_
          refine OG.yield (Yield.index_array Try.underlying46 ti45 rfl rfl (by omega) (by omega)) rfl ?_
          refine OG.yield (Yield.load ti45 rfl (by first | exact Cel.of_blk (by repeat (first | exact Ext.here | apply Ext.there)) rfl | exact (hrow (by repeat (first | exact Ext.here | apply Ext.there))) _ _ rfl)) rfl ?_
          refine OG.yield (Yield.move rfl) rfl ?_
          refine OG.yield (Yield.lookup vi vi (l := s'.2.1) Try.underlying45 ti3 keyInt (p : Int) rfl rfl (by repeat (first | exact Ext.here | apply Ext.there))) rfl ?_
          first | rw [K'.a.has p hp4, hwk] | rw [K'.b.has p hp4, hwk]
          refine OG.yield (Yield.move rfl) rfl ?_
          refine OG.yield (Yield.extract rfl rfl) rfl ?_
          refine OG.yield (Yield.extract rfl rfl) rfl ?_
          refine OG.yield (Yield.assign rfl) rfl ?_
          refine OG.yield (Yield.assign rfl) rfl ?_
          refine OG.nil ?_
          refine QG.then ?_
          refine CG.seq ?_
          refine CG.region ?_
          refine OG.yield (Yield.move rfl) rfl ?_
          refine OG.yield (Yield.move rfl) rfl ?_
          refine OG.yield (by first | exact Yield.as (Yield.eql rfl rfl) (bT (by omega)) | exact Yield.as (Yield.eql rfl rfl) (bF (by omega)) | exact Yield.eql rfl rfl) rfl ?_
          refine OG.yield (by first | exact Yield.bool_samen Try.underlying4 rfl rfl | exact Yield.bool_neq Try.underlying4 rfl rfl) rfl ?_
          refine OG.yield (Yield.move rfl) rfl ?_
          refine OG.guard_yes rfl rfl rfl (by decide) ?_
          refine OG.yield (Yield.move rfl) rfl ?_
          refine OG.guard_yes rfl rfl rfl (by decide) ?_
          refine OG.yield (Yield.move rfl) rfl ?_
          refine OG.guard_yes rfl rfl rfl (by decide) ?_
          refine OG.yield (Yield.move rfl) rfl ?_
          refine OG.guard_yes rfl rfl rfl (by decide) ?_
          refine OG.yield (Yield.move rfl) rfl ?_
          refine OG.guard_yes rfl rfl rfl (by decide) ?_
          refine OG.yield (Yield.as (Yield.neq rfl rfl) (v' := .bool false) (by simp [vf])) rfl ?_
          refine OG.guard_yes rfl rfl rfl (by decide) ?_
          refine OG.yield (by first | exact Yield.pick_t rfl rfl | exact Yield.pick_f rfl rfl | exact Yield.pick rfl (fun _ => rfl) (fun _ => rfl)) rfl ?_
          refine OG.yield (by first | exact Yield.pick_t rfl rfl | exact Yield.pick_f rfl rfl | exact Yield.pick rfl (fun _ => rfl) (fun _ => rfl)) rfl ?_
          refine OG.nil ?_
          refine QG.then ?_
          refine CG.cond_f rfl ?_
          refine CG.skip ?_
          refine QG.block_normal ?_
          refine QG.then ?_
          refine CG.region ?_
          refine OG.yield (Yield.move rfl) rfl ?_
          refine OG.yield (Yield.add rfl rfl (w64 (by omega) (by omega))) rfl ?_
          refine OG.yield (Yield.assign rfl) rfl ?_
          refine OG.nil ?_
          exact QG.next 1 (by decide) (by decide) (by repeat (first | exact Env.sub_nil _ | refine Env.sub_cons rfl ?_)) (by repeat (first | exact Imp.refl _ | exact Imp.none _ | apply Imp.pull (by repeat (first | exact Ext.here | apply Ext.there)) | apply Imp.trans Imp.drop))
        · skip
          rw [walkR_none hwk]
          refine CG.region ?_
          refine OG.yield (Yield.move rfl) rfl ?_
          refine OG.yield (Yield.index_array Try.underlying46 ti45 rfl rfl (by omega) (by omega)) rfl ?_
          refine OG.yield (Yield.load ti45 rfl (by first | exact Cel.of_blk (by repeat (first | exact Ext.here | apply Ext.there)) rfl | exact (hrow (by repeat (first | exact Ext.here | apply Ext.there))) _ _ rfl)) rfl ?_
          refine OG.yield (Yield.move rfl) rfl ?_
          refine OG.yield (Yield.lookup vi vi (l := s'.2.2.1) Try.underlying45 ti3 keyInt (p : Int) rfl rfl (by repeat (first | exact Ext.here | apply Ext.there))) rfl ?_
          first | rw [K'.a.has p hp4, hwk] | rw [K'.b.has p hp4, hwk]
          refine OG.yield (Yield.move rfl) rfl ?_
          refine OG.yield (Yield.extract rfl rfl) rfl ?_
          refine OG.yield (Yield.extract rfl rfl) rfl ?_
          refine OG.yield (Yield.assign rfl) rfl ?_
          refine OG.yield (Yield.assign rfl) rfl ?_
          refine OG.nil ?_
          refine QG.then ?_
          refine CG.seq ?_
          refine CG.region ?_
          refine OG.yield (Yield.move rfl) rfl ?_
          refine OG.yield (Yield.move rfl) rfl ?_
          refine OG.yield (by first | exact Yield.as (Yield.eql rfl rfl) (bT (by omega)) | exact Yield.as (Yield.eql rfl rfl) (bF (by omega)) | exact Yield.eql rfl rfl) rfl ?_
          refine OG.yield (by first | exact Yield.bool_samen Try.underlying4 rfl rfl | exact Yield.bool_neq Try.underlying4 rfl rfl) rfl ?_
          refine OG.yield (Yield.move rfl) rfl ?_
          refine OG.guard_yes rfl rfl rfl (by decide) ?_
          refine OG.yield (Yield.move rfl) rfl ?_
          refine OG.guard_yes rfl rfl rfl (by decide) ?_
          refine OG.yield (Yield.move rfl) rfl ?_
          refine OG.guard_no rfl rfl rfl rfl rfl (by decide) (by decide) ?_
          refine OG.guard_no rfl rfl rfl rfl rfl (by decide) (by decide) ?_
          refine OG.guard_no rfl rfl rfl rfl rfl (by decide) (by decide) ?_
          refine OG.guard_yes rfl rfl rfl (by decide) ?_
          refine OG.yield (by first | exact Yield.pick_t rfl rfl | exact Yield.pick_f rfl rfl | exact Yield.pick rfl (fun _ => rfl) (fun _ => rfl)) rfl ?_
          refine OG.yield (by first | exact Yield.pick_t rfl rfl | exact Yield.pick_f rfl rfl | exact Yield.pick rfl (fun _ => rfl) (fun _ => rfl)) rfl ?_
          refine OG.nil ?_
          refine QG.then ?_
          refine CG.cond_f rfl ?_
          refine CG.skip ?_
          refine QG.block_normal ?_
          refine QG.then ?_
          refine CG.region ?_
          refine OG.yield (Yield.move rfl) rfl ?_
          refine OG.yield (Yield.add rfl rfl (w64 (by omega) (by omega))) rfl ?_
          refine OG.yield (Yield.assign rfl) rfl ?_
          refine OG.nil ?_
          exact QG.next 2 (by decide) (by decide) (by repeat (first | exact Env.sub_nil _ | refine Env.sub_cons rfl ?_)) (by repeat (first | exact Imp.refl _ | exact Imp.none _ | apply Imp.pull (by repeat (first | exact Ext.here | apply Ext.there)) | apply Imp.trans Imp.drop))
        · skip
          rw [walkR_some hwk]
          refine CG.region ?_
          refine OG.yield (Yield.move rfl) rfl ?_
          refine OG.yield (Yield.index_array Try.underlying46 ti45 rfl rfl (by omega) (by omega)) rfl ?_
          refine OG.yield (Yield.load ti45 rfl (by first | exact Cel.of_blk (by repeat (first | exact Ext.here | apply Ext.there)) rfl | exact (hrow (by repeat (first | exact Ext.here | apply Ext.there))) _ _ rfl)) rfl ?_
          refine OG.yield (Yield.move rfl) rfl ?_
          refine OG.yield (Yield.lookup vi vi (l := s'.2.2.1) Try.underlying45 ti3 keyInt (p : Int) rfl rfl (by repeat (first | exact Ext.here | apply Ext.there))) rfl ?_
          first | rw [K'.a.has p hp4, hwk] | rw [K'.b.has p hp4, hwk]
          refine OG.yield (Yield.move rfl) rfl ?_
          refine OG.yield (Yield.extract rfl rfl) rfl ?_
          refine OG.yield (Yield.extract rfl rfl) rfl ?_
          refine OG.yield (Yield.assign rfl) rfl ?_
          refine OG.yield (Yield.assign rfl) rfl ?_
          refine OG.nil ?_
          refine QG.then ?_
          refine CG.seq ?_
          refine CG.region ?_
          refine OG.yield (Yield.move rfl) rfl ?_
          refine OG.yield (Yield.move rfl) rfl ?_
          refine OG.yield (by first | exact Yield.as (Yield.eql rfl rfl) (bT (by omega)) | exact Yield.as (Yield.eql rfl rfl) (bF (by omega)) | exact Yield.eql rfl rfl) rfl ?_
          refine OG.yield (by first | exact Yield.bool_samen Try.underlying4 rfl rfl | exact Yield.bool_neq Try.underlying4 rfl rfl) rfl ?_
          refine OG.yield (Yield.move rfl) rfl ?_
          refine OG.guard_yes rfl rfl rfl (by decide) ?_
          refine OG.yield (Yield.move rfl) rfl ?_
          refine OG.guard_yes rfl rfl rfl (by decide) ?_
          refine OG.yield (Yield.move rfl) rfl ?_
          refine OG.guard_yes rfl rfl rfl (by decide) ?_
          refine OG.yield (Yield.move rfl) rfl ?_
          refine OG.guard_yes rfl rfl rfl (by decide) ?_
          refine OG.yield (Yield.move rfl) rfl ?_
          refine OG.guard_yes rfl rfl rfl (by decide) ?_
          refine OG.yield (Yield.as (Yield.neq rfl rfl) (v' := .bool false) (by simp [vf])) rfl ?_
          refine OG.guard_yes rfl rfl rfl (by decide) ?_
          refine OG.yield (by first | exact Yield.pick_t rfl rfl | exact Yield.pick_f rfl rfl | exact Yield.pick rfl (fun _ => rfl) (fun _ => rfl)) rfl ?_
          refine OG.yield (by first | exact Yield.pick_t rfl rfl | exact Yield.pick_f rfl rfl | exact Yield.pick rfl (fun _ => rfl) (fun _ => rfl)) rfl ?_
          refine OG.nil ?_
          refine QG.then ?_
          refine CG.cond_f rfl ?_
          refine CG.skip ?_
          refine QG.block_normal ?_
          refine QG.then ?_
          refine CG.region ?_
          refine OG.yield (Yield.move rfl) rfl ?_
          refine OG.yield (Yield.add rfl rfl (w64 (by omega) (by omega))) rfl ?_
          refine OG.yield (Yield.assign rfl) rfl ?_
          refine OG.nil ?_
          exact QG.next 2 (by decide) (by decide) (by repeat (first | exact Env.sub_nil _ | refine Env.sub_cons rfl ?_)) (by repeat (first | exact Imp.refl _ | exact Imp.none _ | apply Imp.pull (by repeat (first | exact Ext.here | apply Ext.there)) | apply Imp.trans Imp.drop))
      · try replace hc := of_decide_eq_false hc
        refine CG.exit ?_
        refine QG.pass_exit ?_
        refine QG.pass_exit ?_
        refine QG.block_exit ?_
        refine QG.block_normal ?_
        refine QG.then ?_
        refine CG.region ?_
        refine OG.yield (Yield.move rfl) rfl ?_
        refine OG.yield (Yield.add rfl rfl (w64 (by omega) (by omega))) rfl ?_
        refine OG.yield (Yield.assign rfl) rfl ?_
        refine OG.nil ?_
        exact QG.next (i + 1, s') ⟨h1, h2, K'⟩ (by simp only; omega) (by repeat (first | exact Env.sub_nil _ | refine Env.sub_cons rfl ?_)) (by repeat (first | exact Imp.refl _ | exact Imp.none _ | apply Imp.pull (by repeat (first | exact Ext.here | apply Ext.there)) | apply Imp.trans Imp.drop))
    · skip
      refine CG.region ?_
      refine OG.yield (Yield.move rfl) rfl ?_
      refine OG.yield (Yield.move rfl) rfl ?_
      refine OG.yield (Yield.len_slice Try.underlying22 rfl rfl) rfl ?_
      refine OG.yield (by first | exact Yield.as (Yield.lss rfl rfl) (bT (by omega)) | exact Yield.as (Yield.lss rfl rfl) (bF (by omega)) | exact Yield.lss rfl rfl) rfl ?_
      refine OG.yield (Yield.move rfl) rfl ?_
      refine OG.guard_yes rfl rfl rfl (by decide) ?_
      refine OG.yield (Yield.move rfl) rfl ?_
      refine OG.guard_yes rfl rfl rfl (by decide) ?_
      refine OG.yield (by first | exact Yield.as (Yield.lss rfl rfl) (bT (by omega)) | exact Yield.as (Yield.lss rfl rfl) (bF (by omega)) | exact Yield.lss rfl rfl) rfl ?_
      refine OG.yield (by first | exact Yield.pick_t rfl rfl | exact Yield.pick_f rfl rfl | exact Yield.pick rfl (fun _ => rfl) (fun _ => rfl)) rfl ?_
      refine OG.nil ?_
      refine QG.then ?_
      refine CG.cond_f rfl ?_
      refine CG.exit ?_
      refine QG.pass_exit ?_
      refine QG.pass_exit ?_
      refine QG.block_exit ?_
      exact QG.mid (i, s) K (by repeat (first | exact Env.sub_nil _ | refine Env.sub_cons rfl ?_)) (by repeat (first | exact Imp.refl _ | exact Imp.none _ | apply Imp.pull (by repeat (first | exact Ext.here | apply Ext.there)) | apply Imp.trans Imp.drop))
    · skip
      refine CG.region ?_
      refine OG.yield (Yield.move rfl) rfl ?_
      refine OG.yield (Yield.move rfl) rfl ?_
      refine OG.yield (Yield.len_slice Try.underlying22 rfl rfl) rfl ?_
      refine OG.yield (by first | exact Yield.as (Yield.lss rfl rfl) (bT (by omega)) | exact Yield.as (Yield.lss rfl rfl) (bF (by omega)) | exact Yield.lss rfl rfl) rfl ?_
      refine OG.yield (Yield.move rfl) rfl ?_
      refine OG.guard_no rfl rfl rfl rfl rfl (by decide) (by decide) ?_
      refine OG.guard_no rfl rfl rfl rfl rfl (by decide) (by decide) ?_
      refine OG.yield (by first | exact Yield.pick_t rfl rfl | exact Yield.pick_f rfl rfl | exact Yield.pick rfl (fun _ => rfl) (fun _ => rfl)) rfl ?_
      refine OG.nil ?_
      refine QG.then ?_
      refine CG.cond_f rfl ?_
      refine CG.exit ?_
      refine QG.pass_exit ?_
      refine QG.pass_exit ?_
      refine QG.block_exit ?_
      exact QG.mid (i, s) K (by repeat (first | exact Env.sub_nil _ | refine Env.sub_cons rfl ?_)) (by repeat (first | exact Imp.refl _ | exact Imp.none _ | apply Imp.pull (by repeat (first | exact Ext.here | apply Ext.there)) | apply Imp.trans Imp.drop))
  rintro ⟨i, s⟩ K
  dsimp only at K ⊢
  refine CG.seq ?_
  refine CG.seq ?_
  refine CG.region ?_
  refine OG.effd (Eff.alloc ti3) rfl ?_
  rintro b21 -
  refine OG.eff (Eff.store1 ti3 rfl rfl (by repeat (first | exact Foc.here | apply Foc.there)) rfl (by decide)) rfl ?_
  rintro ⟨⟩ -
  refine OG.nil ?_
  refine QG.then ?_
  refine CG.block ?_
  refine CG.loopD (ι := Nat × Nat × List Nat) (fun z => marks z.2.2) (fun z => z.1 ≤ 2) (fun z => [(2, .pointer (some ⟨b2, 0, none⟩)), (3, .pointer (some ⟨m, 0, none⟩)), (5, .pointer (some ⟨b5, 0, none⟩)), (21, .pointer (some ⟨z.2.1, 0, none⟩))]) (fun z => dblks z.2.2 :: blk z.2.1 [.int .i64 z.1] 3 :: GS W m r0 r1 b5 b6 b2 s) (fun z => 2 - z.1) (0, b21, []) rfl (Nat.zero_le _) (by repeat (first | exact Env.sub_nil _ | refine Env.sub_cons rfl ?_)) (Imp.trans (by repeat (first | exact Imp.refl _ | exact Imp.none _ | apply Imp.pull (by repeat (first | exact Ext.here | apply Ext.there)) | apply Imp.trans Imp.drop)) dblks_nil) ?_
  rintro ⟨r, br', ms⟩ hr
  dsimp only at hr ⊢
  refine CG.seq ?_
  refine CG.seq ?_
  refine CG.region ?_
  refine OG.yield (Yield.load ti3 rfl (by first | exact Cel.of_blk (by repeat (first | exact Ext.here | apply Ext.there)) rfl | exact (hrow (by repeat (first | exact Ext.here | apply Ext.there))) _ _ rfl)) rfl ?_
  refine OG.yield (by first | exact Yield.as (Yield.lss rfl rfl) (bT (by omega)) | exact Yield.as (Yield.lss rfl rfl) (bF (by omega)) | exact Yield.lss rfl rfl) rfl ?_
  refine OG.nil ?_
  refine QG.then ?_
  refine CG.cond rfl (fun hc => ?_) (fun hc => ?_)
  · try replace hc := of_decide_eq_true hc
    have hr2 : r < 2 := by omega
    refine CG.skip ?_
    refine QG.then ?_
    refine CG.seq ?_
    refine CG.block ?_
    refine CG.seq ?_
    refine CG.region ?_
    refine OG.effd (Eff.alloc ti3) rfl ?_
    rintro b22 -
    refine OG.eff (Eff.store1 ti3 rfl rfl (by repeat (first | exact Foc.here | apply Foc.there)) rfl (by decide)) rfl ?_
    rintro ⟨⟩ -
    refine OG.nil ?_
    refine QG.then ?_
    refine CG.seq ?_
    refine CG.region ?_
    refine OG.yield (Yield.move rfl) rfl ?_
    refine OG.yield (Yield.load ti3 rfl (by first | exact Cel.of_blk (by repeat (first | exact Ext.here | apply Ext.there)) rfl | exact (hrow (by repeat (first | exact Ext.here | apply Ext.there))) _ _ rfl)) rfl ?_
    refine OG.callo call14 rfl (Imp.refl _) (pages_spec W _ (m := m) (root := r)) rfl ?_
    rintro ⟨bm, br⟩ -
    dsimp only
    refine OG.yield (Yield.assign rfl) rfl ?_
    refine OG.nil ?_
    refine QG.then ?_
    refine CG.seq ?_
    refine CG.seq ?_
    refine CG.region ?_
    refine OG.yield (Yield.move rfl) rfl ?_
    refine OG.yield (Yield.fn_nil Try.underlying42 rfl rfl) rfl ?_
    refine OG.nil ?_
    refine QG.then ?_
    refine CG.cond_f rfl ?_
    refine CG.skip ?_
    refine QG.then ?_
    refine CG.seq ?_
    refine CG.seq ?_
    rcases (show r = 0 ∨ r = 1 by omega) with rfl | rfl
    · skip
      have hlen := K.a.len
      have hhas := K.a.has
      refine CG.region ?_
      refine OG.yield (Yield.move rfl) rfl ?_
      refine OG.nil ?_
      refine QG.then ?_
      refine CG.block ?_
      refine CG.range (ι := Empty) (pages 200 s.1 0).length (pgEnc (pages 200 s.1 0)) (fun _ => True) (fun i => i.elim) (fun k => [blk b22 [.int .i64 k] 3, blk br [.int .i64 0] 3, blk bm [.pointer (some ⟨m, 0, none⟩)] 24, dblks ms, blk br' [.int .i64 0] 3] ++ GS W m r0 r1 b5 b6 b2 s) (fun i => i.elim) rfl call44 rfl (fun _ => rfl) ?_ ?_ ?_ ?_ ?_
      · exact (by repeat (first | exact Imp.refl _ | exact Imp.none _ | apply Imp.pull (by repeat (first | exact Ext.here | apply Ext.there)) | apply Imp.trans Imp.drop))
      · intro D l q
        exact (pages_hit0 W (root := 0) (m := m) (bm := bm) (br := br) (by decide) (Y := fun k => [lrec l q .ready none, dblk D, blk b22 [.int .i64 k] 3, dblks ms, blk br' [.int .i64 0] 3, blk b6 [.int .i64 s.2.2.2.1, .int .i64 s.2.2.2.2] 47, blk b5 [.map (some r0), .map (some r1)] 46, hmap vi vi r0 s.2.1, hmap vi vi r1 s.2.2.1, blk b2 [.bool false] 4, old W]) (Z := fun i : Empty => i.elim)).conv (fun _ => (by repeat (first | exact Imp.refl _ | exact Imp.none _ | apply Imp.pull (by repeat (first | exact Ext.here | apply Ext.there)) | apply Imp.trans Imp.drop))) (fun _ => (by repeat (first | exact Imp.refl _ | exact Imp.none _ | apply Imp.pull (by repeat (first | exact Ext.here | apply Ext.there)) | apply Imp.trans Imp.drop))) (fun i => i.elim) (fun i => i.elim)
      · intro D l q k hk
        refine CG.seq ?_
        obtain ⟨p, x, hp4, hwk, hpk⟩ := pages_mem hk
        rw [pgEnc_at hpk]
        have hle : (pages 200 s.1 0).length ≤ 4096 ∧ (pages 200 s.1 1).length ≤ 4096 := ⟨pages_le 4096, pages_le 4096⟩
        refine CG.region ?_
        refine OG.yield (Yield.assign rfl) rfl ?_
        refine OG.nil ?_
        refine QG.then ?_
        refine CG.region ?_
        refine OG.yield (Yield.assign rfl) rfl ?_
        refine OG.nil ?_
        refine QG.begin (by repeat (first | exact Ext.here | apply Ext.there)) ?_
        refine CG.block ?_
        refine CG.seq ?_
        refine CG.region ?_
        refine OG.yield (Yield.load ti3 rfl (by first | exact Cel.of_blk (by repeat (first | exact Ext.here | apply Ext.there)) rfl | exact (hrow (by repeat (first | exact Ext.here | apply Ext.there))) _ _ rfl)) rfl ?_
        refine OG.yield (Yield.index_array Try.underlying46 ti45 rfl rfl (by omega) (by omega)) rfl ?_
        refine OG.yield (Yield.load ti45 rfl (by first | exact Cel.of_blk (by repeat (first | exact Ext.here | apply Ext.there)) rfl | exact (hrow (by repeat (first | exact Ext.here | apply Ext.there))) _ _ rfl)) rfl ?_
        refine OG.yield (Yield.move rfl) rfl ?_
        refine OG.yield (Yield.lookup vi vi (l := s.2.1) Try.underlying45 ti3 keyInt (p : Int) rfl rfl (by repeat (first | exact Ext.here | apply Ext.there))) rfl ?_
        rw [hhas p hp4, hwk]
        refine OG.yield (Yield.move rfl) rfl ?_
        refine OG.yield (Yield.extract rfl rfl) rfl ?_
        refine OG.yield (Yield.extract rfl rfl) rfl ?_
        refine OG.yield (Yield.assign rfl) rfl ?_
        refine OG.yield (Yield.assign rfl) rfl ?_
        refine OG.nil ?_
        refine QG.then ?_
        refine CG.seq ?_
        refine CG.seq ?_
        refine CG.region ?_
        refine OG.yield (Yield.move rfl) rfl ?_
        refine OG.yield (Yield.not rfl) rfl ?_
        refine OG.yield (Yield.move rfl) rfl ?_
        refine OG.guard_yes rfl rfl rfl (by decide) ?_
        refine OG.yield (Yield.move rfl) rfl ?_
        refine OG.guard_yes rfl rfl rfl (by decide) ?_
        refine OG.yield (Yield.move rfl) rfl ?_
        refine OG.guard_yes rfl rfl rfl (by decide) ?_
        refine OG.yield (Yield.as (Yield.neq rfl rfl) (v' := .bool false) (by simp [vf])) rfl ?_
        refine OG.yield (by first | exact Yield.pick_t rfl rfl | exact Yield.pick_f rfl rfl | exact Yield.pick rfl (fun _ => rfl) (fun _ => rfl)) rfl ?_
        refine OG.nil ?_
        refine QG.then ?_
        refine CG.cond_f rfl ?_
        refine CG.skip ?_
        refine QG.then ?_
        refine CG.region ?_
        refine OG.yield (Yield.load ti3 rfl (by first | exact Cel.of_blk (by repeat (first | exact Ext.here | apply Ext.there)) rfl | exact (hrow (by repeat (first | exact Ext.here | apply Ext.there))) _ _ rfl)) rfl ?_
        refine OG.yield (Yield.add (c := ((k + 1 : Nat) : Int)) rfl rfl (by rw [w64 (by omega) (by omega)]; omega)) rfl ?_
        refine OG.eff (Eff.store1 ti3 rfl rfl (by repeat (first | exact Foc.here | apply Foc.there)) rfl (by first | (simp; done) | decide)) rfl ?_
        rintro ⟨⟩ -
        refine OG.nil ?_
        refine QG.block_normal ?_
        exact QG.round_next (by repeat (first | exact Ext.here | apply Ext.there)) (by repeat (first | exact Imp.refl _ | exact Imp.none _ | apply Imp.pull (by repeat (first | exact Ext.here | apply Ext.there)) | apply Imp.trans Imp.drop))
      · intro D
        refine QG.block_normal ?_
        refine QG.then ?_
        refine CG.seq ?_
        refine CG.draw (.look 0 1 (.look 1 1 (.look 2 1 (.look 3 1 (.look 4 1 (.look 5 1 (.done))))))) [] [] ([]) ([]) mixed (by kernel_rfl) (Imp.none _) (Imp.none _) ?_
        refine DG.look rfl rfl (Yield.load ti3 rfl (by first | exact Cel.of_blk (by repeat (first | exact Ext.here | apply Ext.there)) rfl | exact (hrow (by repeat (first | exact Ext.here | apply Ext.there))) _ _ rfl)) rfl ?_
        refine DG.look rfl rfl (Yield.load ti3 rfl (by first | exact Cel.of_blk (by repeat (first | exact Ext.here | apply Ext.there)) rfl | exact (hrow (by repeat (first | exact Ext.here | apply Ext.there))) _ _ rfl)) rfl ?_
        refine DG.look rfl rfl (Yield.index_array Try.underlying46 ti45 rfl rfl (by omega) (by omega)) rfl ?_
        refine DG.look rfl rfl (Yield.load ti45 rfl (by first | exact Cel.of_blk (by repeat (first | exact Ext.here | apply Ext.there)) rfl | exact (hrow (by repeat (first | exact Ext.here | apply Ext.there))) _ _ rfl)) rfl ?_
        refine DG.look rfl rfl (Yield.len_map Try.underlying45 rfl rfl (by repeat (first | exact Ext.here | apply Ext.there))) rfl ?_
        rw [hlen]
        refine DG.look rfl rfl (Yield.as (Yield.neq rfl rfl) (v' := .bool false) (by simp)) rfl ?_
        refine DG.done ?_
        refine QG.then ?_
        refine CG.cond_f rfl ?_
        refine CG.skip ?_
        refine QG.block_normal ?_
        refine QG.then ?_
        refine CG.seq ?_
        refine CG.seq ?_
        refine CG.region ?_
        refine OG.yield (Yield.load ti3 rfl (by first | exact Cel.of_blk (by repeat (first | exact Ext.here | apply Ext.there)) rfl | exact (hrow (by repeat (first | exact Ext.here | apply Ext.there))) _ _ rfl)) rfl ?_
        refine OG.nil ?_
        refine QG.then ?_
        refine CG.region ?_
        refine OG.effd (Eff.alloc ti3) rfl ?_
        rintro b21 -
        refine OG.eff (Eff.store1 ti3 rfl rfl (by repeat (first | exact Foc.here | apply Foc.there)) rfl (by decide)) rfl ?_
        rintro ⟨⟩ -
        refine OG.nil ?_
        refine QG.then ?_
        refine CG.region ?_
        refine OG.yield (Yield.load ti3 rfl (by first | exact Cel.of_blk (by repeat (first | exact Ext.here | apply Ext.there)) rfl | exact (hrow (by repeat (first | exact Ext.here | apply Ext.there))) _ _ rfl)) rfl ?_
        refine OG.yield (Yield.add rfl rfl (w64 (by omega) (by omega))) rfl ?_
        refine OG.eff (Eff.store1 ti3 rfl rfl (by repeat (first | exact Foc.here | apply Foc.there)) rfl (by first | (simp; done) | decide)) rfl ?_
        rintro ⟨⟩ -
        refine OG.nil ?_
        exact QG.nextD (1, b21, D :: ms) rfl (show (1 : Nat) ≤ 2 by decide) (show 2 - 1 < 2 - 0 by decide) (by repeat (first | exact Env.sub_nil _ | refine Env.sub_cons rfl ?_)) (Imp.trans (B := dblk D :: dblks ms :: blk b21 [.int .i64 1] 3 :: GS W m r0 r1 b5 b6 b2 s) (by repeat (first | exact Imp.refl _ | exact Imp.none _ | apply Imp.pull (by repeat (first | exact Ext.here | apply Ext.there)) | apply Imp.trans Imp.drop)) dblks_push)
      · intro D i
        exact i.elim
    · skip
      have hlen := K.b.len
      have hhas := K.b.has
      refine CG.region ?_
      refine OG.yield (Yield.move rfl) rfl ?_
      refine OG.nil ?_
      refine QG.then ?_
      refine CG.block ?_
      refine CG.range (ι := Empty) (pages 200 s.1 1).length (pgEnc (pages 200 s.1 1)) (fun _ => True) (fun i => i.elim) (fun k => [blk b22 [.int .i64 k] 3, blk br [.int .i64 1] 3, blk bm [.pointer (some ⟨m, 0, none⟩)] 24, dblks ms, blk br' [.int .i64 1] 3] ++ GS W m r0 r1 b5 b6 b2 s) (fun i => i.elim) rfl call44 rfl (fun _ => rfl) ?_ ?_ ?_ ?_ ?_
      · exact (by repeat (first | exact Imp.refl _ | exact Imp.none _ | apply Imp.pull (by repeat (first | exact Ext.here | apply Ext.there)) | apply Imp.trans Imp.drop))
      · intro D l q
        exact (pages_hit0 W (root := 1) (m := m) (bm := bm) (br := br) (by decide) (Y := fun k => [lrec l q .ready none, dblk D, blk b22 [.int .i64 k] 3, dblks ms, blk br' [.int .i64 1] 3, blk b6 [.int .i64 s.2.2.2.1, .int .i64 s.2.2.2.2] 47, blk b5 [.map (some r0), .map (some r1)] 46, hmap vi vi r0 s.2.1, hmap vi vi r1 s.2.2.1, blk b2 [.bool false] 4, old W]) (Z := fun i : Empty => i.elim)).conv (fun _ => (by repeat (first | exact Imp.refl _ | exact Imp.none _ | apply Imp.pull (by repeat (first | exact Ext.here | apply Ext.there)) | apply Imp.trans Imp.drop))) (fun _ => (by repeat (first | exact Imp.refl _ | exact Imp.none _ | apply Imp.pull (by repeat (first | exact Ext.here | apply Ext.there)) | apply Imp.trans Imp.drop))) (fun i => i.elim) (fun i => i.elim)
      · intro D l q k hk
        refine CG.seq ?_
        obtain ⟨p, x, hp4, hwk, hpk⟩ := pages_mem hk
        rw [pgEnc_at hpk]
        have hle : (pages 200 s.1 0).length ≤ 4096 ∧ (pages 200 s.1 1).length ≤ 4096 := ⟨pages_le 4096, pages_le 4096⟩
        refine CG.region ?_
        refine OG.yield (Yield.assign rfl) rfl ?_
        refine OG.nil ?_
        refine QG.then ?_
        refine CG.region ?_
        refine OG.yield (Yield.assign rfl) rfl ?_
        refine OG.nil ?_
        refine QG.begin (by repeat (first | exact Ext.here | apply Ext.there)) ?_
        refine CG.block ?_
        refine CG.seq ?_
        refine CG.region ?_
        refine OG.yield (Yield.load ti3 rfl (by first | exact Cel.of_blk (by repeat (first | exact Ext.here | apply Ext.there)) rfl | exact (hrow (by repeat (first | exact Ext.here | apply Ext.there))) _ _ rfl)) rfl ?_
        refine OG.yield (Yield.index_array Try.underlying46 ti45 rfl rfl (by omega) (by omega)) rfl ?_
        refine OG.yield (Yield.load ti45 rfl (by first | exact Cel.of_blk (by repeat (first | exact Ext.here | apply Ext.there)) rfl | exact (hrow (by repeat (first | exact Ext.here | apply Ext.there))) _ _ rfl)) rfl ?_
        refine OG.yield (Yield.move rfl) rfl ?_
        refine OG.yield (Yield.lookup vi vi (l := s.2.2.1) Try.underlying45 ti3 keyInt (p : Int) rfl rfl (by repeat (first | exact Ext.here | apply Ext.there))) rfl ?_
        rw [hhas p hp4, hwk]
        refine OG.yield (Yield.move rfl) rfl ?_
        refine OG.yield (Yield.extract rfl rfl) rfl ?_
        refine OG.yield (Yield.extract rfl rfl) rfl ?_
        refine OG.yield (Yield.assign rfl) rfl ?_
        refine OG.yield (Yield.assign rfl) rfl ?_
        refine OG.nil ?_
        refine QG.then ?_
        refine CG.seq ?_
        refine CG.seq ?_
        refine CG.region ?_
        refine OG.yield (Yield.move rfl) rfl ?_
        refine OG.yield (Yield.not rfl) rfl ?_
        refine OG.yield (Yield.move rfl) rfl ?_
        refine OG.guard_yes rfl rfl rfl (by decide) ?_
        refine OG.yield (Yield.move rfl) rfl ?_
        refine OG.guard_yes rfl rfl rfl (by decide) ?_
        refine OG.yield (Yield.move rfl) rfl ?_
        refine OG.guard_yes rfl rfl rfl (by decide) ?_
        refine OG.yield (Yield.as (Yield.neq rfl rfl) (v' := .bool false) (by simp [vf])) rfl ?_
        refine OG.yield (by first | exact Yield.pick_t rfl rfl | exact Yield.pick_f rfl rfl | exact Yield.pick rfl (fun _ => rfl) (fun _ => rfl)) rfl ?_
        refine OG.nil ?_
        refine QG.then ?_
        refine CG.cond_f rfl ?_
        refine CG.skip ?_
        refine QG.then ?_
        refine CG.region ?_
        refine OG.yield (Yield.load ti3 rfl (by first | exact Cel.of_blk (by repeat (first | exact Ext.here | apply Ext.there)) rfl | exact (hrow (by repeat (first | exact Ext.here | apply Ext.there))) _ _ rfl)) rfl ?_
        refine OG.yield (Yield.add (c := ((k + 1 : Nat) : Int)) rfl rfl (by rw [w64 (by omega) (by omega)]; omega)) rfl ?_
        refine OG.eff (Eff.store1 ti3 rfl rfl (by repeat (first | exact Foc.here | apply Foc.there)) rfl (by first | (simp; done) | decide)) rfl ?_
        rintro ⟨⟩ -
        refine OG.nil ?_
        refine QG.block_normal ?_
        exact QG.round_next (by repeat (first | exact Ext.here | apply Ext.there)) (by repeat (first | exact Imp.refl _ | exact Imp.none _ | apply Imp.pull (by repeat (first | exact Ext.here | apply Ext.there)) | apply Imp.trans Imp.drop))
      · intro D
        refine QG.block_normal ?_
        refine QG.then ?_
        refine CG.seq ?_
        refine CG.draw (.look 0 1 (.look 1 1 (.look 2 1 (.look 3 1 (.look 4 1 (.look 5 1 (.done))))))) [] [] ([]) ([]) mixed (by kernel_rfl) (Imp.none _) (Imp.none _) ?_
        refine DG.look rfl rfl (Yield.load ti3 rfl (by first | exact Cel.of_blk (by repeat (first | exact Ext.here | apply Ext.there)) rfl | exact (hrow (by repeat (first | exact Ext.here | apply Ext.there))) _ _ rfl)) rfl ?_
        refine DG.look rfl rfl (Yield.load ti3 rfl (by first | exact Cel.of_blk (by repeat (first | exact Ext.here | apply Ext.there)) rfl | exact (hrow (by repeat (first | exact Ext.here | apply Ext.there))) _ _ rfl)) rfl ?_
        refine DG.look rfl rfl (Yield.index_array Try.underlying46 ti45 rfl rfl (by omega) (by omega)) rfl ?_
        refine DG.look rfl rfl (Yield.load ti45 rfl (by first | exact Cel.of_blk (by repeat (first | exact Ext.here | apply Ext.there)) rfl | exact (hrow (by repeat (first | exact Ext.here | apply Ext.there))) _ _ rfl)) rfl ?_
        refine DG.look rfl rfl (Yield.len_map Try.underlying45 rfl rfl (by repeat (first | exact Ext.here | apply Ext.there))) rfl ?_
        rw [hlen]
        refine DG.look rfl rfl (Yield.as (Yield.neq rfl rfl) (v' := .bool false) (by simp)) rfl ?_
        refine DG.done ?_
        refine QG.then ?_
        refine CG.cond_f rfl ?_
        refine CG.skip ?_
        refine QG.block_normal ?_
        refine QG.then ?_
        refine CG.seq ?_
        refine CG.seq ?_
        refine CG.region ?_
        refine OG.yield (Yield.load ti3 rfl (by first | exact Cel.of_blk (by repeat (first | exact Ext.here | apply Ext.there)) rfl | exact (hrow (by repeat (first | exact Ext.here | apply Ext.there))) _ _ rfl)) rfl ?_
        refine OG.nil ?_
        refine QG.then ?_
        refine CG.region ?_
        refine OG.effd (Eff.alloc ti3) rfl ?_
        rintro b21 -
        refine OG.eff (Eff.store1 ti3 rfl rfl (by repeat (first | exact Foc.here | apply Foc.there)) rfl (by decide)) rfl ?_
        rintro ⟨⟩ -
        refine OG.nil ?_
        refine QG.then ?_
        refine CG.region ?_
        refine OG.yield (Yield.load ti3 rfl (by first | exact Cel.of_blk (by repeat (first | exact Ext.here | apply Ext.there)) rfl | exact (hrow (by repeat (first | exact Ext.here | apply Ext.there))) _ _ rfl)) rfl ?_
        refine OG.yield (Yield.add rfl rfl (w64 (by omega) (by omega))) rfl ?_
        refine OG.eff (Eff.store1 ti3 rfl rfl (by repeat (first | exact Foc.here | apply Foc.there)) rfl (by first | (simp; done) | decide)) rfl ?_
        rintro ⟨⟩ -
        refine OG.nil ?_
        exact QG.nextD (2, b21, D :: ms) rfl (show (2 : Nat) ≤ 2 by decide) (show 2 - 2 < 2 - 1 by decide) (by repeat (first | exact Env.sub_nil _ | refine Env.sub_cons rfl ?_)) (Imp.trans (B := dblk D :: dblks ms :: blk b21 [.int .i64 2] 3 :: GS W m r0 r1 b5 b6 b2 s) (by repeat (first | exact Imp.refl _ | exact Imp.none _ | apply Imp.pull (by repeat (first | exact Ext.here | apply Ext.there)) | apply Imp.trans Imp.drop)) dblks_push)
      · intro D i
        exact i.elim
  · try replace hc := of_decide_eq_false hc
    refine CG.exit ?_
    refine QG.pass_exit ?_
    refine QG.pass_exit ?_
    refine QG.block_exit ?_
    refine QG.then ?_
    refine CG.seq ?_
    refine CG.region ?_
    refine OG.eff (Eff.store1 ti4 rfl rfl (by repeat (first | exact Foc.here | apply Foc.there)) rfl (by first | (simp; done) | decide)) rfl ?_
    rintro ⟨⟩ -
    refine OG.nil ?_
    refine QG.then ?_
    refine CG.ret ?_
    refine QG.marks (.inl rfl) (by repeat (first | exact Ext.here | apply Ext.there)) ?_
    exact QG.rets [.bool true] rfl ⟨ResP.cell ti4 rfl (Cel.of_blk (by repeat (first | exact Ext.here | apply Ext.there)) rfl), trivial⟩ () trivial rfl (by repeat (first | exact Imp.refl _ | exact Imp.none _ | apply Imp.pull (by repeat (first | exact Ext.here | apply Ext.there)) | apply Imp.trans Imp.drop))
open Go.ChangeShapes Go.WideShapes Go.ChangeAt
theorem own : ownKnob Try.prog.godebug = none := by kernel_rfl
theorem laid : laidOutB Try.prog = true := by kernel_rfl
set_option maxRecDepth 100000 in
theorem lifted (os : Os) (started : os.Started) (H : Type) (enc : TypeId × Value → H) :
    ReturnsInHanded {} Try.checked os 4 .any (Rows.pageAloneSpec.pre6 enc Try.prog Try.f4 Rows.pageAloneRow.domain false) (Rows.pageAloneSpec.post enc Try.prog Try.f4 false true false false) := by
  refine returnsInHanded_of_change_sized (C := Try.checked) own started (by kernel_rfl) Try.func4
    (ChangeSpec.witness6 (enc := enc) (C := Try.checked) false ⟨#[], #[.slice none 0 0], []⟩ 8 (by kernel_rfl) (by kernel_rfl) (by kernel_rfl) (by kernel_rfl)) ?_
  intro W base args ds gs before hval0 hW hcnd hsz0 _
  have hsz : (DataW.weightsEach Try.prog (Try.f4.params.toList ++ Rows.pageAloneSpec.plain.varTypes Try.prog) (ds ++ gs)).all (· ≤ reachBytes) = true := hsz0
  have hval : ∀ (j : Nat) t v, Try.f4.params[j]? = some t → args[j]? = some v → Value.okWide Try.prog W .any base t v := hval0
  have hW' := hW
  obtain ⟨p, q, hA0, hV, rfl, hfz, hnd⟩ := hW
  have hA : DataW.TrodAll enc Try.prog W 0 (fun _ => true) true Try.f4.params.toList args.toList ds p := hA0
  rw [Try.params4] at hA hval hsz
  obtain ⟨v0, vs0, d0, ds0, p0, q0, hargs, rfl, rfl, h0, r0⟩ := trodAll_cons hA
  obtain ⟨rfl, rfl, rfl⟩ := trodAll_nil r0
  obtain rfl : args = #[v0] := by cases args; simp_all
  obtain ⟨rfl, rfl⟩ := trodVars_none hV
  have k0 := weights_le hsz 0 (t := 22) (d := d0) rfl rfl
  have s0 := Opn.param Try.underlying22 (POp.list W) (hval 0 22 v0 rfl rfl) h0 k0
  obtain ⟨x0, c0, ops, e0, l0, ok0, s0, m0⟩ := s0
  cases e0
  clear hA0 hval0 hsz0 hsz
  refine ((walk W s0 ok0) W (Sat.start W)).mono fun e W' he => ?_
  obtain ⟨_, _, he, hs⟩ := he
  subst he
  exact ⟨_, rfl, law_post laid (params_ok (by kernel_rfl)) rfl Try.underlying4 hW' rfl rfl (Sat.below (by repeat (first | exact Ext.here | apply Ext.there)) hs)⟩
theorem over : Rows.pageAloneRow.holds Try.pinned (OpenSpec.ofChange Rows.pageAloneSpec) :=
  OpenClaim.holds_of_wide 4 Try.f4 rfl rfl rfl rfl rfl rfl rfl ⟨rfl, rfl, rfl, rfl, rfl⟩ rfl rfl rfl rfl rfl (by kernel_rfl) Try.func4 (by kernel_rfl)
    (of_decide_eq_true (by kernel_rfl)) (by unfold Func.isWrapper; first | (rw [if_pos (by decide +kernel)]; kernel_rfl) | (rw [if_neg (by decide +kernel)]; exact ⟨rfl, rfl⟩))
    (fun os started H enc _ => lifted os started H enc)
theorem proved : Rows.PageAloneSaid := over
#print axioms proved
end Go.Proofs.Ytmlfcfbblfcpdaa.pageAlone
