/- The reference line of the uart laws: all bytes that were taken and how many are gone; told as what is queued and what was sent. -/
import Derived.Test.YtmhcdeklfecokaaUart
namespace Go.Proofs.Ytmhcdeklfecokaa.Ua
open Go Go.Sl Go.RowKit Go.Proofs Go.Proofs.Ytmhcdeklfecokaa.T
set_option linter.unusedVariables false
set_option linter.unusedSimpArgs false
set_option maxRecDepth 100000
abbrev RO (r sz : Nat) (q s : List UInt8) (p : Option Addr × Nat) : List HProp :=
  [blk r [.int .i64 sz, .slice p.1 (s ++ q).length p.2, .int .i64 s.length] 60, oby 5 p.1 p.2 (s ++ q)]
def R (r sz : Nat) (q s : List UInt8) : HProp := fun h => ∃ p, True ∧ Star (RO r sz q s p) h
theorem r_open {r sz : Nat} {q s : List UInt8} (y : Heaplet) (h : R r sz q s y) : ∃ p, True ∧ Star (RO r sz q s p) y := h
theorem r_close {r sz : Nat} {q s : List UInt8} {G : List HProp} (p : Option Addr × Nat) : Imp (RO r sz q s p ++ G) (R r sz q s :: G) :=
  Imp.trans star_close (Imp.head fun y hy => ⟨p, trivial, hy⟩)
theorem r_size {W0 : World} {G Rr : List HProp} {r sz : Nat} {q s : List UInt8} (x : Ext G (R r sz q s) Rr) : Cel W0 G ⟨r, 0, none⟩ (.int .i64 sz) := fun w hw => by
  have h1 := hw.imp x.1
  obtain ⟨h2, g, hg, ⟨p, _, hA⟩, hs⟩ := h1
  exact Cel.of_blk (W0 := W0) (G := RO r sz q s p ++ Rr) (R := _) Ext.here rfl w ⟨h2, Sep.append hA hg hs⟩
section
variable (W0 : World) (Fr : List HProp)
theorem rnew_spec (n : Int) : Ctr Try.prog W0 19 [.int .i64 n] Fr (fun _ : Nat => True) (fun u => .pointer (some ⟨u, 0, none⟩)) (fun u => R u (kOf n 256) [] [] :: Fr) := by
  refine Ctr.of_body Try.func19 rfl Try.ntmps19 rfl ?_
  refine CG.seq ?_
  refine CG.region ?_
  refine OG.yield (Yield.assign rfl) rfl ?_
  refine OG.nil ?_
  refine QG.then ?_
  refine CG.seq ?_
  refine CG.region ?_
  refine OG.yield (Yield.move rfl) rfl ?_
  refine OG.yield (Yield.min2 rfl rfl) rfl ?_
  refine OG.yield (Yield.max2 rfl rfl) rfl ?_
  rw [show max 0 (min n 256) = (kOf n 256 : Int) from kOf_eq n 256]
  refine OG.yield (Yield.build bu60 ti60 rfl (cells := [_, _, _]) rfl) rfl ?_
  refine OG.effd (Eff.box rfl) rfl ?_
  rintro b7 -
  refine OG.yield (Yield.assign rfl) rfl ?_
  refine OG.nil ?_
  refine QG.then ?_
  refine CG.ret ?_
  exact QG.ret1 rfl rfl b7 trivial rfl (Imp.trans (Imp.trans oby_nil (by repeat (first | exact Imp.refl _ | exact Imp.none _ | apply Imp.pull (by repeat (first | exact Ext.here | apply Ext.there)) | apply Imp.trans Imp.drop))) (r_close (q := []) (s := []) (none, 0)))
theorem rqueued_spec {r sz : Nat} {q s : List UInt8} (hl : (s ++ q).length ≤ 2 ^ 46) :
    Ctr Try.prog W0 23 [.pointer (some ⟨r, 0, none⟩)] (R r sz q s :: Fr) (fun _ : Unit => True) (fun _ => .int .i64 q.length) (fun _ => R r sz q s :: Fr) := by
  refine Ctr.ex Ext.here r_open ?_
  rintro ⟨a, c⟩ -
  refine Ctr.imp star_open ?_
  dsimp only [RO]
  have hll : (s ++ q).length = s.length + q.length := List.length_append
  refine Ctr.of_body Try.func23 rfl Try.ntmps23 rfl ?_
  refine CG.seq ?_
  refine CG.region ?_
  refine OG.yield (Yield.assign rfl) rfl ?_
  refine OG.nil ?_
  refine QG.then ?_
  refine CG.seq ?_
  refine CG.draw (.look 0 1 (.look 1 1 (.look 2 1 (.look 3 1 (.look 4 1 (.look 5 1 (.look 6 1 (.look 7 1 (.look 8 1 (.look 9 1 (.look 10 1 (.done)))))))))))) [] [] ([]) ([]) mixed (by kernel_rfl) (Imp.none _) (Imp.none _) ?_
  refine DG.look rfl rfl (Yield.move rfl) rfl ?_
  refine DG.look rfl rfl (Yield.nilCheck rfl) rfl ?_
  refine DG.look rfl rfl (Yield.fieldAddr fa60_1 rfl) rfl ?_
  refine DG.look rfl rfl (Yield.load ti30 rfl (by first | exact Cel.of_blk (by repeat (first | exact Ext.here | apply Ext.there)) rfl | exact (hrow (by repeat (first | exact Ext.here | apply Ext.there))) _ _ rfl)) rfl ?_
  refine DG.look rfl rfl (Yield.len_slice Try.underlying30 rfl rfl) rfl ?_
  refine DG.look rfl rfl (Yield.move rfl) rfl ?_
  refine DG.look rfl rfl (Yield.nilCheck rfl) rfl ?_
  refine DG.look rfl rfl (Yield.fieldAddr fa60_2 rfl) rfl ?_
  refine DG.look rfl rfl (Yield.load ti3 rfl (by first | exact Cel.of_blk (by repeat (first | exact Ext.here | apply Ext.there)) rfl | exact (hrow (by repeat (first | exact Ext.here | apply Ext.there))) _ _ rfl)) rfl ?_
  refine DG.look rfl rfl (Yield.sub rfl rfl (w64 (by omega) (by omega))) rfl ?_
  refine DG.look rfl rfl (Yield.assign rfl) rfl ?_
  refine DG.done ?_
  refine QG.then ?_
  refine CG.ret ?_
  exact QG.ret1 rfl rfl () trivial (by rw [hll]; congr 1; omega) (r_close (a, c))
theorem rsend_spec {r sz : Nat} {q s ds : List UInt8} {a2 : Option Addr} {c2 : Nat} (hd : RdB W0 Fr a2 c2 ds) (hsz : ds.length ≤ 2 ^ 47 - 4096) (hq : q.length ≤ sz) (hz : sz ≤ 256) (hl : (s ++ q).length ≤ 2 ^ 46) :
    Ctr Try.prog W0 20 [.pointer (some ⟨r, 0, none⟩), .slice a2 ds.length c2] (R r sz q s :: Fr) (fun _ : Unit => True) (fun _ => .int .i64 (min ds.length (sz - q.length) : Nat)) (fun _ => R r sz (q ++ ds.take (sz - q.length)) s :: Fr) := by
  refine Ctr.pure (fun w hw => hd.cap w (hw.imp Imp.drop)) fun hc => ?_
  have hmin : min (ds.length : Int) ((sz : Int) - (q.length : Int)) = ((min ds.length (sz - q.length) : Nat) : Int) := by omega
  refine Ctr.of_body Try.func20 rfl Try.ntmps20 rfl ?_
  refine CG.seq ?_
  refine CG.region ?_
  refine OG.yield (Yield.assign rfl) rfl ?_
  refine OG.nil ?_
  refine QG.then ?_
  refine CG.seq ?_
  refine CG.draw (.look 0 0 (.look 1 0 (.look 2 0 (.look 3 0 (.look 4 0 (.look 5 0 (.look 6 1 (.eff1 7 false (.look 8 1 (.look 9 1 (.look 10 1 (.done)))))))))))) [7] [] ([R r sz q s]) ([]) mixed (by kernel_rfl) ((by repeat (first | exact Imp.refl _ | exact Imp.none _ | apply Imp.pull (by repeat (first | exact Ext.here | apply Ext.there)) | apply Imp.trans Imp.drop))) (Imp.none _) ?_
  refine DG.look rfl rfl (Yield.move rfl) rfl ?_
  refine DG.look rfl rfl (Yield.len_slice Try.underlying30 rfl rfl) rfl ?_
  refine DG.look rfl rfl (Yield.move rfl) rfl ?_
  refine DG.look rfl rfl (Yield.nilCheck rfl) rfl ?_
  refine DG.look rfl rfl (Yield.fieldAddr fa60_0 rfl) rfl ?_
  refine DG.look rfl rfl (Yield.load ti3 rfl (r_size (sz := sz) (q := q) (s := s) Ext.here)) rfl ?_
  refine DG.look rfl rfl (Yield.move rfl) rfl ?_
  refine DG.eff1 ?_
  refine Chg.callo rfl rfl call23 rfl ((by repeat (first | exact Imp.refl _ | exact Imp.none _ | apply Imp.pull (by repeat (first | exact Ext.here | apply Ext.there)) | apply Imp.trans Imp.drop))) (rqueued_spec W0 Fr hl) rfl (fun _ => (by repeat (first | exact Imp.refl _ | exact Imp.none _ | apply Imp.pull (by repeat (first | exact Ext.here | apply Ext.there)) | apply Imp.trans Imp.drop))) (fun _ => Imp.refl _) (fun _ => (by repeat (first | exact Imp.refl _ | exact Imp.none _ | apply Imp.pull (by repeat (first | exact Ext.here | apply Ext.there)) | apply Imp.trans Imp.drop))) ?_
  rintro ⟨⟩ -
  refine DG.look rfl rfl (Yield.sub rfl rfl (w64 (by omega) (by omega))) rfl ?_
  refine DG.look rfl rfl (Yield.min2 rfl rfl) rfl ?_
  refine DG.look rfl rfl (Yield.assign rfl) rfl ?_
  refine DG.done ?_
  rw [hmin]
  refine QG.then ?_
  refine CG.seq ?_
  refine CG.ex (A := R r sz q s) (by repeat (first | exact Ext.here | apply Ext.there)) r_open ?_
  rintro ⟨a, c⟩ -
  refine CG.imp star_open ?_
  dsimp only [RO, List.cons_append, List.nil_append]
  refine CG.draw (.look 0 0 (.look 1 1 (.look 2 1 (.look 3 1 (.look 4 1 (.look 5 1 (.look 6 1 (.look 7 1 (.eff1 8 false (.look 9 1 (.look 10 1 (.eff1 11 false (.done))))))))))))) [8, 11] [] ([]) ([]) mixed (by kernel_rfl) (Imp.none _) (Imp.none _) ?_
  refine DG.look rfl rfl (Yield.move rfl) rfl ?_
  refine DG.look rfl rfl (Yield.move rfl) rfl ?_
  refine DG.look rfl rfl (Yield.nilCheck rfl) rfl ?_
  refine DG.look rfl rfl (Yield.fieldAddr fa60_1 rfl) rfl ?_
  refine DG.look rfl rfl (Yield.load ti30 rfl (by first | exact Cel.of_blk (by repeat (first | exact Ext.here | apply Ext.there)) rfl | exact (hrow (by repeat (first | exact Ext.here | apply Ext.there))) _ _ rfl)) rfl ?_
  refine DG.look rfl rfl (Yield.move rfl) rfl ?_
  refine DG.look rfl rfl (Yield.move rfl) rfl ?_
  refine DG.look rfl rfl (Yield.as (Yield.slice_hi Try.underlying30 ti5 rfl (Bound.some rfl) (by omega) (by omega)) (v' := .slice a2 (ds.take (sz - q.length)).length c2) (by rw [List.length_take, Nat.min_comm]; rfl)) rfl ?_
  refine DG.eff1 ?_
  refine Chg.eff rfl rfl (Eff.appendB rfl rfl rfl Try.underlying30 Try.underlying30 ti5 (by decide) (by repeat (first | exact Foc.here | apply Foc.there)) ((SlR.takeB (hd.imp (by exact (by repeat (first | exact Imp.refl _ | exact Imp.none _ | apply Imp.pull (by repeat (first | exact Ext.here | apply Ext.there)) | apply Imp.trans Imp.drop)))).slR _)) (by simp at hl ⊢; omega)) rfl (fun _ => (by repeat (first | exact Imp.refl _ | exact Imp.none _ | apply Imp.pull (by repeat (first | exact Ext.here | apply Ext.there)) | apply Imp.trans Imp.drop))) (fun _ => Imp.refl _) (fun _ => (by repeat (first | exact Imp.refl _ | exact Imp.none _ | apply Imp.pull (by repeat (first | exact Ext.here | apply Ext.there)) | apply Imp.trans Imp.drop))) ?_
  rintro ⟨a24, c24⟩ -
  refine DG.look rfl rfl (Yield.nilCheck rfl) rfl ?_
  refine DG.look rfl rfl (Yield.fieldAddr fa60_1 rfl) rfl ?_
  refine DG.eff1 ?_
  refine Chg.eff rfl rfl (Eff.store1 ti30 rfl rfl (by repeat (first | exact Foc.here | apply Foc.there)) rfl (by simp)) rfl (fun _ => (by repeat (first | exact Imp.refl _ | exact Imp.none _ | apply Imp.pull (by repeat (first | exact Ext.here | apply Ext.there)) | apply Imp.trans Imp.drop))) (fun _ => Imp.refl _) (fun _ => (by repeat (first | exact Imp.refl _ | exact Imp.none _ | apply Imp.pull (by repeat (first | exact Ext.here | apply Ext.there)) | apply Imp.trans Imp.drop))) ?_
  rintro ⟨⟩ -
  refine DG.done ?_
  refine QG.then ?_
  refine CG.seq ?_
  refine CG.region ?_
  refine OG.yield (Yield.move rfl) rfl ?_
  refine OG.yield (Yield.assign rfl) rfl ?_
  refine OG.nil ?_
  refine QG.then ?_
  refine CG.ret ?_
  rw [List.append_assoc]
  exact QG.ret1 rfl rfl () trivial rfl (Imp.trans (by repeat (first | exact Imp.refl _ | exact Imp.none _ | apply Imp.pull (by repeat (first | exact Ext.here | apply Ext.there)) | apply Imp.trans Imp.drop)) (r_close (a24, c24)))
theorem rdrain_spec {r sz : Nat} {q s : List UInt8} (n : Int) (hl : (s ++ q).length ≤ 2 ^ 46) :
    Ctr Try.prog W0 21 [.pointer (some ⟨r, 0, none⟩), .int .i64 n] (R r sz q s :: Fr) (fun _ : Unit => True) (fun _ => .int .i64 (kOf n q.length)) (fun _ => R r sz (q.drop (kOf n q.length)) (s ++ q.take (kOf n q.length)) :: Fr) := by
  have hk := kOf_eq n q.length
  have hkm := kOf_le n q.length
  generalize kOf n q.length = k at hk hkm ⊢
  have hll : (s ++ q).length = s.length + q.length := List.length_append
  refine Ctr.of_body Try.func21 rfl Try.ntmps21 rfl ?_
  refine CG.seq ?_
  refine CG.region ?_
  refine OG.yield (Yield.assign rfl) rfl ?_
  refine OG.nil ?_
  refine QG.then ?_
  refine CG.seq ?_
  refine CG.region ?_
  refine OG.yield (Yield.move rfl) rfl ?_
  refine OG.yield (Yield.move rfl) rfl ?_
  refine OG.callo call23 rfl ((by repeat (first | exact Imp.refl _ | exact Imp.none _ | apply Imp.pull (by repeat (first | exact Ext.here | apply Ext.there)) | apply Imp.trans Imp.drop))) (rqueued_spec W0 Fr hl) rfl ?_
  rintro ⟨⟩ -
  refine OG.yield (Yield.min2 rfl rfl) rfl ?_
  refine OG.yield (Yield.max2 rfl rfl) rfl ?_
  refine OG.yield (Yield.assign rfl) rfl ?_
  refine OG.nil ?_
  rw [hk]
  refine QG.then ?_
  refine CG.seq ?_
  refine CG.ex (A := R r sz q s) (by repeat (first | exact Ext.here | apply Ext.there)) r_open ?_
  rintro ⟨a, c⟩ -
  refine CG.imp star_open ?_
  dsimp only [RO, List.cons_append, List.nil_append]
  refine CG.region ?_
  refine OG.yield (Yield.move rfl) rfl ?_
  refine OG.yield (Yield.move rfl) rfl ?_
  refine OG.yield (Yield.nilCheck rfl) rfl ?_
  refine OG.yield (Yield.fieldAddr fa60_2 rfl) rfl ?_
  refine OG.yield (Yield.load ti3 rfl (by first | exact Cel.of_blk (by repeat (first | exact Ext.here | apply Ext.there)) rfl | exact (hrow (by repeat (first | exact Ext.here | apply Ext.there))) _ _ rfl)) rfl ?_
  refine OG.yield (Yield.move rfl) rfl ?_
  refine OG.yield (Yield.add rfl rfl (w64 (by omega) (by omega))) rfl ?_
  refine OG.yield (Yield.nilCheck rfl) rfl ?_
  refine OG.yield (Yield.fieldAddr fa60_2 rfl) rfl ?_
  refine OG.eff (Eff.store1 ti3 rfl rfl (by repeat (first | exact Foc.here | apply Foc.there)) rfl (by simp)) rfl ?_
  rintro ⟨⟩ -
  refine OG.nil ?_
  refine QG.then ?_
  refine CG.seq ?_
  refine CG.region ?_
  refine OG.yield (Yield.move rfl) rfl ?_
  refine OG.yield (Yield.assign rfl) rfl ?_
  refine OG.nil ?_
  refine QG.then ?_
  refine CG.ret ?_
  have e1 : (s ++ q.take k) ++ q.drop k = s ++ q := by rw [List.append_assoc, List.take_append_drop]
  have e2 : ((s.length : Int) + (k : Int)) = ((s ++ q.take k).length : Int) := by simp; omega
  refine QG.ret1 rfl rfl () trivial rfl (Imp.trans ?_ (r_close (a, c)))
  dsimp only [RO, List.set]
  rw [e1, ← e2]
  exact (by repeat (first | exact Imp.refl _ | exact Imp.none _ | apply Imp.pull (by repeat (first | exact Ext.here | apply Ext.there)) | apply Imp.trans Imp.drop))
theorem rsent_spec {r sz : Nat} {q s : List UInt8} (hl : (s ++ q).length ≤ 2 ^ 46) :
    Ctr Try.prog W0 24 [.pointer (some ⟨r, 0, none⟩)] (R r sz q s :: Fr) (fun _ : Option Addr × Nat => True) (fun p => .slice p.1 s.length p.2) (fun p => oby 5 p.1 p.2 s :: R r sz q s :: Fr) := by
  refine Ctr.ex Ext.here r_open ?_
  rintro ⟨a, c⟩ -
  refine Ctr.imp star_open ?_
  dsimp only [RO]
  refine Ctr.pure (fun w hw => osl_facts (a := a) (c := c) (xs := bytesV (s ++ q)) (m := (s ++ q).length) (by repeat (first | exact Ext.here | apply Ext.there)) w hw) ?_
  rintro ⟨_, hcap⟩
  have hll : (s ++ q).length = s.length + q.length := List.length_append
  refine Ctr.of_body Try.func24 rfl Try.ntmps24 rfl ?_
  refine CG.seq ?_
  refine CG.region ?_
  refine OG.yield (Yield.assign rfl) rfl ?_
  refine OG.nil ?_
  refine QG.then ?_
  refine CG.seq ?_
  refine CG.draw (.look 1 0 (.look 2 0 (.look 3 0 (.look 4 0 (.look 5 0 (.look 6 0 (.look 7 0 (.look 8 0 (.look 9 0 (.eff1 0 false (.eff1 10 false (.look 11 1 (.done))))))))))))) [0, 10] [] (RO r sz q s (a, c)) ([]) mixed (by kernel_rfl) ((by repeat (first | exact Imp.refl _ | exact Imp.none _ | apply Imp.pull (by repeat (first | exact Ext.here | apply Ext.there)) | apply Imp.trans Imp.drop))) (Imp.none _) ?_
  refine DG.look rfl rfl (Yield.move rfl) rfl ?_
  refine DG.look rfl rfl (Yield.nilCheck rfl) rfl ?_
  refine DG.look rfl rfl (Yield.fieldAddr fa60_1 rfl) rfl ?_
  refine DG.look rfl rfl (Yield.load ti30 rfl (by first | exact Cel.of_blk (by repeat (first | exact Ext.here | apply Ext.there)) rfl | exact (hrow (by repeat (first | exact Ext.here | apply Ext.there))) _ _ rfl)) rfl ?_
  refine DG.look rfl rfl (Yield.move rfl) rfl ?_
  refine DG.look rfl rfl (Yield.nilCheck rfl) rfl ?_
  refine DG.look rfl rfl (Yield.fieldAddr fa60_2 rfl) rfl ?_
  refine DG.look rfl rfl (Yield.load ti3 rfl (by first | exact Cel.of_blk (by repeat (first | exact Ext.here | apply Ext.there)) rfl | exact (hrow (by repeat (first | exact Ext.here | apply Ext.there))) _ _ rfl)) rfl ?_
  refine DG.look rfl rfl (Yield.slice_hi Try.underlying30 ti5 rfl (Bound.some rfl) (by omega) (by omega)) rfl ?_
  refine DG.eff1 ?_
  refine Chg.eff rfl rfl (Eff.lit0 Try.underlying30 ti5 rfl) rfl (fun _ => (by repeat (first | exact Imp.refl _ | exact Imp.none _ | apply Imp.pull (by repeat (first | exact Ext.here | apply Ext.there)) | apply Imp.trans Imp.drop))) (fun _ => Imp.refl _) (fun _ => (by repeat (first | exact Imp.refl _ | exact Imp.none _ | apply Imp.pull (by repeat (first | exact Ext.here | apply Ext.there)) | apply Imp.trans Imp.drop))) ?_
  rintro b3 -
  refine DG.eff1 ?_
  refine Chg.eff rfl rfl (Eff.appendB0 rfl rfl rfl Try.underlying30 Try.underlying30 ti5 (by decide) (by repeat (first | exact Foc.here | apply Foc.there)) (SlR.preB (SlR.of_osl (xs := bytesV (s ++ q)) (m := (s ++ q).length) (by repeat (first | exact Ext.here | apply Ext.there)))) (by omega)) rfl (fun _ => (by repeat (first | exact Imp.refl _ | exact Imp.none _ | apply Imp.pull (by repeat (first | exact Ext.here | apply Ext.there)) | apply Imp.trans Imp.drop))) (fun _ => Imp.refl _) (fun _ => (by repeat (first | exact Imp.refl _ | exact Imp.none _ | apply Imp.pull (by repeat (first | exact Ext.here | apply Ext.there)) | apply Imp.trans Imp.drop))) ?_
  rintro ⟨a13, c13⟩ -
  refine DG.look rfl rfl (Yield.assign rfl) rfl ?_
  refine DG.done ?_
  refine QG.then ?_
  refine CG.ret ?_
  exact QG.ret1 rfl rfl (a13, c13) trivial rfl (Imp.trans (by repeat (first | exact Imp.refl _ | exact Imp.none _ | apply Imp.pull (by repeat (first | exact Ext.here | apply Ext.there)) | apply Imp.trans Imp.drop)) (Imp.cons (r_close (a, c))))
end
end Go.Proofs.Ytmhcdeklfecokaa.Ua
