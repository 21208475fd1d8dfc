/- The reference console of the vcon laws: two lists of bytes in slices. -/
import Derived.Test.YtmhcdeklfecokaaTab
namespace Go.Proofs.Ytmhcdeklfecokaa.Vc
open Go Go.Sl Go.RowKit Go.Proofs Go.Proofs.Ytmhcdeklfecokaa.T
set_option linter.unusedVariables false
set_option linter.unusedSimpArgs false
set_option maxRecDepth 100000
/-- The reference console at block r, laid open. -/
abbrev RcO (r : Nat) (out inn : List UInt8) (p : (Option Addr × Nat) × (Option Addr × Nat)) : List HProp :=
  [blk r [.slice p.1.1 out.length p.1.2, .slice p.2.1 inn.length p.2.2] 55, oby 5 p.1.1 p.1.2 out, oby 5 p.2.1 p.2.2 inn]
def Rc (r : Nat) (out inn : List UInt8) : HProp := fun h => ∃ p, True ∧ Star (RcO r out inn p) h
theorem rc_open {r : Nat} {out inn : List UInt8} (y : Heaplet) (h : Rc r out inn y) : ∃ p, True ∧ Star (RcO r out inn p) y := h
theorem rc_close {r : Nat} {out inn : List UInt8} {G : List HProp} (p : (Option Addr × Nat) × (Option Addr × Nat)) : Imp (RcO r out inn p ++ G) (Rc r out inn :: G) :=
  Imp.trans star_close (Imp.head fun y hy => ⟨p, trivial, hy⟩)
section
variable (W0 : World) (Fr : List HProp)
theorem rnew_spec : Ctr Try.prog W0 32 [] Fr (fun _ : Nat => True) (fun r => .pointer (some ⟨r, 0, none⟩)) (fun r => Rc r [] [] :: Fr) := by
  refine Ctr.of_body Try.func32 rfl Try.ntmps32 rfl ?_
  refine CG.seq ?_
  refine CG.region ?_
  refine OG.yield (Yield.assign rfl) rfl ?_
  refine OG.nil ?_
  refine QG.then ?_
  refine CG.seq ?_
  refine CG.region ?_
  refine OG.yield (Yield.build0 bu55 ti55) rfl ?_
  refine OG.effd (Eff.box rfl) rfl ?_
  rintro b2 -
  refine OG.yield (Yield.assign rfl) rfl ?_
  refine OG.nil ?_
  refine QG.then ?_
  refine CG.ret ?_
  exact QG.ret1 rfl rfl b2 trivial rfl (Imp.trans (Imp.trans oby_nil (Imp.trans oby_nil (by repeat (first | exact Imp.refl _ | exact Imp.none _ | apply Imp.pull (by repeat (first | exact Ext.here | apply Ext.there)) | apply Imp.trans Imp.drop)))) (rc_close (out := []) (inn := []) ((none, 0), (none, 0))))
theorem rwrite_spec {r : Nat} {out inn ds : List UInt8} {a2 : Option Addr} {c2 : Nat} (hd : RdB W0 Fr a2 c2 ds) (hsz : ds.length ≤ 2 ^ 47 - 4096) (ho : out.length ≤ 64) :
    Ctr Try.prog W0 33 [.pointer (some ⟨r, 0, none⟩), .slice a2 ds.length c2] (Rc r out inn :: Fr) (fun _ : Unit => True) (fun _ => .int .i64 (min ds.length (64 - out.length) : Nat)) (fun _ => Rc r (out ++ ds.take (64 - out.length)) inn :: Fr) := by
  refine Ctr.pure (fun w hw => hd.cap w (hw.imp Imp.drop)) fun hc => ?_
  refine Ctr.ex Ext.here rc_open ?_
  rintro ⟨⟨a, c⟩, a', c'⟩ -
  refine Ctr.imp star_open ?_
  refine Ctr.of_body Try.func33 rfl Try.ntmps33 rfl ?_
  refine CG.seq ?_
  refine CG.region ?_
  refine OG.yield (Yield.assign rfl) rfl ?_
  refine OG.nil ?_
  refine QG.then ?_
  refine CG.seq ?_
  refine CG.region ?_
  refine OG.yield (Yield.move rfl) rfl ?_
  refine OG.yield (Yield.len_slice Try.underlying30 rfl rfl) rfl ?_
  refine OG.yield (Yield.move rfl) rfl ?_
  refine OG.yield (Yield.nilCheck rfl) rfl ?_
  refine OG.yield (Yield.fieldAddr fa55_0 rfl) rfl ?_
  refine OG.yield (Yield.load ti30 rfl (Cel.of_blk (by repeat (first | exact Ext.here | apply Ext.there)) (by rfl))) rfl ?_
  refine OG.yield (Yield.len_slice Try.underlying30 rfl rfl) rfl ?_
  refine OG.yield (Yield.sub rfl rfl (w64 (by omega) (by omega))) rfl ?_
  refine OG.yield (Yield.min2 rfl rfl) rfl ?_
  refine OG.yield (Yield.assign rfl) rfl ?_
  refine OG.nil ?_
  rw [show min (ds.length : Int) (64 - (out.length : Int)) = ((min ds.length (64 - out.length) : Nat) : Int) by omega]
  refine QG.then ?_
  refine CG.seq ?_
  refine CG.draw (.look 0 0 (.look 2 0 (.look 3 0 (.look 4 0 (.look 5 2 (.look 7 0 (.look 8 0 (.look 9 0 (.eff1 1 false (.eff1 6 false (.eff1 10 false (.look 11 1 (.look 12 1 (.eff1 13 true (.done))))))))))))))) [1, 6, 10, 13] [5] ([]) ([blk r [.slice a out.length c, .slice a' inn.length c'] 55]) mixed (by kernel_rfl) (Imp.none _) ((by repeat (first | exact Imp.refl _ | exact Imp.none _ | apply Imp.pull (by repeat (first | exact Ext.here | apply Ext.there)) | apply Imp.trans Imp.drop))) ?_
  refine DG.look rfl rfl (Yield.move rfl) rfl ?_
  refine DG.look rfl rfl (Yield.move rfl) rfl ?_
  refine DG.look rfl rfl (Yield.nilCheck rfl) rfl ?_
  refine DG.look rfl rfl (Yield.fieldAddr fa55_0 rfl) rfl ?_
  refine DG.look rfl rfl (Yield.load ti30 rfl (Cel.of_blk (by repeat (first | exact Ext.here | apply Ext.there)) (by rfl))) rfl ?_
  refine DG.look rfl rfl (Yield.move rfl) rfl ?_
  refine DG.look rfl rfl (Yield.move rfl) rfl ?_
  refine DG.look rfl rfl (Yield.as (Yield.slice_hi Try.underlying30 ti5 rfl (Bound.some rfl) (by omega) (by omega)) (v' := .slice a2 (ds.take (64 - out.length)).length c2) (by rw [List.length_take, Nat.min_comm]; rfl)) rfl ?_
  refine DG.eff1 ?_
  refine Chg.eff rfl rfl (Eff.lit0 Try.underlying30 ti5 rfl) rfl (fun _ => (by repeat (first | exact Imp.refl _ | exact Imp.none _ | apply Imp.pull (by repeat (first | exact Ext.here | apply Ext.there)) | apply Imp.trans Imp.drop))) (fun _ => Imp.refl _) (fun _ => (by repeat (first | exact Imp.refl _ | exact Imp.none _ | apply Imp.pull (by repeat (first | exact Ext.here | apply Ext.there)) | apply Imp.trans Imp.drop))) ?_
  rintro b16 -
  refine DG.eff1 ?_
  refine Chg.eff rfl rfl (by first | exact Eff.appendB0 rfl rfl rfl Try.underlying30 Try.underlying30 ti5 (by decide) (by repeat (first | exact Foc.here | apply Foc.there)) (by first | exact SlR.of_osl (by repeat (first | exact Ext.here | apply Ext.there)) | exact SlR.of_osl_eq (by repeat (first | exact Ext.here | apply Ext.there)) rfl rfl | exact SlR.of_osl_eq (by repeat (first | exact Ext.here | apply Ext.there)) rfl (by simp [bytesV, byteV]) | assumption | exact SlAt.old (by assumption) (by repeat (first | exact Ext.here | apply Ext.there)) | exact RdB.slR (by assumption)) (by omega) | exact Eff.appendB rfl rfl rfl Try.underlying30 Try.underlying30 ti5 (by decide) (by repeat (first | exact Foc.here | apply Foc.there)) (by first | exact SlR.of_osl (by repeat (first | exact Ext.here | apply Ext.there)) | exact SlR.of_osl_eq (by repeat (first | exact Ext.here | apply Ext.there)) rfl rfl | exact SlR.of_osl_eq (by repeat (first | exact Ext.here | apply Ext.there)) rfl (by simp [bytesV, byteV]) | assumption | exact SlAt.old (by assumption) (by repeat (first | exact Ext.here | apply Ext.there)) | exact RdB.slR (by assumption)) (by first | omega | (simp only [List.length_append, List.length_cons, List.length_nil, List.length_take, List.length_drop]; omega))) rfl (fun _ => (by repeat (first | exact Imp.refl _ | exact Imp.none _ | apply Imp.pull (by repeat (first | exact Ext.here | apply Ext.there)) | apply Imp.trans Imp.drop))) (fun _ => Imp.refl _) (fun _ => (by repeat (first | exact Imp.refl _ | exact Imp.none _ | apply Imp.pull (by repeat (first | exact Ext.here | apply Ext.there)) | apply Imp.trans Imp.drop))) ?_
  rintro ⟨a21, c21⟩ -
  refine DG.eff1 ?_
  refine Chg.eff rfl rfl (Eff.appendB rfl rfl rfl Try.underlying30 Try.underlying30 ti5 (by decide) (by repeat (first | exact Foc.here | apply Foc.there)) ((SlR.takeB (hd.imp (by exact (by repeat (first | exact Imp.refl _ | exact Imp.none _ | apply Imp.pull (by repeat (first | exact Ext.here | apply Ext.there)) | apply Imp.trans Imp.drop)))).slR _)) (by simp; omega)) rfl (fun _ => (by repeat (first | exact Imp.refl _ | exact Imp.none _ | apply Imp.pull (by repeat (first | exact Ext.here | apply Ext.there)) | apply Imp.trans Imp.drop))) (fun _ => Imp.refl _) (fun _ => (by repeat (first | exact Imp.refl _ | exact Imp.none _ | apply Imp.pull (by repeat (first | exact Ext.here | apply Ext.there)) | apply Imp.trans Imp.drop))) ?_
  rintro ⟨a25, c25⟩ -
  refine DG.look rfl rfl (Yield.nilCheck rfl) rfl ?_
  refine DG.look rfl rfl (Yield.fieldAddr fa55_0 rfl) rfl ?_
  refine DG.eff1 ?_
  refine Chg.eff rfl rfl (Eff.store1 ti30 rfl rfl (by repeat (first | exact Foc.here | apply Foc.there)) rfl (by simp)) rfl (fun _ => (by repeat (first | exact Imp.refl _ | exact Imp.none _ | apply Imp.pull (by repeat (first | exact Ext.here | apply Ext.there)) | apply Imp.trans Imp.drop))) (fun _ => Imp.refl _) (fun _ => (by repeat (first | exact Imp.refl _ | exact Imp.none _ | apply Imp.pull (by repeat (first | exact Ext.here | apply Ext.there)) | apply Imp.trans Imp.drop))) ?_
  rintro ⟨⟩ -
  refine DG.done ?_
  refine QG.then ?_
  refine CG.seq ?_
  refine CG.region ?_
  refine OG.yield (Yield.move rfl) rfl ?_
  refine OG.yield (Yield.assign rfl) rfl ?_
  refine OG.nil ?_
  refine QG.then ?_
  refine CG.ret ?_
  exact QG.ret1 rfl rfl () trivial rfl (Imp.trans (by repeat (first | exact Imp.refl _ | exact Imp.none _ | apply Imp.pull (by repeat (first | exact Ext.here | apply Ext.there)) | apply Imp.trans Imp.drop)) (rc_close ((a25, c25), (a', c'))))
theorem rfeed_spec {r : Nat} {out inn ds : List UInt8} {a2 : Option Addr} {c2 : Nat} (hd : RdB W0 Fr a2 c2 ds) (hsz : ds.length ≤ 2 ^ 47 - 4096) (ho : inn.length ≤ 64) :
    Ctr Try.prog W0 36 [.pointer (some ⟨r, 0, none⟩), .slice a2 ds.length c2] (Rc r out inn :: Fr) (fun _ : Unit => True) (fun _ => .int .i64 (min ds.length (64 - inn.length) : Nat)) (fun _ => Rc r out (inn ++ ds.take (64 - inn.length)) :: Fr) := by
  refine Ctr.pure (fun w hw => hd.cap w (hw.imp Imp.drop)) fun hc => ?_
  refine Ctr.ex Ext.here rc_open ?_
  rintro ⟨⟨a, c⟩, a', c'⟩ -
  refine Ctr.imp star_open ?_
  refine Ctr.of_body Try.func36 rfl Try.ntmps36 rfl ?_
  refine CG.seq ?_
  refine CG.region ?_
  refine OG.yield (Yield.assign rfl) rfl ?_
  refine OG.nil ?_
  refine QG.then ?_
  refine CG.seq ?_
  refine CG.region ?_
  refine OG.yield (Yield.move rfl) rfl ?_
  refine OG.yield (Yield.len_slice Try.underlying30 rfl rfl) rfl ?_
  refine OG.yield (Yield.move rfl) rfl ?_
  refine OG.yield (Yield.nilCheck rfl) rfl ?_
  refine OG.yield (Yield.fieldAddr fa55_1 rfl) rfl ?_
  refine OG.yield (Yield.load ti30 rfl (Cel.of_blk (by repeat (first | exact Ext.here | apply Ext.there)) (by rfl))) rfl ?_
  refine OG.yield (Yield.len_slice Try.underlying30 rfl rfl) rfl ?_
  refine OG.yield (Yield.sub rfl rfl (w64 (by omega) (by omega))) rfl ?_
  refine OG.yield (Yield.min2 rfl rfl) rfl ?_
  refine OG.yield (Yield.assign rfl) rfl ?_
  refine OG.nil ?_
  rw [show min (ds.length : Int) (64 - (inn.length : Int)) = ((min ds.length (64 - inn.length) : Nat) : Int) by omega]
  refine QG.then ?_
  refine CG.seq ?_
  refine CG.draw (.look 0 0 (.look 2 0 (.look 3 0 (.look 4 0 (.look 5 2 (.look 7 0 (.look 8 0 (.look 9 0 (.eff1 1 false (.eff1 6 false (.eff1 10 false (.look 11 1 (.look 12 1 (.eff1 13 true (.done))))))))))))))) [1, 6, 10, 13] [5] ([]) ([blk r [.slice a out.length c, .slice a' inn.length c'] 55]) mixed (by kernel_rfl) (Imp.none _) ((by repeat (first | exact Imp.refl _ | exact Imp.none _ | apply Imp.pull (by repeat (first | exact Ext.here | apply Ext.there)) | apply Imp.trans Imp.drop))) ?_
  refine DG.look rfl rfl (Yield.move rfl) rfl ?_
  refine DG.look rfl rfl (Yield.move rfl) rfl ?_
  refine DG.look rfl rfl (Yield.nilCheck rfl) rfl ?_
  refine DG.look rfl rfl (Yield.fieldAddr fa55_1 rfl) rfl ?_
  refine DG.look rfl rfl (Yield.load ti30 rfl (Cel.of_blk (by repeat (first | exact Ext.here | apply Ext.there)) (by rfl))) rfl ?_
  refine DG.look rfl rfl (Yield.move rfl) rfl ?_
  refine DG.look rfl rfl (Yield.move rfl) rfl ?_
  refine DG.look rfl rfl (Yield.as (Yield.slice_hi Try.underlying30 ti5 rfl (Bound.some rfl) (by omega) (by omega)) (v' := .slice a2 (ds.take (64 - inn.length)).length c2) (by rw [List.length_take, Nat.min_comm]; rfl)) rfl ?_
  refine DG.eff1 ?_
  refine Chg.eff rfl rfl (Eff.lit0 Try.underlying30 ti5 rfl) rfl (fun _ => (by repeat (first | exact Imp.refl _ | exact Imp.none _ | apply Imp.pull (by repeat (first | exact Ext.here | apply Ext.there)) | apply Imp.trans Imp.drop))) (fun _ => Imp.refl _) (fun _ => (by repeat (first | exact Imp.refl _ | exact Imp.none _ | apply Imp.pull (by repeat (first | exact Ext.here | apply Ext.there)) | apply Imp.trans Imp.drop))) ?_
  rintro b16 -
  refine DG.eff1 ?_
  refine Chg.eff rfl rfl (by first | exact Eff.appendB0 rfl rfl rfl Try.underlying30 Try.underlying30 ti5 (by decide) (by repeat (first | exact Foc.here | apply Foc.there)) (by first | exact SlR.of_osl (by repeat (first | exact Ext.here | apply Ext.there)) | exact SlR.of_osl_eq (by repeat (first | exact Ext.here | apply Ext.there)) rfl rfl | exact SlR.of_osl_eq (by repeat (first | exact Ext.here | apply Ext.there)) rfl (by simp [bytesV, byteV]) | assumption | exact SlAt.old (by assumption) (by repeat (first | exact Ext.here | apply Ext.there)) | exact RdB.slR (by assumption)) (by omega) | exact Eff.appendB rfl rfl rfl Try.underlying30 Try.underlying30 ti5 (by decide) (by repeat (first | exact Foc.here | apply Foc.there)) (by first | exact SlR.of_osl (by repeat (first | exact Ext.here | apply Ext.there)) | exact SlR.of_osl_eq (by repeat (first | exact Ext.here | apply Ext.there)) rfl rfl | exact SlR.of_osl_eq (by repeat (first | exact Ext.here | apply Ext.there)) rfl (by simp [bytesV, byteV]) | assumption | exact SlAt.old (by assumption) (by repeat (first | exact Ext.here | apply Ext.there)) | exact RdB.slR (by assumption)) (by first | omega | (simp only [List.length_append, List.length_cons, List.length_nil, List.length_take, List.length_drop]; omega))) rfl (fun _ => (by repeat (first | exact Imp.refl _ | exact Imp.none _ | apply Imp.pull (by repeat (first | exact Ext.here | apply Ext.there)) | apply Imp.trans Imp.drop))) (fun _ => Imp.refl _) (fun _ => (by repeat (first | exact Imp.refl _ | exact Imp.none _ | apply Imp.pull (by repeat (first | exact Ext.here | apply Ext.there)) | apply Imp.trans Imp.drop))) ?_
  rintro ⟨a21, c21⟩ -
  refine DG.eff1 ?_
  refine Chg.eff rfl rfl (Eff.appendB rfl rfl rfl Try.underlying30 Try.underlying30 ti5 (by decide) (by repeat (first | exact Foc.here | apply Foc.there)) ((SlR.takeB (hd.imp (by exact (by repeat (first | exact Imp.refl _ | exact Imp.none _ | apply Imp.pull (by repeat (first | exact Ext.here | apply Ext.there)) | apply Imp.trans Imp.drop)))).slR _)) (by simp; omega)) rfl (fun _ => (by repeat (first | exact Imp.refl _ | exact Imp.none _ | apply Imp.pull (by repeat (first | exact Ext.here | apply Ext.there)) | apply Imp.trans Imp.drop))) (fun _ => Imp.refl _) (fun _ => (by repeat (first | exact Imp.refl _ | exact Imp.none _ | apply Imp.pull (by repeat (first | exact Ext.here | apply Ext.there)) | apply Imp.trans Imp.drop))) ?_
  rintro ⟨a25, c25⟩ -
  refine DG.look rfl rfl (Yield.nilCheck rfl) rfl ?_
  refine DG.look rfl rfl (Yield.fieldAddr fa55_1 rfl) rfl ?_
  refine DG.eff1 ?_
  refine Chg.eff rfl rfl (Eff.store1 ti30 rfl rfl (by repeat (first | exact Foc.here | apply Foc.there)) rfl (by simp)) rfl (fun _ => (by repeat (first | exact Imp.refl _ | exact Imp.none _ | apply Imp.pull (by repeat (first | exact Ext.here | apply Ext.there)) | apply Imp.trans Imp.drop))) (fun _ => Imp.refl _) (fun _ => (by repeat (first | exact Imp.refl _ | exact Imp.none _ | apply Imp.pull (by repeat (first | exact Ext.here | apply Ext.there)) | apply Imp.trans Imp.drop))) ?_
  rintro ⟨⟩ -
  refine DG.done ?_
  refine QG.then ?_
  refine CG.seq ?_
  refine CG.region ?_
  refine OG.yield (Yield.move rfl) rfl ?_
  refine OG.yield (Yield.assign rfl) rfl ?_
  refine OG.nil ?_
  refine QG.then ?_
  refine CG.ret ?_
  exact QG.ret1 rfl rfl () trivial rfl (Imp.trans (by repeat (first | exact Imp.refl _ | exact Imp.none _ | apply Imp.pull (by repeat (first | exact Ext.here | apply Ext.there)) | apply Imp.trans Imp.drop)) (rc_close ((a, c), (a25, c25))))
theorem rdrain_spec {r : Nat} {out inn : List UInt8} (ho : out.length ≤ 64) :
    Ctr Try.prog W0 37 [.pointer (some ⟨r, 0, none⟩)] (Rc r out inn :: Fr) (fun _ : Option Addr × Nat => True) (fun p => .slice p.1 out.length p.2) (fun p => oby 5 p.1 p.2 out :: Rc r [] inn :: Fr) := by
  refine Ctr.ex Ext.here rc_open ?_
  rintro ⟨⟨a, c⟩, a', c'⟩ -
  refine Ctr.imp star_open ?_
  refine Ctr.of_body Try.func37 rfl Try.ntmps37 rfl ?_
  refine CG.seq ?_
  refine CG.region ?_
  refine OG.yield (Yield.assign rfl) rfl ?_
  refine OG.nil ?_
  refine QG.then ?_
  refine CG.seq ?_
  refine CG.region ?_
  refine OG.effd (Eff.lit0 Try.underlying30 ti5 rfl) rfl ?_
  rintro b4 -
  refine OG.yield (Yield.move rfl) rfl ?_
  refine OG.yield (Yield.nilCheck rfl) rfl ?_
  refine OG.yield (Yield.fieldAddr fa55_0 rfl) rfl ?_
  refine OG.yield (Yield.load ti30 rfl (Cel.of_blk (by repeat (first | exact Ext.here | apply Ext.there)) (by rfl))) rfl ?_
  refine OG.effd (by first | exact Eff.appendB0 rfl rfl rfl Try.underlying30 Try.underlying30 ti5 (by decide) (by repeat (first | exact Foc.here | apply Foc.there)) (by first | exact SlR.of_osl (by repeat (first | exact Ext.here | apply Ext.there)) | exact SlR.of_osl_eq (by repeat (first | exact Ext.here | apply Ext.there)) rfl rfl | exact SlR.of_osl_eq (by repeat (first | exact Ext.here | apply Ext.there)) rfl (by simp [bytesV, byteV]) | assumption | exact SlAt.old (by assumption) (by repeat (first | exact Ext.here | apply Ext.there)) | exact RdB.slR (by assumption)) (by omega) | exact Eff.appendB rfl rfl rfl Try.underlying30 Try.underlying30 ti5 (by decide) (by repeat (first | exact Foc.here | apply Foc.there)) (by first | exact SlR.of_osl (by repeat (first | exact Ext.here | apply Ext.there)) | exact SlR.of_osl_eq (by repeat (first | exact Ext.here | apply Ext.there)) rfl rfl | exact SlR.of_osl_eq (by repeat (first | exact Ext.here | apply Ext.there)) rfl (by simp [bytesV, byteV]) | assumption | exact SlAt.old (by assumption) (by repeat (first | exact Ext.here | apply Ext.there)) | exact RdB.slR (by assumption)) (by first | omega | (simp only [List.length_append, List.length_cons, List.length_nil, List.length_take, List.length_drop]; omega))) rfl ?_
  rintro ⟨a9, c9⟩ -
  refine OG.yield (Yield.assign rfl) rfl ?_
  refine OG.nil ?_
  refine QG.then ?_
  refine CG.seq ?_
  refine CG.region ?_
  refine OG.yield (Yield.move rfl) rfl ?_
  refine OG.yield (Yield.nilCheck rfl) rfl ?_
  refine OG.yield (Yield.fieldAddr fa55_0 rfl) rfl ?_
  refine OG.eff (Eff.store1 ti30 rfl rfl (by repeat (first | exact Foc.here | apply Foc.there)) rfl (by simp)) rfl ?_
  rintro ⟨⟩ -
  refine OG.nil ?_
  refine QG.then ?_
  refine CG.seq ?_
  refine CG.region ?_
  refine OG.yield (Yield.move rfl) rfl ?_
  refine OG.yield (Yield.assign rfl) rfl ?_
  refine OG.nil ?_
  refine QG.then ?_
  refine CG.ret ?_
  exact QG.ret1 rfl rfl (a9, c9) trivial rfl (Imp.trans (Imp.trans oby_nil (by repeat (first | exact Imp.refl _ | exact Imp.none _ | apply Imp.pull (by repeat (first | exact Ext.here | apply Ext.there)) | apply Imp.trans Imp.drop))) (Imp.cons (rc_close (out := []) ((none, 0), (a', c')))))
theorem rread_spec {r : Nat} {out inn : List UInt8} (n : Int) (k : Nat) (hk : max 0 (min n (inn.length : Int)) = (k : Int)) (ho : inn.length ≤ 64) :
    Ctr Try.prog W0 34 [.pointer (some ⟨r, 0, none⟩), .int .i64 n] (Rc r out inn :: Fr) (fun _ : Option Addr × Nat => True) (fun p => .slice p.1 (inn.take k).length p.2) (fun p => oby 5 p.1 p.2 (inn.take k) :: Rc r out (inn.drop k) :: Fr) := by
  have hkm : k ≤ inn.length := by omega
  refine Ctr.ex Ext.here rc_open ?_
  rintro ⟨⟨a, c⟩, a', c'⟩ -
  refine Ctr.imp star_open ?_
  dsimp only [RcO]
  refine Ctr.pure (fun w hw => osl_facts (a := a') (c := c') (xs := bytesV inn) (m := inn.length) (by repeat (first | exact Ext.here | apply Ext.there)) w hw) ?_
  rintro ⟨_, hcap⟩
  have hs : SlR W0 (RcO r out inn ((a, c), (a', c')) ++ Fr) 1 a' inn.length (bytesV inn) := SlR.of_osl (by repeat (first | exact Ext.here | apply Ext.there))
  refine Ctr.of_body Try.func34 rfl Try.ntmps34 rfl ?_
  refine CG.seq ?_
  refine CG.region ?_
  refine OG.yield (Yield.assign rfl) rfl ?_
  refine OG.nil ?_
  refine QG.then ?_
  refine CG.seq ?_
  refine CG.region ?_
  refine OG.yield (Yield.move rfl) rfl ?_
  refine OG.yield (Yield.move rfl) rfl ?_
  refine OG.yield (Yield.nilCheck rfl) rfl ?_
  refine OG.yield (Yield.fieldAddr fa55_1 rfl) rfl ?_
  refine OG.yield (Yield.load ti30 rfl (Cel.of_blk (by repeat (first | exact Ext.here | apply Ext.there)) (by rfl))) rfl ?_
  refine OG.yield (Yield.len_slice Try.underlying30 rfl rfl) rfl ?_
  refine OG.yield (Yield.min2 rfl rfl) rfl ?_
  refine OG.yield (Yield.max2 rfl rfl) rfl ?_
  refine OG.yield (Yield.assign rfl) rfl ?_
  refine OG.nil ?_
  rw [hk]
  refine QG.then ?_
  refine CG.seq ?_
  refine CG.region ?_
  refine OG.effd (Eff.lit0 Try.underlying30 ti5 rfl) rfl ?_
  rintro b14 -
  refine OG.yield (Yield.move rfl) rfl ?_
  refine OG.yield (Yield.nilCheck rfl) rfl ?_
  refine OG.yield (Yield.fieldAddr fa55_1 rfl) rfl ?_
  refine OG.yield (Yield.load ti30 rfl (Cel.of_blk (by repeat (first | exact Ext.here | apply Ext.there)) (by rfl))) rfl ?_
  refine OG.yield (Yield.move rfl) rfl ?_
  refine OG.yield (Yield.as (Yield.slice_hi Try.underlying30 ti5 rfl (Bound.some rfl) (by omega) (by omega)) (v' := .slice a' (inn.take k).length c') (by rw [List.length_take, Nat.min_eq_left hkm]; rfl)) rfl ?_
  refine OG.effd (Eff.appendB0 rfl rfl rfl Try.underlying30 Try.underlying30 ti5 (by decide) (by repeat (first | exact Foc.here | apply Foc.there)) ((hs.imp (by repeat (first | exact Imp.refl _ | exact Imp.none _ | apply Imp.pull (by repeat (first | exact Ext.here | apply Ext.there)) | apply Imp.trans Imp.drop))).takeB _) (by simp; omega)) rfl ?_
  rintro ⟨a21, c21⟩ -
  refine OG.yield (Yield.assign rfl) rfl ?_
  refine OG.nil ?_
  refine QG.then ?_
  refine CG.seq ?_
  refine CG.region ?_
  refine OG.yield (Yield.move rfl) rfl ?_
  refine OG.effd (Eff.lit0 Try.underlying30 ti5 rfl) rfl ?_
  rintro b23 -
  refine OG.yield (Yield.move rfl) rfl ?_
  refine OG.yield (Yield.nilCheck rfl) rfl ?_
  refine OG.yield (Yield.fieldAddr fa55_1 rfl) rfl ?_
  refine OG.yield (Yield.load ti30 rfl (Cel.of_blk (by repeat (first | exact Ext.here | apply Ext.there)) (by rfl))) rfl ?_
  refine OG.yield (Yield.move rfl) rfl ?_
  refine OG.yield (Yield.as (Yield.slice Try.underlying30 ti5 rfl (Bound.some rfl) Bound.none (by omega) (by omega) (by omega)) (v' := .slice (a'.map fun x => cutAt x k c' 1) (inn.drop k).length (c' - k)) (by rw [List.length_drop]; rfl)) rfl ?_
  refine OG.effd (Eff.appendB0 rfl rfl rfl Try.underlying30 Try.underlying30 ti5 (by decide) (by repeat (first | exact Foc.here | apply Foc.there)) ((hs.imp (by repeat (first | exact Imp.refl _ | exact Imp.none _ | apply Imp.pull (by repeat (first | exact Ext.here | apply Ext.there)) | apply Imp.trans Imp.drop))).dropB hcap hkm) (by simp; omega)) rfl ?_
  rintro ⟨a30, c30⟩ -
  refine OG.yield (Yield.nilCheck rfl) rfl ?_
  refine OG.yield (Yield.fieldAddr fa55_1 rfl) rfl ?_
  refine OG.eff (Eff.store1 ti30 rfl rfl (by repeat (first | exact Foc.here | apply Foc.there)) rfl (by simp)) rfl ?_
  rintro ⟨⟩ -
  refine OG.nil ?_
  refine QG.then ?_
  refine CG.seq ?_
  refine CG.region ?_
  refine OG.yield (Yield.move rfl) rfl ?_
  refine OG.yield (Yield.assign rfl) rfl ?_
  refine OG.nil ?_
  refine QG.then ?_
  refine CG.ret ?_
  exact QG.ret1 rfl rfl (a21, c21) trivial rfl (Imp.trans (by repeat (first | exact Imp.refl _ | exact Imp.none _ | apply Imp.pull (by repeat (first | exact Ext.here | apply Ext.there)) | apply Imp.trans Imp.drop)) (Imp.cons (rc_close ((a, c), (a30, c30)))))
end
end Go.Proofs.Ytmhcdeklfecokaa.Vc
