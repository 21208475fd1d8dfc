/- uart.Uart and its reference: what each function does, as two lists of bytes. -/
import Derived.Test.YtmhcdeklfecokaaTab
import Derived.Test.YtmhcdeklfecokaaRow
namespace Go.Proofs.Ytmhcdeklfecokaa.Ua
open Go Go.Sl Go.RowKit Go.Proofs Go.Proofs.Ytmhcdeklfecokaa.T
set_option linter.unusedVariables false
set_option linter.unusedSimpArgs false
set_option maxRecDepth 100000
structure UOp where
  Kind : Int
  Ba : Option Addr
  Bc : Nat
  B : List UInt8
  N : Int
def UOp.cells (o : UOp) : List Value := [.int .i64 o.Kind, .slice o.Ba o.B.length o.Bc, .int .i64 o.N]
structure UOp.OK (W : World) (o : UOp) : Prop where
  mk ::
  Kind : (Lit.int .i64 o.Kind).wf = true
  Bc : o.B.length ≤ o.Bc
  B : SlAt W 1 o.Ba o.B.length (bytesV o.B)
  Bm : o.B.length ≤ reachBytes
  N : (Lit.int .i64 o.N).wf = true
theorem UOp.opn (W : World) : Opn Try.prog W 32 (fun cs => ∃ o : UOp, cs = o.cells ∧ o.OK W) := (Opn.of_fields Try.underlying32 (by kernel_rfl) (by kernel_rfl) (.cons (s := 1) (Opn.int Try.underlying3) (.cons (s := 1) (Opn.bytes Try.underlying30 Try.underlying5 (by kernel_rfl) (by kernel_rfl)) (.cons (s := 1) (Opn.int Try.underlying3) .nil)))).mono fun cs h => by
  obtain ⟨_, _, rfl, _, ⟨xKind, rfl, wKind⟩, ⟨_, _, rfl, _, ⟨xBa, xBc, xB, rfl, wBc, wB, wBm⟩, ⟨_, _, rfl, _, ⟨xN, rfl, wN⟩, rfl⟩⟩⟩ := h
  exact ⟨⟨xKind, xBa, xBc, xB, xN⟩, rfl, ⟨wKind, wBc, wB, wBm, wN⟩⟩
theorem UOp.len (o : UOp) : o.cells.length = 3 := rfl
theorem UOp.ones (o : UOp) : ∀ v ∈ o.cells, one v = true := by simp [UOp.cells, one]
theorem UOp.list (W : World) : Opn Try.prog W 27 (fun cs => ∃ a c, ∃ xs : List UOp, cs = [.slice a xs.length c] ∧ xs.length ≤ c ∧ (∀ x ∈ xs, UOp.OK W x) ∧ SlAt W 3 a xs.length ((xs.map UOp.cells).flatten) ∧ xs.length * 40 ≤ reachBytes) :=
  Opn.recs (sz := 3) (by' := 40) Try.underlying27 (by kernel_rfl) (by decide) (by kernel_rfl) (UOp.opn W)
/-- What max 0 (min n m) is, as a number. -/
def kOf (n : Int) (m : Nat) : Nat := (max 0 (min n (m : Int))).toNat
theorem kOf_eq (n : Int) (m : Nat) : max 0 (min n (m : Int)) = (kOf n m : Int) := by unfold kOf; omega
theorem kOf_le (n : Int) (m : Nat) : kOf n m ≤ m := by unfold kOf; omega
theorem kOf_all {n : Int} {m : Nat} (h : (m : Int) ≤ n) : kOf n m = m := by unfold kOf; omega
abbrev PP := (Option Addr × Nat) × (Option Addr × Nat)
/-- A line at block u: room for sz bytes, q lies in its queue, s has gone out. -/
abbrev UO (u sz : Nat) (q s : List UInt8) (p : PP) : List HProp :=
  [blk u [.int .i64 sz, .slice p.1.1 q.length p.1.2, .slice p.2.1 s.length p.2.2] 58, oby 5 p.1.1 p.1.2 q, oby 5 p.2.1 p.2.2 s]
def U (u sz : Nat) (q s : List UInt8) : HProp := fun h => ∃ p, True ∧ Star (UO u sz q s p) h
theorem u_open {u sz : Nat} {q s : List UInt8} (y : Heaplet) (h : U u sz q s y) : ∃ p, True ∧ Star (UO u sz q s p) y := h
theorem u_close {u sz : Nat} {q s : List UInt8} {G : List HProp} (p : PP) : Imp (UO u sz q s p ++ G) (U u sz q s :: G) :=
  Imp.trans star_close (Imp.head fun y hy => ⟨p, trivial, hy⟩)
section
variable (W0 : World) (Fr : List HProp)
theorem new_spec (n : Int) : Ctr Try.prog W0 14 [.int .i64 n] Fr (fun _ : Nat => True) (fun u => .pointer (some ⟨u, 0, none⟩)) (fun u => U u (kOf n 256) [] [] :: Fr) := by
  refine Ctr.of_body Try.func14 rfl Try.ntmps14 rfl ?_
  refine CG.seq ?_
  refine CG.region ?_
  refine OG.yield (Yield.assign rfl) rfl ?_
  refine OG.nil ?_
  refine QG.then ?_
  refine CG.seq ?_
  refine CG.region ?_
  refine OG.yield (Yield.move rfl) rfl ?_
  refine OG.yield (Yield.min2 rfl rfl) rfl ?_
  refine OG.yield (Yield.max2 rfl rfl) rfl ?_
  rw [show max 0 (min n 256) = (kOf n 256 : Int) from kOf_eq n 256]
  refine OG.yield (Yield.build bu58 ti58 rfl (cells := [_, _, _]) rfl) rfl ?_
  refine OG.effd (Eff.box rfl) rfl ?_
  rintro b7 -
  refine OG.yield (Yield.assign rfl) rfl ?_
  refine OG.nil ?_
  refine QG.then ?_
  refine CG.ret ?_
  exact QG.ret1 rfl rfl b7 trivial rfl (Imp.trans (Imp.trans oby_nil (Imp.trans oby_nil (by repeat (first | exact Imp.refl _ | exact Imp.none _ | apply Imp.pull (by repeat (first | exact Ext.here | apply Ext.there)) | apply Imp.trans Imp.drop)))) (u_close (q := []) (s := []) ((none, 0), (none, 0))))
theorem send_spec {u sz : Nat} {q s ds : List UInt8} {a2 : Option Addr} {c2 : Nat} (hd : RdB W0 Fr a2 c2 ds) (hsz : ds.length ≤ 2 ^ 47 - 4096) (hq : q.length ≤ sz) (hz : sz ≤ 256) :
    Ctr Try.prog W0 16 [.pointer (some ⟨u, 0, none⟩), .slice a2 ds.length c2] (U u sz q s :: Fr) (fun _ : Unit => True) (fun _ => .int .i64 (min ds.length (sz - q.length) : Nat)) (fun _ => U u sz (q ++ ds.take (sz - q.length)) s :: Fr) := by
  refine Ctr.pure (fun w hw => hd.cap w (hw.imp Imp.drop)) fun hc => ?_
  refine Ctr.ex Ext.here u_open ?_
  rintro ⟨⟨a, c⟩, a', c'⟩ -
  refine Ctr.imp star_open ?_
  dsimp only [UO]
  have hmin : min (ds.length : Int) ((sz : Int) - (q.length : Int)) = ((min ds.length (sz - q.length) : Nat) : Int) := by omega
  refine Ctr.of_body Try.func16 rfl Try.ntmps16 rfl ?_
  refine CG.seq ?_
  refine CG.region ?_
  refine OG.yield (Yield.assign rfl) rfl ?_
  refine OG.nil ?_
  refine QG.then ?_
  refine CG.seq ?_
  refine CG.draw (.look 0 1 (.look 1 1 (.look 2 1 (.look 3 1 (.look 4 1 (.look 5 1 (.look 6 1 (.look 7 1 (.look 8 1 (.look 9 1 (.look 10 1 (.look 11 1 (.look 12 1 (.look 13 1 (.done))))))))))))))) [] [] ([]) ([]) mixed (by kernel_rfl) (Imp.none _) (Imp.none _) ?_
  refine DG.look rfl rfl (Yield.move rfl) rfl ?_
  refine DG.look rfl rfl (Yield.len_slice Try.underlying30 rfl rfl) rfl ?_
  refine DG.look rfl rfl (Yield.move rfl) rfl ?_
  refine DG.look rfl rfl (Yield.nilCheck rfl) rfl ?_
  refine DG.look rfl rfl (Yield.fieldAddr fa58_0 rfl) rfl ?_
  refine DG.look rfl rfl (Yield.load ti3 rfl (by first | exact Cel.of_blk (by repeat (first | exact Ext.here | apply Ext.there)) rfl | exact (hrow (by repeat (first | exact Ext.here | apply Ext.there))) _ _ rfl)) rfl ?_
  refine DG.look rfl rfl (Yield.move rfl) rfl ?_
  refine DG.look rfl rfl (Yield.nilCheck rfl) rfl ?_
  refine DG.look rfl rfl (Yield.fieldAddr fa58_1 rfl) rfl ?_
  refine DG.look rfl rfl (Yield.load ti30 rfl (by first | exact Cel.of_blk (by repeat (first | exact Ext.here | apply Ext.there)) rfl | exact (hrow (by repeat (first | exact Ext.here | apply Ext.there))) _ _ rfl)) rfl ?_
  refine DG.look rfl rfl (Yield.len_slice Try.underlying30 rfl rfl) rfl ?_
  refine DG.look rfl rfl (Yield.sub rfl rfl (w64 (by omega) (by omega))) rfl ?_
  refine DG.look rfl rfl (Yield.min2 rfl rfl) rfl ?_
  refine DG.look rfl rfl (Yield.assign rfl) rfl ?_
  refine DG.done ?_
  rw [hmin]
  refine QG.then ?_
  refine CG.seq ?_
  refine CG.draw (.look 0 0 (.look 1 1 (.look 2 1 (.look 3 1 (.look 4 1 (.look 5 1 (.look 6 1 (.look 7 1 (.eff1 8 false (.look 9 1 (.look 10 1 (.eff1 11 false (.done))))))))))))) [8, 11] [] ([]) ([]) mixed (by kernel_rfl) (Imp.none _) (Imp.none _) ?_
  refine DG.look rfl rfl (Yield.move rfl) rfl ?_
  refine DG.look rfl rfl (Yield.move rfl) rfl ?_
  refine DG.look rfl rfl (Yield.nilCheck rfl) rfl ?_
  refine DG.look rfl rfl (Yield.fieldAddr fa58_1 rfl) rfl ?_
  refine DG.look rfl rfl (Yield.load ti30 rfl (by first | exact Cel.of_blk (by repeat (first | exact Ext.here | apply Ext.there)) rfl | exact (hrow (by repeat (first | exact Ext.here | apply Ext.there))) _ _ rfl)) rfl ?_
  refine DG.look rfl rfl (Yield.move rfl) rfl ?_
  refine DG.look rfl rfl (Yield.move rfl) rfl ?_
  refine DG.look rfl rfl (Yield.as (Yield.slice_hi Try.underlying30 ti5 rfl (Bound.some rfl) (by omega) (by omega)) (v' := .slice a2 (ds.take (sz - q.length)).length c2) (by rw [List.length_take, Nat.min_comm]; rfl)) rfl ?_
  refine DG.eff1 ?_
  refine Chg.eff rfl rfl (Eff.appendB rfl rfl rfl Try.underlying30 Try.underlying30 ti5 (by decide) (by repeat (first | exact Foc.here | apply Foc.there)) ((SlR.takeB (hd.imp (by exact (by repeat (first | exact Imp.refl _ | exact Imp.none _ | apply Imp.pull (by repeat (first | exact Ext.here | apply Ext.there)) | apply Imp.trans Imp.drop)))).slR _)) (by simp; omega)) rfl (fun _ => (by repeat (first | exact Imp.refl _ | exact Imp.none _ | apply Imp.pull (by repeat (first | exact Ext.here | apply Ext.there)) | apply Imp.trans Imp.drop))) (fun _ => Imp.refl _) (fun _ => (by repeat (first | exact Imp.refl _ | exact Imp.none _ | apply Imp.pull (by repeat (first | exact Ext.here | apply Ext.there)) | apply Imp.trans Imp.drop))) ?_
  rintro ⟨a27, c27⟩ -
  refine DG.look rfl rfl (Yield.nilCheck rfl) rfl ?_
  refine DG.look rfl rfl (Yield.fieldAddr fa58_1 rfl) rfl ?_
  refine DG.eff1 ?_
  refine Chg.eff rfl rfl (Eff.store1 ti30 rfl rfl (by repeat (first | exact Foc.here | apply Foc.there)) rfl (by simp)) rfl (fun _ => (by repeat (first | exact Imp.refl _ | exact Imp.none _ | apply Imp.pull (by repeat (first | exact Ext.here | apply Ext.there)) | apply Imp.trans Imp.drop))) (fun _ => Imp.refl _) (fun _ => (by repeat (first | exact Imp.refl _ | exact Imp.none _ | apply Imp.pull (by repeat (first | exact Ext.here | apply Ext.there)) | apply Imp.trans Imp.drop))) ?_
  rintro ⟨⟩ -
  refine DG.done ?_
  refine QG.then ?_
  refine CG.seq ?_
  refine CG.region ?_
  refine OG.yield (Yield.move rfl) rfl ?_
  refine OG.yield (Yield.assign rfl) rfl ?_
  refine OG.nil ?_
  refine QG.then ?_
  refine CG.ret ?_
  exact QG.ret1 rfl rfl () trivial rfl (Imp.trans (by repeat (first | exact Imp.refl _ | exact Imp.none _ | apply Imp.pull (by repeat (first | exact Ext.here | apply Ext.there)) | apply Imp.trans Imp.drop)) (u_close ((a27, c27), (a', c'))))
theorem queued_spec {u sz : Nat} {q s : List UInt8} :
    Ctr Try.prog W0 17 [.pointer (some ⟨u, 0, none⟩)] (U u sz q s :: Fr) (fun _ : Unit => True) (fun _ => .int .i64 q.length) (fun _ => U u sz q s :: Fr) := by
  refine Ctr.ex Ext.here u_open ?_
  rintro ⟨⟨a, c⟩, a', c'⟩ -
  refine Ctr.imp star_open ?_
  dsimp only [UO]
  refine Ctr.of_body Try.func17 rfl Try.ntmps17 rfl ?_
  refine CG.seq ?_
  refine CG.region ?_
  refine OG.yield (Yield.assign rfl) rfl ?_
  refine OG.nil ?_
  refine QG.then ?_
  refine CG.seq ?_
  refine CG.region ?_
  refine OG.yield (Yield.move rfl) rfl ?_
  refine OG.yield (Yield.nilCheck rfl) rfl ?_
  refine OG.yield (Yield.fieldAddr fa58_1 rfl) rfl ?_
  refine OG.yield (Yield.load ti30 rfl (by first | exact Cel.of_blk (by repeat (first | exact Ext.here | apply Ext.there)) rfl | exact (hrow (by repeat (first | exact Ext.here | apply Ext.there))) _ _ rfl)) rfl ?_
  refine OG.yield (Yield.len_slice Try.underlying30 rfl rfl) rfl ?_
  refine OG.yield (Yield.assign rfl) rfl ?_
  refine OG.nil ?_
  refine QG.then ?_
  refine CG.ret ?_
  exact QG.ret1 rfl rfl () trivial rfl (u_close ((a, c), (a', c')))
theorem sent_spec {u sz : Nat} {q s : List UInt8} (hs : s.length ≤ 2 ^ 46) :
    Ctr Try.prog W0 18 [.pointer (some ⟨u, 0, none⟩)] (U u sz q s :: Fr) (fun _ : Option Addr × Nat => True) (fun p => .slice p.1 s.length p.2) (fun p => oby 5 p.1 p.2 s :: U u sz q s :: Fr) := by
  refine Ctr.ex Ext.here u_open ?_
  rintro ⟨⟨a, c⟩, a', c'⟩ -
  refine Ctr.imp star_open ?_
  dsimp only [UO]
  refine Ctr.of_body Try.func18 rfl Try.ntmps18 rfl ?_
  refine CG.seq ?_
  refine CG.region ?_
  refine OG.yield (Yield.assign rfl) rfl ?_
  refine OG.nil ?_
  refine QG.then ?_
  refine CG.seq ?_
  refine CG.region ?_
  refine OG.effd (Eff.lit0 Try.underlying30 ti5 rfl) rfl ?_
  rintro b3 -
  refine OG.yield (Yield.move rfl) rfl ?_
  refine OG.yield (Yield.nilCheck rfl) rfl ?_
  refine OG.yield (Yield.fieldAddr fa58_2 rfl) rfl ?_
  refine OG.yield (Yield.load ti30 rfl (by first | exact Cel.of_blk (by repeat (first | exact Ext.here | apply Ext.there)) rfl | exact (hrow (by repeat (first | exact Ext.here | apply Ext.there))) _ _ rfl)) rfl ?_
  refine OG.effd (by first | exact Eff.appendB0 rfl rfl rfl Try.underlying30 Try.underlying30 ti5 (by decide) (by repeat (first | exact Foc.here | apply Foc.there)) (by first | exact SlR.of_osl (by repeat (first | exact Ext.here | apply Ext.there)) | exact SlR.of_osl_eq (by repeat (first | exact Ext.here | apply Ext.there)) rfl rfl | exact SlR.of_osl_eq (by repeat (first | exact Ext.here | apply Ext.there)) rfl (by simp [bytesV, byteV]) | assumption | exact SlAt.old (by assumption) (by repeat (first | exact Ext.here | apply Ext.there)) | exact RdB.slR (by assumption)) (by omega) | exact Eff.appendB rfl rfl rfl Try.underlying30 Try.underlying30 ti5 (by decide) (by repeat (first | exact Foc.here | apply Foc.there)) (by first | exact SlR.of_osl (by repeat (first | exact Ext.here | apply Ext.there)) | exact SlR.of_osl_eq (by repeat (first | exact Ext.here | apply Ext.there)) rfl rfl | exact SlR.of_osl_eq (by repeat (first | exact Ext.here | apply Ext.there)) rfl (by simp [bytesV, byteV]) | assumption | exact SlAt.old (by assumption) (by repeat (first | exact Ext.here | apply Ext.there)) | exact RdB.slR (by assumption)) (by first | omega | (simp only [List.length_append, List.length_cons, List.length_nil, List.length_take, List.length_drop]; omega))) rfl ?_
  rintro ⟨a8, c8⟩ -
  refine OG.yield (Yield.assign rfl) rfl ?_
  refine OG.nil ?_
  refine QG.then ?_
  refine CG.ret ?_
  exact QG.ret1 rfl rfl (a8, c8) trivial rfl (Imp.trans (by repeat (first | exact Imp.refl _ | exact Imp.none _ | apply Imp.pull (by repeat (first | exact Ext.here | apply Ext.there)) | apply Imp.trans Imp.drop)) (Imp.cons (u_close ((a, c), (a', c')))))
theorem drain_spec {u sz : Nat} {q s : List UInt8} (n : Int) (hq : q.length ≤ 2 ^ 40) (hs : s.length ≤ 2 ^ 46) :
    Ctr Try.prog W0 15 [.pointer (some ⟨u, 0, none⟩), .int .i64 n] (U u sz q s :: Fr) (fun _ : Unit => True) (fun _ => .int .i64 (kOf n q.length)) (fun _ => U u sz (q.drop (kOf n q.length)) (s ++ q.take (kOf n q.length)) :: Fr) := by
  have hk := kOf_eq n q.length
  have hkm := kOf_le n q.length
  generalize kOf n q.length = k at hk hkm ⊢
  refine Ctr.ex Ext.here u_open ?_
  rintro ⟨⟨a, c⟩, a', c'⟩ -
  refine Ctr.imp star_open ?_
  dsimp only [UO]
  refine Ctr.pure (fun w hw => osl_facts (a := a) (c := c) (xs := bytesV q) (m := q.length) (by repeat (first | exact Ext.here | apply Ext.there)) w hw) ?_
  rintro ⟨_, hcap⟩
  refine Ctr.of_body Try.func15 rfl Try.ntmps15 rfl ?_
  refine CG.seq ?_
  refine CG.region ?_
  refine OG.yield (Yield.assign rfl) rfl ?_
  refine OG.nil ?_
  refine QG.then ?_
  refine CG.seq ?_
  refine CG.region ?_
  refine OG.yield (Yield.move rfl) rfl ?_
  refine OG.yield (Yield.move rfl) rfl ?_
  refine OG.yield (Yield.nilCheck rfl) rfl ?_
  refine OG.yield (Yield.fieldAddr fa58_1 rfl) rfl ?_
  refine OG.yield (Yield.load ti30 rfl (by first | exact Cel.of_blk (by repeat (first | exact Ext.here | apply Ext.there)) rfl | exact (hrow (by repeat (first | exact Ext.here | apply Ext.there))) _ _ rfl)) rfl ?_
  refine OG.yield (Yield.len_slice Try.underlying30 rfl rfl) rfl ?_
  refine OG.yield (Yield.min2 rfl rfl) rfl ?_
  refine OG.yield (Yield.max2 rfl rfl) rfl ?_
  refine OG.yield (Yield.assign rfl) rfl ?_
  refine OG.nil ?_
  rw [hk]
  refine QG.then ?_
  refine CG.seq ?_
  refine CG.draw (.look 0 0 (.look 1 1 (.look 2 1 (.look 3 1 (.look 4 1 (.look 5 1 (.look 6 1 (.look 7 1 (.look 8 1 (.look 9 1 (.look 10 1 (.eff1 11 false (.look 12 1 (.look 13 1 (.eff1 14 false (.done)))))))))))))))) [11, 14] [] ([]) ([]) mixed (by kernel_rfl) (Imp.none _) (Imp.none _) ?_
  refine DG.look rfl rfl (Yield.move rfl) rfl ?_
  refine DG.look rfl rfl (Yield.move rfl) rfl ?_
  refine DG.look rfl rfl (Yield.nilCheck rfl) rfl ?_
  refine DG.look rfl rfl (Yield.fieldAddr fa58_2 rfl) rfl ?_
  refine DG.look rfl rfl (Yield.load ti30 rfl (by first | exact Cel.of_blk (by repeat (first | exact Ext.here | apply Ext.there)) rfl | exact (hrow (by repeat (first | exact Ext.here | apply Ext.there))) _ _ rfl)) rfl ?_
  refine DG.look rfl rfl (Yield.move rfl) rfl ?_
  refine DG.look rfl rfl (Yield.nilCheck rfl) rfl ?_
  refine DG.look rfl rfl (Yield.fieldAddr fa58_1 rfl) rfl ?_
  refine DG.look rfl rfl (Yield.load ti30 rfl (by first | exact Cel.of_blk (by repeat (first | exact Ext.here | apply Ext.there)) rfl | exact (hrow (by repeat (first | exact Ext.here | apply Ext.there))) _ _ rfl)) rfl ?_
  refine DG.look rfl rfl (Yield.move rfl) rfl ?_
  refine DG.look rfl rfl (Yield.as (Yield.slice_hi Try.underlying30 ti5 rfl (Bound.some rfl) (by omega) (by omega)) (v' := .slice a (q.take k).length c) (by rw [List.length_take, Nat.min_eq_left hkm]; rfl)) rfl ?_
  refine DG.eff1 ?_
  refine Chg.eff rfl rfl (Eff.appendB rfl rfl rfl Try.underlying30 Try.underlying30 ti5 (by decide) (by repeat (first | exact Foc.here | apply Foc.there)) ((SlR.of_osl (xs := bytesV q) (m := q.length) (by repeat (first | exact Ext.here | apply Ext.there))).takeB _) (by simp; omega)) rfl (fun _ => (by repeat (first | exact Imp.refl _ | exact Imp.none _ | apply Imp.pull (by repeat (first | exact Ext.here | apply Ext.there)) | apply Imp.trans Imp.drop))) (fun _ => Imp.refl _) (fun _ => (by repeat (first | exact Imp.refl _ | exact Imp.none _ | apply Imp.pull (by repeat (first | exact Ext.here | apply Ext.there)) | apply Imp.trans Imp.drop))) ?_
  rintro ⟨a25, c25⟩ -
  refine DG.look rfl rfl (Yield.nilCheck rfl) rfl ?_
  refine DG.look rfl rfl (Yield.fieldAddr fa58_2 rfl) rfl ?_
  refine DG.eff1 ?_
  refine Chg.eff rfl rfl (Eff.store1 ti30 rfl rfl (by repeat (first | exact Foc.here | apply Foc.there)) rfl (by simp)) rfl (fun _ => (by repeat (first | exact Imp.refl _ | exact Imp.none _ | apply Imp.pull (by repeat (first | exact Ext.here | apply Ext.there)) | apply Imp.trans Imp.drop))) (fun _ => Imp.refl _) (fun _ => (by repeat (first | exact Imp.refl _ | exact Imp.none _ | apply Imp.pull (by repeat (first | exact Ext.here | apply Ext.there)) | apply Imp.trans Imp.drop))) ?_
  rintro ⟨⟩ -
  refine DG.done ?_
  refine QG.then ?_
  refine CG.seq ?_
  refine CG.region ?_
  refine OG.yield (Yield.move rfl) rfl ?_
  refine OG.yield (Yield.nilCheck rfl) rfl ?_
  refine OG.yield (Yield.fieldAddr fa58_1 rfl) rfl ?_
  refine OG.yield (Yield.load ti30 rfl (by first | exact Cel.of_blk (by repeat (first | exact Ext.here | apply Ext.there)) rfl | exact (hrow (by repeat (first | exact Ext.here | apply Ext.there))) _ _ rfl)) rfl ?_
  refine OG.yield (Yield.len_slice Try.underlying30 rfl rfl) rfl ?_
  refine OG.yield (Yield.move rfl) rfl ?_
  refine OG.yield (Yield.sub rfl rfl (w64 (by omega) (by omega))) rfl ?_
  refine OG.effd (Eff.makeB (q.length - k) Try.underlying30 ti5 rfl (by omega) (by omega)) rfl ?_
  rintro b35 -
  refine OG.yield (Yield.assign rfl) rfl ?_
  refine OG.nil ?_
  refine QG.then ?_
  refine CG.seq ?_
  refine CG.region ?_
  refine OG.yield (Yield.move rfl) rfl ?_
  refine OG.yield (Yield.move rfl) rfl ?_
  refine OG.yield (Yield.nilCheck rfl) rfl ?_
  refine OG.yield (Yield.fieldAddr fa58_1 rfl) rfl ?_
  refine OG.yield (Yield.load ti30 rfl (by first | exact Cel.of_blk (by repeat (first | exact Ext.here | apply Ext.there)) rfl | exact (hrow (by repeat (first | exact Ext.here | apply Ext.there))) _ _ rfl)) rfl ?_
  refine OG.yield (Yield.move rfl) rfl ?_
  refine OG.yield (Yield.as (Yield.slice Try.underlying30 ti5 rfl (Bound.some rfl) Bound.none (by omega) (by omega) (by omega)) (v' := .slice (a.map fun x => cutAt x k c 1) (q.drop k).length (c - k)) (by rw [List.length_drop]; rfl)) rfl ?_
  refine OG.effd (Eff.copyB rfl rfl rfl Try.underlying30 ti5 (by repeat (first | exact Foc.here | apply Foc.there)) ((SlR.of_osl (xs := bytesV q) (m := q.length) (by repeat (first | exact Ext.here | apply Ext.there))).dropB hcap hkm) (by simp) rfl) rfl ?_
  rintro ⟨⟩ -
  refine OG.nil ?_
  refine QG.then ?_
  refine CG.seq ?_
  refine CG.region ?_
  refine OG.yield (Yield.move rfl) rfl ?_
  refine OG.yield (Yield.move rfl) rfl ?_
  refine OG.yield (Yield.nilCheck rfl) rfl ?_
  refine OG.yield (Yield.fieldAddr fa58_1 rfl) rfl ?_
  refine OG.eff (Eff.store1 ti30 rfl rfl (by repeat (first | exact Foc.here | apply Foc.there)) rfl (by simp)) rfl ?_
  rintro ⟨⟩ -
  refine OG.nil ?_
  refine QG.then ?_
  refine CG.seq ?_
  refine CG.region ?_
  refine OG.yield (Yield.move rfl) rfl ?_
  refine OG.yield (Yield.assign rfl) rfl ?_
  refine OG.nil ?_
  refine QG.then ?_
  refine CG.ret ?_
  have e1 : (List.replicate (q.length - k) (0 : UInt8)).length = (q.drop k).length := by simp
  rw [e1]
  exact QG.ret1 rfl rfl () trivial rfl (Imp.trans (by repeat (first | exact Imp.refl _ | exact Imp.none _ | apply Imp.pull (by repeat (first | exact Ext.here | apply Ext.there)) | apply Imp.trans Imp.drop)) (u_close ((some ⟨b35, 0, none⟩, q.length - k), (a25, c25))))
theorem clone_spec {u sz : Nat} {q s : List UInt8} (hq : q.length ≤ 2 ^ 40) (hs : s.length ≤ 2 ^ 46) :
    Ctr Try.prog W0 22 [.pointer (some ⟨u, 0, none⟩)] (U u sz q s :: Fr) (fun _ : Nat => True) (fun u' => .pointer (some ⟨u', 0, none⟩)) (fun u' => U u' sz q s :: U u sz q s :: Fr) := by
  refine Ctr.ex Ext.here u_open ?_
  rintro ⟨⟨a, c⟩, a', c'⟩ -
  refine Ctr.imp star_open ?_
  dsimp only [UO]
  refine Ctr.of_body Try.func22 rfl Try.ntmps22 rfl ?_
  refine CG.seq ?_
  refine CG.region ?_
  refine OG.yield (Yield.assign rfl) rfl ?_
  refine OG.nil ?_
  refine QG.then ?_
  refine CG.seq ?_
  refine CG.draw (.look 0 0 (.look 1 0 (.look 2 0 (.look 3 0 (.look 5 0 (.look 6 0 (.look 7 0 (.look 8 0 (.look 11 0 (.look 12 0 (.look 13 0 (.look 14 0 (.eff2 4 false (.eff2 9 false (.eff1 10 false (.eff1 15 false (.look 16 1 (.eff1 17 false (.look 18 1 (.done)))))) 10 false (.eff1 9 false (.eff1 15 false (.look 16 1 (.eff1 17 false (.look 18 1 (.done))))))) 10 false (.eff1 4 false (.eff1 9 false (.eff1 15 false (.look 16 1 (.eff1 17 false (.look 18 1 (.done)))))))))))))))))))) [4, 9, 10, 15, 17] [] (UO u sz q s ((a, c), (a', c'))) ([]) mixed (by kernel_rfl) ((by repeat (first | exact Imp.refl _ | exact Imp.none _ | apply Imp.pull (by repeat (first | exact Ext.here | apply Ext.there)) | apply Imp.trans Imp.drop))) (Imp.none _) ?_
  refine DG.look rfl rfl (Yield.move rfl) rfl ?_
  refine DG.look rfl rfl (Yield.nilCheck rfl) rfl ?_
  refine DG.look rfl rfl (Yield.fieldAddr fa58_0 rfl) rfl ?_
  refine DG.look rfl rfl (Yield.load ti3 rfl (by first | exact Cel.of_blk (by repeat (first | exact Ext.here | apply Ext.there)) rfl | exact (hrow (by repeat (first | exact Ext.here | apply Ext.there))) _ _ rfl)) rfl ?_
  refine DG.look rfl rfl (Yield.move rfl) rfl ?_
  refine DG.look rfl rfl (Yield.nilCheck rfl) rfl ?_
  refine DG.look rfl rfl (Yield.fieldAddr fa58_1 rfl) rfl ?_
  refine DG.look rfl rfl (Yield.load ti30 rfl (by first | exact Cel.of_blk (by repeat (first | exact Ext.here | apply Ext.there)) rfl | exact (hrow (by repeat (first | exact Ext.here | apply Ext.there))) _ _ rfl)) rfl ?_
  refine DG.look rfl rfl (Yield.move rfl) rfl ?_
  refine DG.look rfl rfl (Yield.nilCheck rfl) rfl ?_
  refine DG.look rfl rfl (Yield.fieldAddr fa58_2 rfl) rfl ?_
  refine DG.look rfl rfl (Yield.load ti30 rfl (by first | exact Cel.of_blk (by repeat (first | exact Ext.here | apply Ext.there)) rfl | exact (hrow (by repeat (first | exact Ext.here | apply Ext.there))) _ _ rfl)) rfl ?_
  refine DG.eff2 ?_ ?_
  · skip
    refine Chg.eff rfl rfl (Eff.lit0 Try.underlying30 ti5 rfl) rfl (fun _ => (by repeat (first | exact Imp.refl _ | exact Imp.none _ | apply Imp.pull (by repeat (first | exact Ext.here | apply Ext.there)) | apply Imp.trans Imp.drop))) (fun _ => Imp.refl _) (fun _ => (by repeat (first | exact Imp.refl _ | exact Imp.none _ | apply Imp.pull (by repeat (first | exact Ext.here | apply Ext.there)) | apply Imp.trans Imp.drop))) ?_
    rintro b7 -
    refine DG.eff2 ?_ ?_
    · skip
      refine Chg.eff rfl rfl (by first | exact Eff.appendB0 rfl rfl rfl Try.underlying30 Try.underlying30 ti5 (by decide) (by repeat (first | exact Foc.here | apply Foc.there)) (by first | exact SlR.of_osl (by repeat (first | exact Ext.here | apply Ext.there)) | exact SlR.of_osl_eq (by repeat (first | exact Ext.here | apply Ext.there)) rfl rfl | exact SlR.of_osl_eq (by repeat (first | exact Ext.here | apply Ext.there)) rfl (by simp [bytesV, byteV]) | assumption | exact SlAt.old (by assumption) (by repeat (first | exact Ext.here | apply Ext.there)) | exact RdB.slR (by assumption)) (by omega) | exact Eff.appendB rfl rfl rfl Try.underlying30 Try.underlying30 ti5 (by decide) (by repeat (first | exact Foc.here | apply Foc.there)) (by first | exact SlR.of_osl (by repeat (first | exact Ext.here | apply Ext.there)) | exact SlR.of_osl_eq (by repeat (first | exact Ext.here | apply Ext.there)) rfl rfl | exact SlR.of_osl_eq (by repeat (first | exact Ext.here | apply Ext.there)) rfl (by simp [bytesV, byteV]) | assumption | exact SlAt.old (by assumption) (by repeat (first | exact Ext.here | apply Ext.there)) | exact RdB.slR (by assumption)) (by first | omega | (simp only [List.length_append, List.length_cons, List.length_nil, List.length_take, List.length_drop]; omega))) rfl (fun _ => (by repeat (first | exact Imp.refl _ | exact Imp.none _ | apply Imp.pull (by repeat (first | exact Ext.here | apply Ext.there)) | apply Imp.trans Imp.drop))) (fun _ => Imp.refl _) (fun _ => (by repeat (first | exact Imp.refl _ | exact Imp.none _ | apply Imp.pull (by repeat (first | exact Ext.here | apply Ext.there)) | apply Imp.trans Imp.drop))) ?_
      rintro ⟨a12, c12⟩ -
      refine DG.eff1 ?_
      refine Chg.eff rfl rfl (Eff.lit0 Try.underlying30 ti5 rfl) rfl (fun _ => (by repeat (first | exact Imp.refl _ | exact Imp.none _ | apply Imp.pull (by repeat (first | exact Ext.here | apply Ext.there)) | apply Imp.trans Imp.drop))) (fun _ => Imp.refl _) (fun _ => (by repeat (first | exact Imp.refl _ | exact Imp.none _ | apply Imp.pull (by repeat (first | exact Ext.here | apply Ext.there)) | apply Imp.trans Imp.drop))) ?_
      rintro b13 -
      refine DG.eff1 ?_
      refine Chg.eff rfl rfl (by first | exact Eff.appendB0 rfl rfl rfl Try.underlying30 Try.underlying30 ti5 (by decide) (by repeat (first | exact Foc.here | apply Foc.there)) (by first | exact SlR.of_osl (by repeat (first | exact Ext.here | apply Ext.there)) | exact SlR.of_osl_eq (by repeat (first | exact Ext.here | apply Ext.there)) rfl rfl | exact SlR.of_osl_eq (by repeat (first | exact Ext.here | apply Ext.there)) rfl (by simp [bytesV, byteV]) | assumption | exact SlAt.old (by assumption) (by repeat (first | exact Ext.here | apply Ext.there)) | exact RdB.slR (by assumption)) (by omega) | exact Eff.appendB rfl rfl rfl Try.underlying30 Try.underlying30 ti5 (by decide) (by repeat (first | exact Foc.here | apply Foc.there)) (by first | exact SlR.of_osl (by repeat (first | exact Ext.here | apply Ext.there)) | exact SlR.of_osl_eq (by repeat (first | exact Ext.here | apply Ext.there)) rfl rfl | exact SlR.of_osl_eq (by repeat (first | exact Ext.here | apply Ext.there)) rfl (by simp [bytesV, byteV]) | assumption | exact SlAt.old (by assumption) (by repeat (first | exact Ext.here | apply Ext.there)) | exact RdB.slR (by assumption)) (by first | omega | (simp only [List.length_append, List.length_cons, List.length_nil, List.length_take, List.length_drop]; omega))) rfl (fun _ => (by repeat (first | exact Imp.refl _ | exact Imp.none _ | apply Imp.pull (by repeat (first | exact Ext.here | apply Ext.there)) | apply Imp.trans Imp.drop))) (fun _ => Imp.refl _) (fun _ => (by repeat (first | exact Imp.refl _ | exact Imp.none _ | apply Imp.pull (by repeat (first | exact Ext.here | apply Ext.there)) | apply Imp.trans Imp.drop))) ?_
      rintro ⟨a18, c18⟩ -
      refine DG.look rfl rfl (Yield.build bu58 ti58 rfl (cells := [_, _, _]) rfl) rfl ?_
      refine DG.eff1 ?_
      refine Chg.eff rfl rfl (Eff.box rfl) rfl (fun _ => (by repeat (first | exact Imp.refl _ | exact Imp.none _ | apply Imp.pull (by repeat (first | exact Ext.here | apply Ext.there)) | apply Imp.trans Imp.drop))) (fun _ => Imp.refl _) (fun _ => (by repeat (first | exact Imp.refl _ | exact Imp.none _ | apply Imp.pull (by repeat (first | exact Ext.here | apply Ext.there)) | apply Imp.trans Imp.drop))) ?_
      rintro b20 -
      refine DG.look rfl rfl (Yield.assign rfl) rfl ?_
      refine DG.done ?_
      refine QG.then ?_
      refine CG.ret ?_
      exact QG.ret1 rfl rfl b20 trivial rfl (Imp.trans (by repeat (first | exact Imp.refl _ | exact Imp.none _ | apply Imp.pull (by repeat (first | exact Ext.here | apply Ext.there)) | apply Imp.trans Imp.drop)) (Imp.trans (u_close (G := UO u sz q s ((a, c), (a', c')) ++ Fr) ((a12, c12), (a18, c18))) (Imp.cons (u_close ((a, c), (a', c'))))))
    · skip
      refine Chg.eff rfl rfl (Eff.lit0 Try.underlying30 ti5 rfl) rfl (fun _ => (by repeat (first | exact Imp.refl _ | exact Imp.none _ | apply Imp.pull (by repeat (first | exact Ext.here | apply Ext.there)) | apply Imp.trans Imp.drop))) (fun _ => Imp.refl _) (fun _ => (by repeat (first | exact Imp.refl _ | exact Imp.none _ | apply Imp.pull (by repeat (first | exact Ext.here | apply Ext.there)) | apply Imp.trans Imp.drop))) ?_
      rintro b13 -
      refine DG.eff1 ?_
      refine Chg.eff rfl rfl (by first | exact Eff.appendB0 rfl rfl rfl Try.underlying30 Try.underlying30 ti5 (by decide) (by repeat (first | exact Foc.here | apply Foc.there)) (by first | exact SlR.of_osl (by repeat (first | exact Ext.here | apply Ext.there)) | exact SlR.of_osl_eq (by repeat (first | exact Ext.here | apply Ext.there)) rfl rfl | exact SlR.of_osl_eq (by repeat (first | exact Ext.here | apply Ext.there)) rfl (by simp [bytesV, byteV]) | assumption | exact SlAt.old (by assumption) (by repeat (first | exact Ext.here | apply Ext.there)) | exact RdB.slR (by assumption)) (by omega) | exact Eff.appendB rfl rfl rfl Try.underlying30 Try.underlying30 ti5 (by decide) (by repeat (first | exact Foc.here | apply Foc.there)) (by first | exact SlR.of_osl (by repeat (first | exact Ext.here | apply Ext.there)) | exact SlR.of_osl_eq (by repeat (first | exact Ext.here | apply Ext.there)) rfl rfl | exact SlR.of_osl_eq (by repeat (first | exact Ext.here | apply Ext.there)) rfl (by simp [bytesV, byteV]) | assumption | exact SlAt.old (by assumption) (by repeat (first | exact Ext.here | apply Ext.there)) | exact RdB.slR (by assumption)) (by first | omega | (simp only [List.length_append, List.length_cons, List.length_nil, List.length_take, List.length_drop]; omega))) rfl (fun _ => (by repeat (first | exact Imp.refl _ | exact Imp.none _ | apply Imp.pull (by repeat (first | exact Ext.here | apply Ext.there)) | apply Imp.trans Imp.drop))) (fun _ => Imp.refl _) (fun _ => (by repeat (first | exact Imp.refl _ | exact Imp.none _ | apply Imp.pull (by repeat (first | exact Ext.here | apply Ext.there)) | apply Imp.trans Imp.drop))) ?_
      rintro ⟨a12, c12⟩ -
      refine DG.eff1 ?_
      refine Chg.eff rfl rfl (by first | exact Eff.appendB0 rfl rfl rfl Try.underlying30 Try.underlying30 ti5 (by decide) (by repeat (first | exact Foc.here | apply Foc.there)) (by first | exact SlR.of_osl (by repeat (first | exact Ext.here | apply Ext.there)) | exact SlR.of_osl_eq (by repeat (first | exact Ext.here | apply Ext.there)) rfl rfl | exact SlR.of_osl_eq (by repeat (first | exact Ext.here | apply Ext.there)) rfl (by simp [bytesV, byteV]) | assumption | exact SlAt.old (by assumption) (by repeat (first | exact Ext.here | apply Ext.there)) | exact RdB.slR (by assumption)) (by omega) | exact Eff.appendB rfl rfl rfl Try.underlying30 Try.underlying30 ti5 (by decide) (by repeat (first | exact Foc.here | apply Foc.there)) (by first | exact SlR.of_osl (by repeat (first | exact Ext.here | apply Ext.there)) | exact SlR.of_osl_eq (by repeat (first | exact Ext.here | apply Ext.there)) rfl rfl | exact SlR.of_osl_eq (by repeat (first | exact Ext.here | apply Ext.there)) rfl (by simp [bytesV, byteV]) | assumption | exact SlAt.old (by assumption) (by repeat (first | exact Ext.here | apply Ext.there)) | exact RdB.slR (by assumption)) (by first | omega | (simp only [List.length_append, List.length_cons, List.length_nil, List.length_take, List.length_drop]; omega))) rfl (fun _ => (by repeat (first | exact Imp.refl _ | exact Imp.none _ | apply Imp.pull (by repeat (first | exact Ext.here | apply Ext.there)) | apply Imp.trans Imp.drop))) (fun _ => Imp.refl _) (fun _ => (by repeat (first | exact Imp.refl _ | exact Imp.none _ | apply Imp.pull (by repeat (first | exact Ext.here | apply Ext.there)) | apply Imp.trans Imp.drop))) ?_
      rintro ⟨a18, c18⟩ -
      refine DG.look rfl rfl (Yield.build bu58 ti58 rfl (cells := [_, _, _]) rfl) rfl ?_
      refine DG.eff1 ?_
      refine Chg.eff rfl rfl (Eff.box rfl) rfl (fun _ => (by repeat (first | exact Imp.refl _ | exact Imp.none _ | apply Imp.pull (by repeat (first | exact Ext.here | apply Ext.there)) | apply Imp.trans Imp.drop))) (fun _ => Imp.refl _) (fun _ => (by repeat (first | exact Imp.refl _ | exact Imp.none _ | apply Imp.pull (by repeat (first | exact Ext.here | apply Ext.there)) | apply Imp.trans Imp.drop))) ?_
      rintro b20 -
      refine DG.look rfl rfl (Yield.assign rfl) rfl ?_
      refine DG.done ?_
      refine QG.then ?_
      refine CG.ret ?_
      exact QG.ret1 rfl rfl b20 trivial rfl (Imp.trans (by repeat (first | exact Imp.refl _ | exact Imp.none _ | apply Imp.pull (by repeat (first | exact Ext.here | apply Ext.there)) | apply Imp.trans Imp.drop)) (Imp.trans (u_close (G := UO u sz q s ((a, c), (a', c')) ++ Fr) ((a12, c12), (a18, c18))) (Imp.cons (u_close ((a, c), (a', c'))))))
  · skip
    refine Chg.eff rfl rfl (Eff.lit0 Try.underlying30 ti5 rfl) rfl (fun _ => (by repeat (first | exact Imp.refl _ | exact Imp.none _ | apply Imp.pull (by repeat (first | exact Ext.here | apply Ext.there)) | apply Imp.trans Imp.drop))) (fun _ => Imp.refl _) (fun _ => (by repeat (first | exact Imp.refl _ | exact Imp.none _ | apply Imp.pull (by repeat (first | exact Ext.here | apply Ext.there)) | apply Imp.trans Imp.drop))) ?_
    rintro b13 -
    refine DG.eff1 ?_
    refine Chg.eff rfl rfl (Eff.lit0 Try.underlying30 ti5 rfl) rfl (fun _ => (by repeat (first | exact Imp.refl _ | exact Imp.none _ | apply Imp.pull (by repeat (first | exact Ext.here | apply Ext.there)) | apply Imp.trans Imp.drop))) (fun _ => Imp.refl _) (fun _ => (by repeat (first | exact Imp.refl _ | exact Imp.none _ | apply Imp.pull (by repeat (first | exact Ext.here | apply Ext.there)) | apply Imp.trans Imp.drop))) ?_
    rintro b7 -
    refine DG.eff1 ?_
    refine Chg.eff rfl rfl (by first | exact Eff.appendB0 rfl rfl rfl Try.underlying30 Try.underlying30 ti5 (by decide) (by repeat (first | exact Foc.here | apply Foc.there)) (by first | exact SlR.of_osl (by repeat (first | exact Ext.here | apply Ext.there)) | exact SlR.of_osl_eq (by repeat (first | exact Ext.here | apply Ext.there)) rfl rfl | exact SlR.of_osl_eq (by repeat (first | exact Ext.here | apply Ext.there)) rfl (by simp [bytesV, byteV]) | assumption | exact SlAt.old (by assumption) (by repeat (first | exact Ext.here | apply Ext.there)) | exact RdB.slR (by assumption)) (by omega) | exact Eff.appendB rfl rfl rfl Try.underlying30 Try.underlying30 ti5 (by decide) (by repeat (first | exact Foc.here | apply Foc.there)) (by first | exact SlR.of_osl (by repeat (first | exact Ext.here | apply Ext.there)) | exact SlR.of_osl_eq (by repeat (first | exact Ext.here | apply Ext.there)) rfl rfl | exact SlR.of_osl_eq (by repeat (first | exact Ext.here | apply Ext.there)) rfl (by simp [bytesV, byteV]) | assumption | exact SlAt.old (by assumption) (by repeat (first | exact Ext.here | apply Ext.there)) | exact RdB.slR (by assumption)) (by first | omega | (simp only [List.length_append, List.length_cons, List.length_nil, List.length_take, List.length_drop]; omega))) rfl (fun _ => (by repeat (first | exact Imp.refl _ | exact Imp.none _ | apply Imp.pull (by repeat (first | exact Ext.here | apply Ext.there)) | apply Imp.trans Imp.drop))) (fun _ => Imp.refl _) (fun _ => (by repeat (first | exact Imp.refl _ | exact Imp.none _ | apply Imp.pull (by repeat (first | exact Ext.here | apply Ext.there)) | apply Imp.trans Imp.drop))) ?_
    rintro ⟨a12, c12⟩ -
    refine DG.eff1 ?_
    refine Chg.eff rfl rfl (by first | exact Eff.appendB0 rfl rfl rfl Try.underlying30 Try.underlying30 ti5 (by decide) (by repeat (first | exact Foc.here | apply Foc.there)) (by first | exact SlR.of_osl (by repeat (first | exact Ext.here | apply Ext.there)) | exact SlR.of_osl_eq (by repeat (first | exact Ext.here | apply Ext.there)) rfl rfl | exact SlR.of_osl_eq (by repeat (first | exact Ext.here | apply Ext.there)) rfl (by simp [bytesV, byteV]) | assumption | exact SlAt.old (by assumption) (by repeat (first | exact Ext.here | apply Ext.there)) | exact RdB.slR (by assumption)) (by omega) | exact Eff.appendB rfl rfl rfl Try.underlying30 Try.underlying30 ti5 (by decide) (by repeat (first | exact Foc.here | apply Foc.there)) (by first | exact SlR.of_osl (by repeat (first | exact Ext.here | apply Ext.there)) | exact SlR.of_osl_eq (by repeat (first | exact Ext.here | apply Ext.there)) rfl rfl | exact SlR.of_osl_eq (by repeat (first | exact Ext.here | apply Ext.there)) rfl (by simp [bytesV, byteV]) | assumption | exact SlAt.old (by assumption) (by repeat (first | exact Ext.here | apply Ext.there)) | exact RdB.slR (by assumption)) (by first | omega | (simp only [List.length_append, List.length_cons, List.length_nil, List.length_take, List.length_drop]; omega))) rfl (fun _ => (by repeat (first | exact Imp.refl _ | exact Imp.none _ | apply Imp.pull (by repeat (first | exact Ext.here | apply Ext.there)) | apply Imp.trans Imp.drop))) (fun _ => Imp.refl _) (fun _ => (by repeat (first | exact Imp.refl _ | exact Imp.none _ | apply Imp.pull (by repeat (first | exact Ext.here | apply Ext.there)) | apply Imp.trans Imp.drop))) ?_
    rintro ⟨a18, c18⟩ -
    refine DG.look rfl rfl (Yield.build bu58 ti58 rfl (cells := [_, _, _]) rfl) rfl ?_
    refine DG.eff1 ?_
    refine Chg.eff rfl rfl (Eff.box rfl) rfl (fun _ => (by repeat (first | exact Imp.refl _ | exact Imp.none _ | apply Imp.pull (by repeat (first | exact Ext.here | apply Ext.there)) | apply Imp.trans Imp.drop))) (fun _ => Imp.refl _) (fun _ => (by repeat (first | exact Imp.refl _ | exact Imp.none _ | apply Imp.pull (by repeat (first | exact Ext.here | apply Ext.there)) | apply Imp.trans Imp.drop))) ?_
    rintro b20 -
    refine DG.look rfl rfl (Yield.assign rfl) rfl ?_
    refine DG.done ?_
    refine QG.then ?_
    refine CG.ret ?_
    exact QG.ret1 rfl rfl b20 trivial rfl (Imp.trans (by repeat (first | exact Imp.refl _ | exact Imp.none _ | apply Imp.pull (by repeat (first | exact Ext.here | apply Ext.there)) | apply Imp.trans Imp.drop)) (Imp.trans (u_close (G := UO u sz q s ((a, c), (a', c')) ++ Fr) ((a12, c12), (a18, c18))) (Imp.cons (u_close ((a, c), (a', c'))))))
end
end Go.Proofs.Ytmhcdeklfecokaa.Ua
