/- Two lists of pages compared; a TLB flushed under a space. -/
import Derived.Test.YtmlfcfbblfcpdaaSpi
import Derived.Test.YtmlfcfbblfcpdaaFnv
namespace Go.Proofs.Ytmlfcfbblfcpdaa.Sp
open Go Go.Sl Go.RowKit Go.Proofs Go.Proofs.Ytmlfcfbblfcpdaa.T Go.Proofs.Ytmlfcfbblfcpdaa.Me Go.Proofs.Ytmlfcfbblfcpdaa.Pe Go.Proofs.Ytmlfcfbblfcpdaa.Pg
set_option linter.unusedVariables false
set_option linter.unusedSimpArgs false
set_option maxRecDepth 100000
/-- A list of views that may be read. -/
structure PVr (W0 : World) (G : List HProp) (a : Option Addr) (l : List PV) : Prop where
  cells : SlR W0 G 3 a l.length ((l.map PV.cells).flatten)
  bytes : ∀ x ∈ l, SlR W0 G 1 x.a x.b.length (bytesV x.b)
theorem PVr.imp {W0 : World} {G G' : List HProp} {a : Option Addr} {l : List PV} (h : PVr W0 G' a l) (i : Imp G G') : PVr W0 G a l := ⟨h.cells.imp i, fun x hx => (h.bytes x hx).imp i⟩
theorem PVr.of {W0 : World} {G : List HProp} {a : Option Addr} {c : Nat} {l : List PV} : PVr W0 (PVL a c l ++ G) a l := by
  refine ⟨SlR.of_osl (E := 89) (c := c) Ext.here, fun x hx => ?_⟩
  obtain ⟨j, hj⟩ := List.mem_iff_getElem?.1 hx
  have hy : (l.map fun x => oby 152 x.a x.c x.b)[j]? = some (oby 152 x.a x.c x.b) := by rw [List.getElem?_map, hj]; rfl
  refine SlR.imp (G' := [oby 152 x.a x.c x.b, Star ((l.map fun x => oby 152 x.a x.c x.b).eraseIdx j)]) (SlR.of_osl (E := 152) (c := x.c) Ext.here) ?_
  refine Imp.trans (B := [Star (l.map fun x => oby 152 x.a x.c x.b)]) ?_ (star_take hy)
  dsimp only [PVL, List.cons_append, List.nil_append]
  exact (by repeat (first | exact Imp.refl _ | exact Imp.none _ | apply Imp.pull (by repeat (first | exact Ext.here | apply Ext.there)) | apply Imp.trans Imp.drop))
theorem PVr.at {W0 : World} {G : List HProp} {a : Option Addr} {c : Nat} {l : List PV} (h : Imp G [osl 89 3 a c l.length ((l.map PV.cells).flatten), Star (l.map fun x => oby 152 x.a x.c x.b)]) : PVr W0 G a l := PVr.imp (PVr.of (c := c) (G := [])) h
section
variable (W0 : World) (Fr : List HProp)
theorem take_eq {α : Type} {l m : List α} {i : Nat} {x y : α} (h : l.take i = m.take i) (hx : l[i]? = some x) (hy : m[i]? = some y) (e : x = y) : l.take (i + 1) = m.take (i + 1) := by
  rw [List.take_add_one, List.take_add_one, h, hx, hy, e]
set_option maxHeartbeats 4000000 in
theorem same_spec {a1 a2 : Option Addr} {c1 c2 : Nat} {l1 l2 : List PV} (h1 : PVr W0 Fr a1 l1) (h2 : PVr W0 Fr a2 l2) (hlen : l1.length ≤ 1000000) :
    Ctr Try.prog W0 36 [.slice a1 l1.length c1, .slice a2 l2.length c2] Fr (fun _ : Unit => True) (fun _ => .bool (decide (l1.map PV.v = l2.map PV.v))) (fun _ => Fr) := by
  refine Ctr.of_body Try.func36 rfl Try.ntmps36 rfl ?_
  refine CG.seq ?_
  refine CG.region ?_
  refine OG.yield (Yield.assign rfl) rfl ?_
  refine OG.nil ?_
  refine QG.then ?_
  refine CG.seq ?_
  refine CG.seq ?_
  refine CG.region ?_
  refine OG.yield (Yield.move rfl) rfl ?_
  refine OG.yield (Yield.len_slice Try.underlying86 rfl rfl) rfl ?_
  refine OG.yield (Yield.move rfl) rfl ?_
  refine OG.yield (Yield.len_slice Try.underlying86 rfl rfl) rfl ?_
  refine OG.yield (by first | exact Yield.as (Yield.neq rfl rfl) (bT (by omega)) | exact Yield.as (Yield.neq rfl rfl) (bF (by omega)) | exact Yield.neq rfl rfl) rfl ?_
  refine OG.nil ?_
  refine QG.then ?_
  refine CG.cond rfl (fun hc => ?_) (fun hc => ?_)
  · try replace hc := of_decide_eq_true hc
    refine CG.seq ?_
    refine CG.region ?_
    refine OG.yield (Yield.assign rfl) rfl ?_
    refine OG.nil ?_
    refine QG.then ?_
    refine CG.ret ?_
    refine QG.pass_ret ?_
    refine QG.ret1 rfl rfl () trivial ?_ (Imp.refl _)
    rw [decide_eq_false (fun e => by have := congrArg List.length e; rw [List.length_map, List.length_map] at this; omega)]
  · try replace hc := of_decide_eq_false hc
    refine CG.skip ?_
    refine QG.then ?_
    refine CG.seq ?_
    refine CG.seq ?_
    refine CG.region ?_
    refine OG.yield (Yield.assign rfl) rfl ?_
    refine OG.nil ?_
    refine QG.then ?_
    refine CG.block ?_
    refine CG.loop (fun i : Nat => i ≤ l1.length ∧ (l1.map PV.v).take i = (l2.map PV.v).take i) (fun i => [(0, .slice a1 l1.length c1), (1, .slice a2 l2.length c2), (5, .int .i64 i)]) (fun _ => Fr) (fun i => l1.length - i) 0 ⟨Nat.zero_le _, rfl⟩ (by repeat (first | exact Env.sub_nil _ | refine Env.sub_cons rfl ?_)) (Imp.refl _) ?_
    rintro i ⟨hi, hp⟩
    refine CG.seq ?_
    refine CG.seq ?_
    refine CG.region ?_
    refine OG.yield (Yield.move rfl) rfl ?_
    refine OG.yield (Yield.move rfl) rfl ?_
    refine OG.yield (Yield.len_slice Try.underlying86 rfl rfl) rfl ?_
    refine OG.yield (by first | exact Yield.as (Yield.lss rfl rfl) (bT (by omega)) | exact Yield.as (Yield.lss rfl rfl) (bF (by omega)) | exact Yield.lss rfl rfl) rfl ?_
    refine OG.nil ?_
    refine QG.then ?_
    refine CG.cond rfl (fun hc => ?_) (fun hc => ?_)
    · try replace hc := of_decide_eq_true hc
      obtain ⟨x, hx⟩ : ∃ x, l1[i]? = some x := ⟨_, List.getElem?_eq_getElem (by omega)⟩
      obtain ⟨y, hy⟩ : ∃ y, l2[i]? = some y := ⟨_, List.getElem?_eq_getElem (by omega)⟩
      have hxv : (l1.map PV.v)[i]? = some x.v := by rw [List.getElem?_map, hx]; rfl
      have hyv : (l2.map PV.v)[i]? = some y.v := by rw [List.getElem?_map, hy]; rfl
      have hno : x.v ≠ y.v → l1.map PV.v ≠ l2.map PV.v := fun q e => q (by rw [e, hyv] at hxv; exact (Option.some.inj hxv).symm)
      refine CG.pure (fun w hw => SlR.elem_shape (W0 := W0) (f := PV.cells) (xs := l1) (i := i) h1.cells PV.len (by decide) (by omega) w hw) ?_
      rintro ⟨b1, o1, rfl⟩
      refine CG.pure (fun w hw => SlR.elem_shape (W0 := W0) (f := PV.cells) (xs := l2) (i := i) h2.cells PV.len (by decide) (by omega) w hw) ?_
      rintro ⟨b2, o2, rfl⟩
      have r1 := SlR.elem (f := PV.cells) (xs := l1) (i := i) h1.cells PV.len hx
      have r2 := SlR.elem (f := PV.cells) (xs := l2) (i := i) h2.cells PV.len hy
      refine CG.skip ?_
      refine QG.then ?_
      refine CG.seq ?_
      refine CG.block ?_
      refine CG.seq ?_
      rcases (show x.p ≠ y.p ∨ (x.p = y.p ∧ x.pm ≠ y.pm) ∨ (x.p = y.p ∧ x.pm = y.pm ∧ x.b ≠ y.b) ∨ (x.p = y.p ∧ x.pm = y.pm ∧ x.b = y.b) by by_cases e1 : x.p = y.p <;> by_cases e2 : x.pm = y.pm <;> by_cases e3 : x.b = y.b <;> simp [e1, e2, e3]) with q | ⟨q1, q⟩ | ⟨q1, q2, q⟩ | ⟨q1, q2, q3⟩
      · skip
        refine CG.draw (.look 0 1 (.look 1 1 (.look 2 1 (.look 3 1 (.look 4 1 (.look 5 1 (.look 6 1 (.look 7 1 (.look 8 1 (.look 9 1 (.look 10 1 (.look 11 1 (.look 12 1 (.look 13 1 (.look 14 1 (.look 15 1 (.look 16 1 (.look 17 1 (.look 18 1 (.look 19 1 (.look 20 1 (.look 21 1 (.look 22 1 (.look 23 1 (.look 24 1 (.look 25 1 (.look 26 1 (.look 27 1 (.look 28 1 (.look 29 1 (.look 30 1 (.look 31 1 (.look 32 1 (.look 33 1 (.look 34 1 (.look 35 1 (.look 36 1 (.look 37 1 (.look 38 1 (.done)))))))))))))))))))))))))))))))))))))))) [] [] ([]) ([]) mixed (by kernel_rfl) (Imp.none _) (Imp.none _) ?_
        refine DG.look rfl rfl (Yield.move rfl) rfl ?_
        refine DG.look rfl rfl (Yield.move rfl) rfl ?_
        refine DG.look rfl rfl (Yield.index_slice Try.underlying86 ti89 rfl rfl (by omega) (by omega)) rfl ?_
        refine DG.look rfl rfl (Yield.fieldAddr fa89_0 rfl) rfl ?_
        refine DG.look rfl rfl (Yield.load (v := .int .i64 x.p) ti3 rfl (by rw [show o1 + (i : Int).toNat * 3 = o1 + i * 3 by omega]; exact r1 0 _ rfl)) rfl ?_
        refine DG.look rfl rfl (Yield.move rfl) rfl ?_
        refine DG.look rfl rfl (Yield.move rfl) rfl ?_
        refine DG.look rfl rfl (Yield.index_slice Try.underlying86 ti89 rfl rfl (by omega) (by omega)) rfl ?_
        refine DG.look rfl rfl (Yield.fieldAddr fa89_0 rfl) rfl ?_
        refine DG.look rfl rfl (Yield.load (v := .int .i64 y.p) ti3 rfl (by rw [show o2 + (i : Int).toNat * 3 = o2 + i * 3 by omega]; exact r2 0 _ rfl)) rfl ?_
        refine DG.look rfl rfl (by first | exact Yield.as (Yield.neq rfl rfl) (bT (by omega)) | exact Yield.as (Yield.neq rfl rfl) (bF (by omega)) | exact Yield.neq rfl rfl) rfl ?_
        refine DG.look rfl rfl (Yield.move rfl) rfl ?_
        refine DG.pass rfl rfl rfl ?_
        refine DG.pass rfl rfl rfl ?_
        refine DG.pass rfl rfl rfl ?_
        refine DG.pass rfl rfl rfl ?_
        refine DG.pass rfl rfl rfl ?_
        refine DG.pass rfl rfl rfl ?_
        refine DG.pass rfl rfl rfl ?_
        refine DG.pass rfl rfl rfl ?_
        refine DG.pass rfl rfl rfl ?_
        refine DG.pass rfl rfl rfl ?_
        refine DG.pass rfl rfl rfl ?_
        refine DG.look rfl rfl (by first | exact Yield.pick_t rfl rfl | exact Yield.pick_f rfl rfl | exact Yield.pick rfl (fun _ => rfl) (fun _ => rfl)) rfl ?_
        refine DG.look rfl rfl (Yield.move rfl) rfl ?_
        refine DG.pass rfl rfl rfl ?_
        refine DG.pass rfl rfl rfl ?_
        refine DG.pass rfl rfl rfl ?_
        refine DG.pass rfl rfl rfl ?_
        refine DG.pass rfl rfl rfl ?_
        refine DG.pass rfl rfl rfl ?_
        refine DG.pass rfl rfl rfl ?_
        refine DG.pass rfl rfl rfl ?_
        refine DG.pass rfl rfl rfl ?_
        refine DG.pass rfl rfl rfl ?_
        refine DG.pass rfl rfl rfl ?_
        refine DG.pass rfl rfl rfl ?_
        refine DG.pass rfl rfl rfl ?_
        refine DG.look rfl rfl (by first | exact Yield.pick_t rfl rfl | exact Yield.pick_f rfl rfl | exact Yield.pick rfl (fun _ => rfl) (fun _ => rfl)) rfl ?_
        refine DG.done ?_
        refine QG.then ?_
        refine CG.cond_t rfl ?_
        refine CG.seq ?_
        refine CG.region ?_
        refine OG.yield (Yield.assign rfl) rfl ?_
        refine OG.nil ?_
        refine QG.then ?_
        refine CG.ret ?_
        refine QG.block_ret ?_
        refine QG.pass_ret ?_
        refine QG.pass_ret ?_
        refine QG.block_ret ?_
        refine QG.pass_ret ?_
        exact QG.ret1 rfl rfl () trivial (by rw [decide_eq_false (hno (fun e => q (congrArg (·.1) e)))]) (Imp.refl _)
      · skip
        refine CG.draw (.look 0 1 (.look 1 1 (.look 2 1 (.look 3 1 (.look 4 1 (.look 5 1 (.look 6 1 (.look 7 1 (.look 8 1 (.look 9 1 (.look 10 1 (.look 11 1 (.look 12 1 (.look 13 1 (.look 14 1 (.look 15 1 (.look 16 1 (.look 17 1 (.look 18 1 (.look 19 1 (.look 20 1 (.look 21 1 (.look 22 1 (.look 23 1 (.look 24 1 (.look 25 1 (.look 26 1 (.look 27 1 (.look 28 1 (.look 29 1 (.look 30 1 (.look 31 1 (.look 32 1 (.look 33 1 (.look 34 1 (.look 35 1 (.look 36 1 (.look 37 1 (.look 38 1 (.done)))))))))))))))))))))))))))))))))))))))) [] [] ([]) ([]) mixed (by kernel_rfl) (Imp.none _) (Imp.none _) ?_
        refine DG.look rfl rfl (Yield.move rfl) rfl ?_
        refine DG.look rfl rfl (Yield.move rfl) rfl ?_
        refine DG.look rfl rfl (Yield.index_slice Try.underlying86 ti89 rfl rfl (by omega) (by omega)) rfl ?_
        refine DG.look rfl rfl (Yield.fieldAddr fa89_0 rfl) rfl ?_
        refine DG.look rfl rfl (Yield.load (v := .int .i64 x.p) ti3 rfl (by rw [show o1 + (i : Int).toNat * 3 = o1 + i * 3 by omega]; exact r1 0 _ rfl)) rfl ?_
        refine DG.look rfl rfl (Yield.move rfl) rfl ?_
        refine DG.look rfl rfl (Yield.move rfl) rfl ?_
        refine DG.look rfl rfl (Yield.index_slice Try.underlying86 ti89 rfl rfl (by omega) (by omega)) rfl ?_
        refine DG.look rfl rfl (Yield.fieldAddr fa89_0 rfl) rfl ?_
        refine DG.look rfl rfl (Yield.load (v := .int .i64 y.p) ti3 rfl (by rw [show o2 + (i : Int).toNat * 3 = o2 + i * 3 by omega]; exact r2 0 _ rfl)) rfl ?_
        refine DG.look rfl rfl (by first | exact Yield.as (Yield.neq rfl rfl) (bT (by omega)) | exact Yield.as (Yield.neq rfl rfl) (bF (by omega)) | exact Yield.neq rfl rfl) rfl ?_
        refine DG.look rfl rfl (Yield.move rfl) rfl ?_
        refine DG.look rfl rfl (Yield.move rfl) rfl ?_
        refine DG.look rfl rfl (Yield.move rfl) rfl ?_
        refine DG.look rfl rfl (Yield.index_slice Try.underlying86 ti89 rfl rfl (by omega) (by omega)) rfl ?_
        refine DG.look rfl rfl (Yield.fieldAddr fa89_1 rfl) rfl ?_
        refine DG.look rfl rfl (Yield.load (v := .int .i64 x.pm) ti3 rfl (by rw [show o1 + (i : Int).toNat * 3 = o1 + i * 3 by omega]; exact r1 1 _ rfl)) rfl ?_
        refine DG.look rfl rfl (Yield.move rfl) rfl ?_
        refine DG.look rfl rfl (Yield.move rfl) rfl ?_
        refine DG.look rfl rfl (Yield.index_slice Try.underlying86 ti89 rfl rfl (by omega) (by omega)) rfl ?_
        refine DG.look rfl rfl (Yield.fieldAddr fa89_1 rfl) rfl ?_
        refine DG.look rfl rfl (Yield.load (v := .int .i64 y.pm) ti3 rfl (by rw [show o2 + (i : Int).toNat * 3 = o2 + i * 3 by omega]; exact r2 1 _ rfl)) rfl ?_
        refine DG.look rfl rfl (by first | exact Yield.as (Yield.neq rfl rfl) (bT (by omega)) | exact Yield.as (Yield.neq rfl rfl) (bF (by omega)) | exact Yield.neq rfl rfl) rfl ?_
        refine DG.look rfl rfl (by first | exact Yield.pick_t rfl rfl | exact Yield.pick_f rfl rfl | exact Yield.pick rfl (fun _ => rfl) (fun _ => rfl)) rfl ?_
        refine DG.look rfl rfl (Yield.move rfl) rfl ?_
        refine DG.pass rfl rfl rfl ?_
        refine DG.pass rfl rfl rfl ?_
        refine DG.pass rfl rfl rfl ?_
        refine DG.pass rfl rfl rfl ?_
        refine DG.pass rfl rfl rfl ?_
        refine DG.pass rfl rfl rfl ?_
        refine DG.pass rfl rfl rfl ?_
        refine DG.pass rfl rfl rfl ?_
        refine DG.pass rfl rfl rfl ?_
        refine DG.pass rfl rfl rfl ?_
        refine DG.pass rfl rfl rfl ?_
        refine DG.pass rfl rfl rfl ?_
        refine DG.pass rfl rfl rfl ?_
        refine DG.look rfl rfl (by first | exact Yield.pick_t rfl rfl | exact Yield.pick_f rfl rfl | exact Yield.pick rfl (fun _ => rfl) (fun _ => rfl)) rfl ?_
        refine DG.done ?_
        refine QG.then ?_
        refine CG.cond_t rfl ?_
        refine CG.seq ?_
        refine CG.region ?_
        refine OG.yield (Yield.assign rfl) rfl ?_
        refine OG.nil ?_
        refine QG.then ?_
        refine CG.ret ?_
        refine QG.block_ret ?_
        refine QG.pass_ret ?_
        refine QG.pass_ret ?_
        refine QG.block_ret ?_
        refine QG.pass_ret ?_
        exact QG.ret1 rfl rfl () trivial (by rw [decide_eq_false (hno (fun e => q (congrArg (·.2.1) e)))]) (Imp.refl _)
      · skip
        refine CG.draw (.look 0 1 (.look 1 1 (.look 2 1 (.look 3 1 (.look 4 1 (.look 5 1 (.look 6 1 (.look 7 1 (.look 8 1 (.look 9 1 (.look 10 1 (.look 11 1 (.look 12 1 (.look 13 1 (.look 14 1 (.look 15 1 (.look 16 1 (.look 17 1 (.look 18 1 (.look 19 1 (.look 20 1 (.look 21 1 (.look 22 1 (.look 23 1 (.look 24 1 (.look 25 1 (.look 26 1 (.look 27 1 (.look 28 1 (.look 29 1 (.look 30 1 (.look 31 1 (.look 32 1 (.look 33 1 (.look 34 1 (.look 35 1 (.look 36 1 (.look 37 1 (.look 38 1 (.done)))))))))))))))))))))))))))))))))))))))) [] [] ([]) ([]) mixed (by kernel_rfl) (Imp.none _) (Imp.none _) ?_
        refine DG.look rfl rfl (Yield.move rfl) rfl ?_
        refine DG.look rfl rfl (Yield.move rfl) rfl ?_
        refine DG.look rfl rfl (Yield.index_slice Try.underlying86 ti89 rfl rfl (by omega) (by omega)) rfl ?_
        refine DG.look rfl rfl (Yield.fieldAddr fa89_0 rfl) rfl ?_
        refine DG.look rfl rfl (Yield.load (v := .int .i64 x.p) ti3 rfl (by rw [show o1 + (i : Int).toNat * 3 = o1 + i * 3 by omega]; exact r1 0 _ rfl)) rfl ?_
        refine DG.look rfl rfl (Yield.move rfl) rfl ?_
        refine DG.look rfl rfl (Yield.move rfl) rfl ?_
        refine DG.look rfl rfl (Yield.index_slice Try.underlying86 ti89 rfl rfl (by omega) (by omega)) rfl ?_
        refine DG.look rfl rfl (Yield.fieldAddr fa89_0 rfl) rfl ?_
        refine DG.look rfl rfl (Yield.load (v := .int .i64 y.p) ti3 rfl (by rw [show o2 + (i : Int).toNat * 3 = o2 + i * 3 by omega]; exact r2 0 _ rfl)) rfl ?_
        refine DG.look rfl rfl (by first | exact Yield.as (Yield.neq rfl rfl) (bT (by omega)) | exact Yield.as (Yield.neq rfl rfl) (bF (by omega)) | exact Yield.neq rfl rfl) rfl ?_
        refine DG.look rfl rfl (Yield.move rfl) rfl ?_
        refine DG.look rfl rfl (Yield.move rfl) rfl ?_
        refine DG.look rfl rfl (Yield.move rfl) rfl ?_
        refine DG.look rfl rfl (Yield.index_slice Try.underlying86 ti89 rfl rfl (by omega) (by omega)) rfl ?_
        refine DG.look rfl rfl (Yield.fieldAddr fa89_1 rfl) rfl ?_
        refine DG.look rfl rfl (Yield.load (v := .int .i64 x.pm) ti3 rfl (by rw [show o1 + (i : Int).toNat * 3 = o1 + i * 3 by omega]; exact r1 1 _ rfl)) rfl ?_
        refine DG.look rfl rfl (Yield.move rfl) rfl ?_
        refine DG.look rfl rfl (Yield.move rfl) rfl ?_
        refine DG.look rfl rfl (Yield.index_slice Try.underlying86 ti89 rfl rfl (by omega) (by omega)) rfl ?_
        refine DG.look rfl rfl (Yield.fieldAddr fa89_1 rfl) rfl ?_
        refine DG.look rfl rfl (Yield.load (v := .int .i64 y.pm) ti3 rfl (by rw [show o2 + (i : Int).toNat * 3 = o2 + i * 3 by omega]; exact r2 1 _ rfl)) rfl ?_
        refine DG.look rfl rfl (by first | exact Yield.as (Yield.neq rfl rfl) (bT (by omega)) | exact Yield.as (Yield.neq rfl rfl) (bF (by omega)) | exact Yield.neq rfl rfl) rfl ?_
        refine DG.look rfl rfl (by first | exact Yield.pick_t rfl rfl | exact Yield.pick_f rfl rfl | exact Yield.pick rfl (fun _ => rfl) (fun _ => rfl)) rfl ?_
        refine DG.look rfl rfl (Yield.move rfl) rfl ?_
        refine DG.look rfl rfl (Yield.move rfl) rfl ?_
        refine DG.look rfl rfl (Yield.move rfl) rfl ?_
        refine DG.look rfl rfl (Yield.index_slice Try.underlying86 ti89 rfl rfl (by omega) (by omega)) rfl ?_
        refine DG.look rfl rfl (Yield.fieldAddr fa89_2 rfl) rfl ?_
        refine DG.look rfl rfl (Yield.load (v := .slice x.a x.b.length x.c) ti73 rfl (by rw [show o1 + (i : Int).toNat * 3 = o1 + i * 3 by omega]; exact r1 2 _ rfl)) rfl ?_
        refine DG.look rfl rfl (Yield.toStr (bs := x.b) Try.underlying73 Try.underlying9 Try.underlying5 rfl (h1.bytes x (List.mem_of_getElem? hx))) rfl ?_
        refine DG.look rfl rfl (Yield.move rfl) rfl ?_
        refine DG.look rfl rfl (Yield.move rfl) rfl ?_
        refine DG.look rfl rfl (Yield.index_slice Try.underlying86 ti89 rfl rfl (by omega) (by omega)) rfl ?_
        refine DG.look rfl rfl (Yield.fieldAddr fa89_2 rfl) rfl ?_
        refine DG.look rfl rfl (Yield.load (v := .slice y.a y.b.length y.c) ti73 rfl (by rw [show o2 + (i : Int).toNat * 3 = o2 + i * 3 by omega]; exact r2 2 _ rfl)) rfl ?_
        refine DG.look rfl rfl (Yield.toStr (bs := y.b) Try.underlying73 Try.underlying9 Try.underlying5 rfl (h2.bytes y (List.mem_of_getElem? hy))) rfl ?_
        refine DG.look rfl rfl (Yield.as (Yield.str_neq rfl rfl) (v' := .bool true) (by rw [strOf_toList, strOf_toList]; simp [q])) rfl ?_
        refine DG.look rfl rfl (by first | exact Yield.pick_t rfl rfl | exact Yield.pick_f rfl rfl | exact Yield.pick rfl (fun _ => rfl) (fun _ => rfl)) rfl ?_
        refine DG.done ?_
        refine QG.then ?_
        refine CG.cond_t rfl ?_
        refine CG.seq ?_
        refine CG.region ?_
        refine OG.yield (Yield.assign rfl) rfl ?_
        refine OG.nil ?_
        refine QG.then ?_
        refine CG.ret ?_
        refine QG.block_ret ?_
        refine QG.pass_ret ?_
        refine QG.pass_ret ?_
        refine QG.block_ret ?_
        refine QG.pass_ret ?_
        exact QG.ret1 rfl rfl () trivial (by rw [decide_eq_false (hno (fun e => q (congrArg (·.2.2) e)))]) (Imp.refl _)
      · skip
        refine CG.draw (.look 0 1 (.look 1 1 (.look 2 1 (.look 3 1 (.look 4 1 (.look 5 1 (.look 6 1 (.look 7 1 (.look 8 1 (.look 9 1 (.look 10 1 (.look 11 1 (.look 12 1 (.look 13 1 (.look 14 1 (.look 15 1 (.look 16 1 (.look 17 1 (.look 18 1 (.look 19 1 (.look 20 1 (.look 21 1 (.look 22 1 (.look 23 1 (.look 24 1 (.look 25 1 (.look 26 1 (.look 27 1 (.look 28 1 (.look 29 1 (.look 30 1 (.look 31 1 (.look 32 1 (.look 33 1 (.look 34 1 (.look 35 1 (.look 36 1 (.look 37 1 (.look 38 1 (.done)))))))))))))))))))))))))))))))))))))))) [] [] ([]) ([]) mixed (by kernel_rfl) (Imp.none _) (Imp.none _) ?_
        refine DG.look rfl rfl (Yield.move rfl) rfl ?_
        refine DG.look rfl rfl (Yield.move rfl) rfl ?_
        refine DG.look rfl rfl (Yield.index_slice Try.underlying86 ti89 rfl rfl (by omega) (by omega)) rfl ?_
        refine DG.look rfl rfl (Yield.fieldAddr fa89_0 rfl) rfl ?_
        refine DG.look rfl rfl (Yield.load (v := .int .i64 x.p) ti3 rfl (by rw [show o1 + (i : Int).toNat * 3 = o1 + i * 3 by omega]; exact r1 0 _ rfl)) rfl ?_
        refine DG.look rfl rfl (Yield.move rfl) rfl ?_
        refine DG.look rfl rfl (Yield.move rfl) rfl ?_
        refine DG.look rfl rfl (Yield.index_slice Try.underlying86 ti89 rfl rfl (by omega) (by omega)) rfl ?_
        refine DG.look rfl rfl (Yield.fieldAddr fa89_0 rfl) rfl ?_
        refine DG.look rfl rfl (Yield.load (v := .int .i64 y.p) ti3 rfl (by rw [show o2 + (i : Int).toNat * 3 = o2 + i * 3 by omega]; exact r2 0 _ rfl)) rfl ?_
        refine DG.look rfl rfl (by first | exact Yield.as (Yield.neq rfl rfl) (bT (by omega)) | exact Yield.as (Yield.neq rfl rfl) (bF (by omega)) | exact Yield.neq rfl rfl) rfl ?_
        refine DG.look rfl rfl (Yield.move rfl) rfl ?_
        refine DG.look rfl rfl (Yield.move rfl) rfl ?_
        refine DG.look rfl rfl (Yield.move rfl) rfl ?_
        refine DG.look rfl rfl (Yield.index_slice Try.underlying86 ti89 rfl rfl (by omega) (by omega)) rfl ?_
        refine DG.look rfl rfl (Yield.fieldAddr fa89_1 rfl) rfl ?_
        refine DG.look rfl rfl (Yield.load (v := .int .i64 x.pm) ti3 rfl (by rw [show o1 + (i : Int).toNat * 3 = o1 + i * 3 by omega]; exact r1 1 _ rfl)) rfl ?_
        refine DG.look rfl rfl (Yield.move rfl) rfl ?_
        refine DG.look rfl rfl (Yield.move rfl) rfl ?_
        refine DG.look rfl rfl (Yield.index_slice Try.underlying86 ti89 rfl rfl (by omega) (by omega)) rfl ?_
        refine DG.look rfl rfl (Yield.fieldAddr fa89_1 rfl) rfl ?_
        refine DG.look rfl rfl (Yield.load (v := .int .i64 y.pm) ti3 rfl (by rw [show o2 + (i : Int).toNat * 3 = o2 + i * 3 by omega]; exact r2 1 _ rfl)) rfl ?_
        refine DG.look rfl rfl (by first | exact Yield.as (Yield.neq rfl rfl) (bT (by omega)) | exact Yield.as (Yield.neq rfl rfl) (bF (by omega)) | exact Yield.neq rfl rfl) rfl ?_
        refine DG.look rfl rfl (by first | exact Yield.pick_t rfl rfl | exact Yield.pick_f rfl rfl | exact Yield.pick rfl (fun _ => rfl) (fun _ => rfl)) rfl ?_
        refine DG.look rfl rfl (Yield.move rfl) rfl ?_
        refine DG.look rfl rfl (Yield.move rfl) rfl ?_
        refine DG.look rfl rfl (Yield.move rfl) rfl ?_
        refine DG.look rfl rfl (Yield.index_slice Try.underlying86 ti89 rfl rfl (by omega) (by omega)) rfl ?_
        refine DG.look rfl rfl (Yield.fieldAddr fa89_2 rfl) rfl ?_
        refine DG.look rfl rfl (Yield.load (v := .slice x.a x.b.length x.c) ti73 rfl (by rw [show o1 + (i : Int).toNat * 3 = o1 + i * 3 by omega]; exact r1 2 _ rfl)) rfl ?_
        refine DG.look rfl rfl (Yield.toStr (bs := x.b) Try.underlying73 Try.underlying9 Try.underlying5 rfl (h1.bytes x (List.mem_of_getElem? hx))) rfl ?_
        refine DG.look rfl rfl (Yield.move rfl) rfl ?_
        refine DG.look rfl rfl (Yield.move rfl) rfl ?_
        refine DG.look rfl rfl (Yield.index_slice Try.underlying86 ti89 rfl rfl (by omega) (by omega)) rfl ?_
        refine DG.look rfl rfl (Yield.fieldAddr fa89_2 rfl) rfl ?_
        refine DG.look rfl rfl (Yield.load (v := .slice y.a y.b.length y.c) ti73 rfl (by rw [show o2 + (i : Int).toNat * 3 = o2 + i * 3 by omega]; exact r2 2 _ rfl)) rfl ?_
        refine DG.look rfl rfl (Yield.toStr (bs := y.b) Try.underlying73 Try.underlying9 Try.underlying5 rfl (h2.bytes y (List.mem_of_getElem? hy))) rfl ?_
        refine DG.look rfl rfl (Yield.as (Yield.str_neq rfl rfl) (v' := .bool false) (by rw [strOf_toList, strOf_toList]; simp [q3])) rfl ?_
        refine DG.look rfl rfl (by first | exact Yield.pick_t rfl rfl | exact Yield.pick_f rfl rfl | exact Yield.pick rfl (fun _ => rfl) (fun _ => rfl)) rfl ?_
        refine DG.done ?_
        refine QG.then ?_
        refine CG.cond_f rfl ?_
        refine CG.skip ?_
        refine QG.block_normal ?_
        refine QG.then ?_
        refine CG.region ?_
        refine OG.yield (Yield.move rfl) rfl ?_
        refine OG.yield (Yield.add rfl rfl (w64 (by omega) (by omega))) rfl ?_
        refine OG.yield (Yield.assign rfl) rfl ?_
        refine OG.nil ?_
        exact QG.next (i + 1) ⟨by omega, take_eq hp hxv hyv (by unfold PV.v; rw [q1, q2, q3])⟩ (by first | omega | (simp only; omega)) (by repeat (first | exact Env.sub_nil _ | refine Env.sub_cons rfl ?_)) (Imp.refl _)
    · try replace hc := of_decide_eq_false hc
      refine CG.exit ?_
      refine QG.pass_exit ?_
      refine QG.pass_exit ?_
      refine QG.block_exit ?_
      refine QG.then ?_
      refine CG.seq ?_
      refine CG.region ?_
      refine OG.yield (Yield.assign rfl) rfl ?_
      refine OG.nil ?_
      refine QG.then ?_
      refine CG.ret ?_
      obtain rfl : i = l1.length := by omega
      refine QG.ret1 rfl rfl () trivial ?_ (Imp.refl _)
      rw [decide_eq_true (show l1.map PV.v = l2.map PV.v by rw [List.take_of_length_le (by rw [List.length_map]; omega), List.take_of_length_le (by rw [List.length_map]; omega)] at hp; exact hp)]
theorem slots_zero (m : Nat) (z : Array Value) (h : z.toList = Tl.Slot.zero.cells) : (Builtin.zeroCells z m).toList = ((List.replicate m Tl.Slot.zero).map Tl.Slot.cells).flatten := by
  rw [zeroCells_flat (sz := 5) (by rw [← Array.length_toList, h]; rfl), h, List.map_replicate]
theorem flush_all {t hand hits miss : Nat} {l : List Tl.Slot} (hl : l.length ≤ 64) (hl0 : 0 < l.length) : Ctr Try.prog W0 35 [.pointer (some ⟨t, 0, none⟩)] (Tl.T t l hand hits miss :: Fr) (fun _ : Unit => True) (fun _ => .tuple #[]) (fun _ => Tl.T t (List.replicate l.length Tl.Slot.zero) 0 hits miss :: Fr) := by
  refine Ctr.ex Ext.here Tl.t_open ?_
  rintro ⟨⟨b, o⟩, c⟩ -
  refine Ctr.imp star_open ?_
  dsimp only [Tl.TO]
  refine Ctr.of_body Try.func35 rfl Try.ntmps35 rfl ?_
  refine CG.seq ?_
  refine CG.region ?_
  refine OG.yield (Yield.move rfl) rfl ?_
  refine OG.yield (Yield.nilCheck rfl) rfl ?_
  refine OG.yield (Yield.fieldAddr fa147_0 rfl) rfl ?_
  refine OG.yield (Yield.load ti145 rfl (by first | exact Cel.of_blk (by repeat (first | exact Ext.here | apply Ext.there)) rfl | exact (hrow (by repeat (first | exact Ext.here | apply Ext.there))) _ _ rfl)) rfl ?_
  refine OG.eff (Eff.clear (zs := ((List.replicate l.length Tl.Slot.zero).map Tl.Slot.cells).flatten) rfl rfl Try.underlying145 ti159 hl0 (slots_zero _ _ rfl) (Tl.zeros_len _) (Tl.zeros_ones _) (by repeat (first | exact Foc.here | apply Foc.there))) rfl ?_
  rintro ⟨⟩ -
  refine OG.nil ?_
  refine QG.then ?_
  refine CG.region ?_
  refine OG.yield (Yield.move rfl) rfl ?_
  refine OG.yield (Yield.nilCheck rfl) rfl ?_
  refine OG.yield (Yield.fieldAddr fa147_1 rfl) rfl ?_
  refine OG.eff (Eff.store1 ti3 rfl rfl (by repeat (first | exact Foc.here | apply Foc.there)) rfl (by first | (simp; done) | decide)) rfl ?_
  rintro ⟨⟩ -
  refine OG.nil ?_
  refine QG.end0 rfl () trivial rfl (Imp.trans ?_ (Tl.t_close (l := List.replicate l.length Tl.Slot.zero) ((b, o), c)))
  dsimp only [Tl.TO]
  rw [List.length_replicate]
  exact (by repeat (first | exact Imp.refl _ | exact Imp.none _ | apply Imp.pull (by repeat (first | exact Ext.here | apply Ext.there)) | apply Imp.trans Imp.drop))
variable {n : Nat} {qs : List Int} {rt : Nat → Option Nat} {o : Ob} {c : Nat} {σ : St} {m f t : Nat}
theorem flush_lk (L : Lk n qs rt o c σ) : Ctr Try.prog W0 35 [.pointer (some ⟨t, 0, none⟩)] (WG m f t n qs σ Fr) (fun σ' : St => Lk n qs rt o c σ') (fun _ => .tuple #[]) (fun σ' => WG m f t n qs σ' Fr) := by
  obtain ⟨A, rfl, h0, G, rfl, hcc⟩ := L
  have hlen := G.tlb.hh
  refine Ctr.imp (Imp.trans (B := Tl.T t σ.l σ.hand σ.hits σ.miss :: M m n σ.bs :: Fz.F f σ.own qs :: Fr) (by repeat (first | exact Imp.refl _ | exact Imp.none _ | apply Imp.pull (by repeat (first | exact Ext.here | apply Ext.there)) | apply Imp.trans Imp.drop)) (Imp.refl _)) ?_
  refine Ctr.re (flush_all W0 _ G.tlb.ll (by omega)) (fun _ => { σ with l := List.replicate σ.l.length Tl.Slot.zero, hand := 0 }) (fun _ _ => Lk.intro (A := A) ⟨G.rep, G.own, G.inv, G.ol, G.pm, ⟨?_, ?_, ?_, ?_⟩⟩ rfl h0 rfl hcc) (fun _ _ => rfl) (fun _ _ => (by repeat (first | exact Imp.refl _ | exact Imp.none _ | apply Imp.pull (by repeat (first | exact Ext.here | apply Ext.there)) | apply Imp.trans Imp.drop)))
  · intro i j s s' a b u _ _ _
    rw [(List.mem_replicate.1 (List.mem_of_getElem? a)).2] at u; cases u
  · intro s hs hu
    rw [(List.mem_replicate.1 hs).2] at hu; cases hu
  · rw [List.length_replicate]; exact G.tlb.ll
  · rw [List.length_replicate]; simp only; omega
end
end Go.Proofs.Ytmlfcfbblfcpdaa.Sp
