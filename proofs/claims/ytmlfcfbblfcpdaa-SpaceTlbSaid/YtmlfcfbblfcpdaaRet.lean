/- Results that are read out of a cell at the end. No program in sight. -/
import Derived.Test.YtmlfcfbblfcpdaaPool
namespace Go.Sl
open Go Go.RowKit
set_option linter.unusedSimpArgs false
set_option linter.unusedVariables false
section
variable {P : Program} {W0 : World} {n : Nat} {e : Env} {G : List HProp}
theorem run_loadVar {t : TypeId} {a : Addr} {v : Value} {sz by' z} (ht : TI P t sz by' z false) {w : World} (hc : w.cell? a = some v) : (loadVar t a).run P w = .ok v w := by
  unfold loadVar
  show ((isAgg t).bind _).run P w = _
  rw [run_bind_ok (ht.run_agg w)]
  simp [Go.load, Sem.run, hc]
theorem run_loadVar_agg {t : TypeId} {b o : Nat} {vs : List Value} {sz by' z} (ht : TI P t sz by' z true) (hl : vs.length = sz) {w : World} (hc : ∀ j v, vs[j]? = some v → w.cell? ⟨b, o + j, none⟩ = some v) : (loadVar t ⟨b, o, none⟩).run P w = .ok (.agg vs.toArray) w := by
  unfold loadVar
  show ((isAgg t).bind _).run P w = _
  rw [run_bind_ok (ht.run_agg w)]
  simp only [if_true]
  show ((sizeOf t).bind _).run P w = _
  rw [run_bind_ok (ht.run_size w)]
  show ((loadCells _ _).bind _).run P w = _
  rw [run_bind_ok (run_loadCells hl hc)]
  rfl
/-- What a result is. -/
def ResP (P : Program) (W0 : World) (G : List HProp) (e : Env) : ResultVar → Value → Prop
  | .tmp t, v => e.get t = some v
  | .cell t ty, v => ∃ a, e.get t = some (.pointer (some a)) ∧ ∀ w, Sat W0 G w → (loadVar ty a).run P w = .ok v w
theorem ResP.tmp {t : Nat} {v : Value} (h : e.get t = some v) : ResP P W0 G e (.tmp t) v := h
theorem ResP.cell {t ty : Nat} {a : Addr} {v : Value} {sz by' z} (ht : TI P ty sz by' z false) (h : e.get t = some (.pointer (some a))) (hc : Cel W0 G a v) : ResP P W0 G e (.cell t ty) v := ⟨a, h, fun w hw => run_loadVar ht (hc w hw)⟩
theorem ResP.agg {t ty b o : Nat} {vs : List Value} {sz by' z} (ht : TI P ty sz by' z true) (h : e.get t = some (.pointer (some ⟨b, o, none⟩))) (hl : vs.length = sz) (hc : Row W0 G b o vs) : ResP P W0 G e (.cell t ty) (.agg vs.toArray) := ⟨_, h, fun w hw => run_loadVar_agg ht hl (fun j v hj => hc j v hj w hw)⟩
theorem run_res {r : ResultVar} {v : Value} {a : Act} {w : World} (h : ResP P W0 G e r v) (ha : At n [] e a) (hw : Sat W0 G w) : (match r with | .tmp t => (pure (a.tmps.getD t undef) : Sem Value) | .cell x t => (asAddr (a.tmps.getD x undef)).bind fun y => loadVar t y).run P w = .ok v w := by
  cases r with
  | tmp t => have := ha.slot t v h; simp only [this]; rfl
  | cell t ty =>
    obtain ⟨ad, h1, h2⟩ := h
    have := ha.slot t _ h1
    simp only [this]
    rw [run_bind_ok (show (asAddr (.pointer (some ad))).run P w = .ok ad w from rfl)]
    exact h2 w hw
theorem run_mapM {α β : Type} {f : α → Sem β} {w : World} : ∀ (xs : List α) (vs : List β) (acc : List β), xs.length = vs.length → (∀ (i : Nat) (x : α) (v : β), xs[i]? = some x → vs[i]? = some v → (f x).run P w = .ok v w) → (List.mapM.loop f xs acc).run P w = .ok (acc.reverse ++ vs) w
  | [], [], acc, _, _ => by simp [List.mapM.loop, pure, Sem.run]
  | [], _ :: _, acc, hl, _ => by simp at hl
  | _ :: _, [], acc, hl, _ => by simp at hl
  | x :: xs, v :: vs, acc, hl, h => by
    show ((f x).bind fun y => List.mapM.loop f xs (y :: acc)).run P w = _
    rw [run_bind_ok (h 0 x v rfl rfl), run_mapM xs vs (v :: acc) (by simpa using hl) (fun i a b ha hb => h (i + 1) a b (by simpa using ha) (by simpa using hb))]
    simp
/-- The results, one by one. -/
def ResL (P : Program) (W0 : World) (G : List HProp) (e : Env) : List ResultVar → List Value → Prop
  | [], [] => True
  | r :: rs, v :: vs => ResP P W0 G e r v ∧ ResL P W0 G e rs vs
  | _, _ => False
theorem ResL.get : ∀ {rs : List ResultVar} {vs : List Value}, ResL P W0 G e rs vs → rs.length = vs.length ∧ ∀ (i : Nat) (r : ResultVar) (v : Value), rs[i]? = some r → vs[i]? = some v → ResP P W0 G e r v
  | [], [], _ => ⟨rfl, fun i r v h _ => by simp at h⟩
  | r :: rs, v :: vs, h => by
    obtain ⟨h1, h2⟩ := ResL.get h.2
    refine ⟨by simp [h1], fun i r' v' hr hv => ?_⟩
    cases i with
    | zero => simp only [List.getElem?_cons_zero, Option.some.injEq] at hr hv; subst hr hv; exact h.1
    | succ i => exact h2 i r' v' (by simpa using hr) (by simpa using hv)
def valsV : List Value → Value
  | [v] => v
  | vs => .tuple vs.toArray
theorem run_results {fn : Func} {rs : List ResultVar} {vs : List Value} (hr : fn.results = rs.toArray) (h : ResL P W0 G e rs vs) {a : Act} {w : World} (ha : At n [] e a) (hw : Sat W0 G w) : (results fn a.tmps).run P w = .ok (valsV vs) w := by
  obtain ⟨hl, hg⟩ := h.get
  unfold results
  rw [hr, List.mapM_toArray]
  have h1 := run_mapM (P := P) (w := w) (f := fun r : ResultVar => (match r with | .tmp t => (pure (a.tmps.getD t undef) : Sem Value) | .cell x t => (asAddr (a.tmps.getD x undef)).bind fun y => loadVar t y)) rs vs [] hl (fun i r v q1 q2 => run_res (hg i r v q1 q2) ha hw)
  simp only [List.reverse_nil, List.nil_append] at h1
  have h2 : (List.toArray <$> List.mapM (fun r : ResultVar => (match r with | .tmp t => (pure (a.tmps.getD t undef) : Sem Value) | .cell x t => (asAddr (a.tmps.getD x undef)).bind fun y => loadVar t y)) rs).run P w = .ok vs.toArray w := by
    exact (run_bind_ok (f := fun x => Sem.pure x.toArray) h1).trans rfl
  refine (run_bind_ok h2).trans ?_
  cases vs with
  | nil => rfl
  | cons v vs => cases vs with
    | nil => rfl
    | cons u vs => simp [valsV, pure, Sem.run]
theorem QG.rets {fn : Func} {rs : List ResultVar} (us : List Value) {α : Type} {φ : α → Prop} {v : α → Value} {G' : α → List HProp} (hr : fn.results = rs.toArray) (h : ResL P W0 G e rs us) (x : α) (hx : φ x) (hv : v x = valsV us) (hi : Imp G (G' x)) : QG W0 n [] (bodyPost P fn (RetP W0 φ v G')) .ret e G := fun a w ha hw =>
  ⟨ha.defers, _, run_results hr h ha hw, x, hx, by rw [hv], hw.imp hi⟩
end
end Go.Sl
