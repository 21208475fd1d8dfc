/- A logic of steps over the model's code: what the slots hold (as far as it is known) and what the memory bears, instead of the frame and the world themselves. No program in sight. -/
import Derived.Test.YtmlfcfbblfcpdaaSep
import Derived.OrdersIn
import Derived.RangeFuncCalls
namespace Go.Sl
open Go Go.RowKit
set_option linter.unusedVariables false

/-- What stays of the world in which all began. -/
structure Tr (W0 w : World) : Prop where
  os : w.os = W0.os
  tape : w.tape = W0.tape
  output : w.output = W0.output
  size : W0.heap.size ≤ w.heap.size
theorem Tr.refl (w : World) : Tr w w := ⟨rfl, rfl, rfl, Nat.le_refl _⟩

/-- The world w bears the assertions G. -/
def Sat (W0 : World) (G : List HProp) (w : World) : Prop := Tr W0 w ∧ Sep G (heapOf w)

theorem Sat.imp {W0 w : World} {G G' : List HProp} (s : Sat W0 G w) (h : Imp G G') : Sat W0 G' w := ⟨s.1, h _ s.2⟩

abbrev Env := List (Nat × Value)
def Env.get : Env → Nat → Option Value
  | [], _ => none
  | (d, v) :: e, t => bif Nat.beq t d then some v else Env.get e t
/-- The value of an operand, as far as it is known. -/
def Env.ev (e : Env) : Operand → Option Value
  | .tmp t => e.get t
  | .const v => some v
  | .func f => some (.func (.func f) #[] #[])
  | .global g => some (.pointer (some ⟨g, 0, none⟩))
def Agrees (e : Env) (ρ : Operand → Value) : Prop := ∀ x v, e.ev x = some v → ρ x = v

/-- The frame a has n slots, which hold what e says; the deferred calls are ds. -/
structure At (n : Nat) (ds : List Deferred) (e : Env) (a : Act) : Prop where
  size : a.tmps.size = n
  slot : ∀ t v, e.get t = some v → a.tmps.getD t undef = v
  defers : a.defers = ds

theorem At.agrees {n : Nat} {ds : List Deferred} {e : Env} {a : Act} (h : At n ds e a) : Agrees e a.eval := fun x v hx => by
  cases x with
  | tmp t => exact h.slot t v hx
  | const c => exact Option.some.inj hx
  | global g => exact Option.some.inj hx
  | func f => exact Option.some.inj hx

theorem At.put {n : Nat} {ds : List Deferred} {e : Env} {a : Act} (h : At n ds e a) {d : Nat} {v : Value} (hd : d < n) : At n ds ((d, v) :: e) (a.put (some d) v) := by
  refine ⟨by simpa [Act.put] using h.size, fun t u ht => ?_, h.defers⟩
  have hs := h.size
  simp only [Env.get] at ht
  by_cases he : t = d
  · subst he
    simp only [Nat.beq_refl, cond_true, Option.some.injEq] at ht
    subst ht
    simp [Act.put, hs, hd]
  · have hb : Nat.beq t d = false := by
      cases hq : Nat.beq t d with
      | false => rfl
      | true => exact absurd (Nat.eq_of_beq_eq_true hq) he
    rw [hb] at ht
    have := h.slot t u ht
    rw [← this]
    have hne : d ≠ t := fun q => he q.symm
    simp [Act.put, Array.getElem?_setIfInBounds_ne hne]

theorem At.put_none {n : Nat} {ds : List Deferred} {e : Env} {a : Act} (h : At n ds e a) {v : Value} : At n ds e (a.put none v) := h

/-- All that e' knows, e knows. -/
def Env.sub (e' e : Env) : Prop := ∀ t v, e'.get t = some v → e.get t = some v
theorem At.sub {n : Nat} {ds : List Deferred} {e e' : Env} {a : Act} (h : At n ds e a) (hs : e'.sub e) : At n ds e' a := ⟨h.size, fun t v q => h.slot t v (hs t v q), h.defers⟩
theorem Env.sub_nil (e : Env) : Env.sub [] e := fun _ _ h => by cases h
theorem Env.sub_cons {e' e : Env} {d : Nat} {v : Value} (h1 : e.get d = some v) (h : e'.sub e) : Env.sub ((d, v) :: e') e := fun t u q => by
  simp only [Env.get] at q
  cases hb : Nat.beq t d with
  | false => rw [hb] at q; exact h t u q
  | true =>
    rw [hb] at q
    have := Nat.eq_of_beq_eq_true hb
    subst this
    simp only [cond_true, Option.some.injEq] at q
    subst q; exact h1
theorem Env.sub_refl (e : Env) : Env.sub e e := fun _ _ h => h

/-- The fence of a round's body (r: the round), and of what lies outside of any. -/
def Fz (r : Option Nat) : Fence := { Fence.wide with round := r }
/-- An operation that defers nothing (in a round a defer is another thing). -/
def ndOp (o : Oper) : Bool := match o.op with
  | .defer _ => false
  | _ => true
def ndB : Option Nat → List Oper → Bool
  | none, _ => true
  | some _, l => l.all ndOp
/-- An operation in a region: as everywhere, or a call of a round. -/
def opW (P : Program) (o : Oper) (a : Act) (w : World) (K : Act → World → Prop) (Q : Exit → Act → World → Prop) : Prop :=
  o.wp P a w K Q ∨ ∃ l fn tmps assign body w', (execOp a.eval o).run P w = .ok (.round l fn tmps assign body) w' ∧ RoundIn (Fz none) 0 P l fn tmps assign body w' fun e w'' => ∃ v, e = .returned v ∧ K (a.put o.dst v) w''
/-- The operations of a region, one behind the other. -/
def wpL (P : Program) (ops : Array Oper) (Q : Exit → Act → World → Prop) : List Oper → Act → World → Prop
  | [], a, w => Q .normal a w
  | o :: rest, a, w => if Region.wanted o (yielded ops a.tmps) then opW P o a w (wpL P ops Q rest) Q else wpL P ops Q rest (a.put o.dst undef) w
theorem callsFz {r : Option Nat} {m : Nat} {P : Program} {f : FuncId} {args : Array Value} {w : World} {R : Ending → World → Prop} (h : Calls P f args w R) : CallsIn (Fz r) m P f args w R :=
  (callsIn_wide (n := m)).2 h
theorem rowsFz {r : Option Nat} {m : Nat} {P : Program} {row : String} {args : Array Value} {w : World} {R : Value → World → Prop} (h : Rows P row args w R) : RowsIn (Fz r) m P row args w R := fun c cs _ => by
  obtain ⟨v, w', hr, hs⟩ := h c cs
  exact ⟨v, w', hr, stepsIn_wide.2 hs⟩
theorem upon_in {r : Option Nat} {m : Nat} {P : Program} {o : Oper} {a : Act} {next : Act → World → Prop} {Q : Exit → Act → World → Prop} : ∀ {x : Result Next}, o.upon P a next Q x → o.uponIn (Fz r) m P a next Q x
  | .ok (.value v) w', h => h
  | .ok .skip w', h => h
  | .ok (.defer d) w', h => h
  | .ok (.enter f args) w', h => ⟨(fun q => by cases q), callsFz h⟩
  | .ok (.row row args) w', h => ⟨(fun q => by cases q), rowsFz h⟩
  | .ok (.round ..) w', h => h.elim
  | .halt (.panic v) w', h => h
theorem wp_in {r : Option Nat} {m : Nat} {P : Program} {o : Oper} {a : Act} {w : World} {K : Act → World → Prop} {Q : Exit → Act → World → Prop} (hn : r = none ∨ ndOp o = true) (h : o.wp P a w K Q) : o.wpIn (Fz r) m P a w K Q := by
  refine ⟨fun _ _ => trivial, ?_⟩
  have e : o.semAt (Fz r).round a.eval = execOp a.eval o := by
    rcases hn with rfl | hn
    · rfl
    · exact Oper.semAt_eq _ _ _ fun c hc => by unfold ndOp at hn; rw [hc] at hn; cases hn
  rw [e]
  exact upon_in h
theorem wpIn_put_mono {r : Option Nat} {m : Nat} {P : Program} {o : Oper} {a : Act} {w : World} {K K' : Act → World → Prop} {Q : Exit → Act → World → Prop} (h : o.wp P a w K Q) (hk : ∀ a w, K a w → K' a w) (hn : r = none ∨ ndOp o = true) : o.wpIn (Fz r) m P a w K' Q :=
  Oper.wpIn_mono hk (wp_in hn h)
theorem opW_in {r : Option Nat} {m : Nat} {P : Program} {o : Oper} {a : Act} {w : World} {K K' : Act → World → Prop} {Q : Exit → Act → World → Prop} (h : opW P o a w K Q) (hk : ∀ a w, K a w → K' a w) (hn : r = none ∨ ndOp o = true) : o.wpIn (Fz r) m P a w K' Q := by
  rcases h with h | ⟨l, fn, tmps, assign, body, w', hr, hR⟩
  · exact wpIn_put_mono h hk hn
  · refine ⟨fun _ _ => trivial, ?_⟩
    have e : o.semAt (Fz r).round a.eval = execOp a.eval o := by
      rcases hn with rfl | hn
      · rfl
      · exact Oper.semAt_eq _ _ _ fun c hc => by unfold ndOp at hn; rw [hc] at hn; cases hn
    rw [e, hr, Oper.uponIn_round]
    refine ⟨(fun q => by cases q), ?_⟩
    have h1 : RoundIn (Fz r) (m - 1) P l fn tmps assign body w' fun e w'' => ∃ v, e = .returned v ∧ K (a.put o.dst v) w'' := ⟨trivial, fun c cs _ => hR.2 c cs (fun d hd => by cases hd)⟩
    refine h1.mono ?_
    rintro e w'' ⟨v, rfl, hK⟩
    exact hk _ _ hK
theorem nd_of {r : Option Nat} {l : List Oper} (h : ndB r l = true) : ∀ o ∈ l, r = none ∨ ndOp o = true := fun o ho => by
  cases r with
  | none => exact .inl rfl
  | some _ => exact .inr (List.all_eq_true.1 h o ho)
theorem wpL_in {r : Option Nat} {P : Program} {ops : Array Oper} {Q : Exit → Act → World → Prop} : ∀ (l : List Oper) (k : Nat), (∀ j, j < l.length → l[j]? = ops[k + j]?) → (∀ o ∈ l, r = none ∨ ndOp o = true) → ∀ a w, wpL P ops Q l a w → wpOpsIn (Fz r) 0 P ops Q (List.range' k l.length) a w
  | [], k, _, _, a, w, h => h
  | o :: l, k, hj, hn, a, w, h => by
    have ho : ops[k]? = some o := by have := hj 0 (Nat.succ_pos _); simpa using this.symm
    have ih := wpL_in (r := r) (P := P) (ops := ops) (Q := Q) l (k + 1) (fun j hlt => by have := hj (j + 1) (Nat.succ_lt_succ hlt); rw [List.getElem?_cons_succ] at this; rw [this]; congr 1; omega) (fun o ho => hn o (List.mem_cons_of_mem _ ho))
    rw [List.length_cons, List.range'_succ]
    unfold wpOpsIn
    rw [ho]
    unfold wpL at h
    dsimp only
    split at h
    · rename_i hw
      rw [if_pos hw]
      exact opW_in h ih (hn o List.mem_cons_self)
    · rename_i hw
      rw [if_neg hw]
      exact ⟨fun _ _ => trivial, ih _ _ h⟩
section
variable (r : Option Nat) (P : Program) (W0 : World) (n : Nat) (ds : List Deferred)

/-- From what is known (e, G) the code c comes to Q. -/
def CG (c : Code) (Q : Exit → Act → World → Prop) (e : Env) (G : List HProp) : Prop := ∀ a w, At n ds e a → Sat W0 G w → c.wpIn (Fz r) 0 P Q a w
/-- .. the operations l of a region whose operations are 'ops'. -/
def OG (ops : Array Oper) (Q : Exit → Act → World → Prop) (l : List Oper) (e : Env) (G : List HProp) : Prop := ∀ a w, At n ds e a → Sat W0 G w → wpL P ops Q l a w
/-- What is known is enough for Q at the exit x. -/
def QG (Q : Exit → Act → World → Prop) (x : Exit) (e : Env) (G : List HProp) : Prop := ∀ a w, At n ds e a → Sat W0 G w → Q x a w

/-- An operation that leaves the world alone and yields v. -/
def Yield (op : Op) (ty : TypeId) (e : Env) (G : List HProp) (v : Value) : Prop :=
  ∀ ρ, Agrees e ρ → ∀ w, Sat W0 G w → ∀ dst pos after guard, (execOp ρ ⟨dst, op, ty, pos, after, guard⟩).run P w = .ok (.value v) w
/-- An operation that changes what the memory bears. -/
def Eff (op : Op) (ty : TypeId) (e : Env) (G : List HProp) {α : Type} (φ : α → Prop) (v : α → Value) (G' : α → List HProp) : Prop :=
  ∀ ρ, Agrees e ρ → ∀ w, Sat W0 G w → ∀ dst pos after guard, ∃ x w', φ x ∧ Sat W0 (G' x) w' ∧
    ((execOp ρ ⟨dst, op, ty, pos, after, guard⟩).run P w = .ok (.value (v x)) w' ∨ ((execOp ρ ⟨dst, op, ty, pos, after, guard⟩).run P w = .ok .skip w' ∧ v x = undef))
/-- A contract: called in whatever world bears G it returns a value v x, and the world then bears G' x, for an x that meets φ. -/
def Ctr (f : FuncId) (args : List Value) (G : List HProp) {α : Type} (φ : α → Prop) (v : α → Value) (G' : α → List HProp) : Prop :=
  ∀ w, Sat W0 G w → Calls P f args.toArray w fun r w' => ∃ x, φ x ∧ r = .returned (v x) ∧ Sat W0 (G' x) w'
end

section
variable {r : Option Nat} {P : Program} {W0 : World} {n : Nat} {ds : List Deferred} {ops : Array Oper} {Q : Exit → Act → World → Prop} {rest : List Oper} {e : Env} {G : List HProp}

theorem OG.yield {d : Nat} {op : Op} {ty : TypeId} {pos : String} {af : Array Edge} {v : Value} (hy : Yield P W0 op ty e G v) (hd : Nat.ble (d + 1) n = true)
    (k : OG P W0 n ds ops Q rest ((d, v) :: e) G) : OG P W0 n ds ops Q (⟨some d, op, ty, pos, af, none⟩ :: rest) e G := fun a w ha hw => by
  unfold wpL
  rw [if_pos (by simp [Region.wanted])]
  refine Or.inl ?_
  unfold Oper.wp
  rw [hy a.eval ha.agrees w hw, Oper.upon_value]
  exact k _ _ (ha.put (Nat.le_of_ble_eq_true hd)) hw

theorem OG.eff {dst : Option Nat} {op : Op} {ty : TypeId} {pos : String} {af : Array Edge} {α : Type} {φ : α → Prop} {v : α → Value} {G' : α → List HProp} (hy : Eff P W0 op ty e G φ v G')
    (hd : dst = none)
    (k : ∀ x, φ x → OG P W0 n ds ops Q rest e (G' x)) : OG P W0 n ds ops Q (⟨dst, op, ty, pos, af, none⟩ :: rest) e G := fun a w ha hw => by
  subst hd
  unfold wpL
  rw [if_pos (by simp [Region.wanted])]
  refine Or.inl ?_
  unfold Oper.wp
  obtain ⟨x, w', hx, hs, hr | ⟨hr, _⟩⟩ := hy a.eval ha.agrees w hw none pos af none
  · rw [hr, Oper.upon_value]; exact k x hx _ _ ha hs
  · rw [hr, Oper.upon_skip]; exact k x hx _ _ ha hs

theorem OG.effd {d : Nat} {op : Op} {ty : TypeId} {pos : String} {af : Array Edge} {α : Type} {φ : α → Prop} {v : α → Value} {G' : α → List HProp} (hy : Eff P W0 op ty e G φ v G')
    (hd : Nat.ble (d + 1) n = true)
    (k : ∀ x, φ x → OG P W0 n ds ops Q rest ((d, v x) :: e) (G' x)) : OG P W0 n ds ops Q (⟨some d, op, ty, pos, af, none⟩ :: rest) e G := fun a w ha hw => by
  unfold wpL
  rw [if_pos (by simp [Region.wanted])]
  refine Or.inl ?_
  unfold Oper.wp
  obtain ⟨x, w', hx, hs, hr | ⟨hr, hu⟩⟩ := hy a.eval ha.agrees w hw (some d) pos af none
  · rw [hr, Oper.upon_value]; exact k x hx _ _ (ha.put (Nat.le_of_ble_eq_true hd)) hs
  · rw [hr, Oper.upon_skip, ← hu]; exact k x hx _ _ (ha.put (Nat.le_of_ble_eq_true hd)) hs

theorem callFunc_run {f : FuncId} {fn : Func} {c : Code} (hf : P.funcs[f]? = some fn) (hb : fn.body = some c) (hn : (fn.name == "runtime.NumGoroutine") = false) (args : Array Value) (w : World) :
    (callFunc f args).run P w = .ok (.enter f args) w := by
  have h2 : ¬ fn.name = "runtime.NumGoroutine" := by simpa using hn
  simp [callFunc, program, Sem.run, bind, Sem.bind, hf, hb, h2, pure]

def Env.evs (e : Env) : List Operand → Option (List Value)
  | [] => some []
  | x :: l => match e.ev x, e.evs l with
    | some v, some vs => some (v :: vs)
    | _, _ => none
theorem Agrees.evs {e : Env} {ρ : Operand → Value} (h : Agrees e ρ) : ∀ {l : List Operand} {vs : List Value}, e.evs l = some vs → l.map ρ = vs
  | [], vs, q => by simpa [Env.evs] using q
  | x :: l, vs, q => by
    simp only [Env.evs] at q
    split at q
    · rename_i v us h1 h2
      simp only [Option.some.injEq] at q
      subst q
      simp [h x v h1, h.evs h2]
    · cases q

/-- A call of a named function, by its contract. -/
theorem run_call {f : FuncId} {fn : Func} {c : Code} (hf : P.funcs[f]? = some fn) (hb : fn.body = some c) (hn : (fn.name == "runtime.NumGoroutine") = false)
    {args : List Operand} {vs : List Value} {ats : Array TypeId} {ty : TypeId} {ρ : Operand → Value} (hρ : Agrees e ρ) (ha : e.evs args = some vs) (w : World) (dst pos after guard) :
    (execOp ρ ⟨dst, .call { callee := .value (.func f), args := args.toArray, argTypes := ats }, ty, pos, after, guard⟩).run P w = .ok (.enter f vs.toArray) w := by
  have h1 : ρ (.func f) = .func (.func f) #[] #[] := hρ _ _ rfl
  have h2 : args.map ρ = vs := hρ.evs ha
  have h3 := callFunc_run hf hb hn vs.toArray w
  simp [execOp, resolve, h1, Deferred.ofValue, bind, Sem.bind, pure, invoke, h2, h3]

theorem OG.call {d : Nat} {ty : TypeId} {pos : String} {af : Array Edge} {f : FuncId} {fn : Func} {c : Code} {args : List Operand} {ats : Array TypeId} {vs : List Value} {G1 : List HProp} {α : Type} {φ : α → Prop} {v : α → Value} {G' : α → List HProp}
    (hs : Ctr P W0 f vs G1 φ v G') (hf : P.funcs[f]? = some fn) (hb : fn.body = some c) (hn : (fn.name == "runtime.NumGoroutine") = false)
    (ha : e.evs args = some vs) (hi : Imp G G1) (hd : Nat.ble (d + 1) n = true)
    (k : ∀ x, φ x → OG P W0 n ds ops Q rest ((d, v x) :: e) (G' x)) :
    OG P W0 n ds ops Q (⟨some d, .call { callee := .value (.func f), args := args.toArray, argTypes := ats }, ty, pos, af, none⟩ :: rest) e G := fun a w hat hw => by
  unfold wpL
  rw [if_pos (by simp [Region.wanted])]
  refine Or.inl ?_
  unfold Oper.wp
  rw [run_call hf hb hn hat.agrees ha w, Oper.upon_enter]
  refine (hs w (hw.imp hi)).mono ?_
  rintro r w' ⟨x, hx, rfl, hs'⟩
  exact k x hx _ _ (hat.put (Nat.le_of_ble_eq_true hd)) hs'

/-- A guard that is known. -/
theorem OG.guard_yes {o : Oper} {j t : Nat} {want : Bool} (hg : o.guard = some (j, want)) (ht : (ops[j]?).bind (·.dst) = some t) (hv : e.get t = some (.bool want)) (hn : t < n)
    (k : OG P W0 n ds ops Q ({ o with guard := none } :: rest) e G) : OG P W0 n ds ops Q (o :: rest) e G := fun a w ha hw => by
  have h1 := k a w ha hw
  unfold wpL at h1 ⊢
  rw [if_pos (by simp [Region.wanted])] at h1
  have hy : yielded ops a.tmps j = some want := by
    unfold yielded
    have h2 := ha.slot t _ hv
    have hs := ha.size
    rw [ht]
    simp only [Option.bind_some]
    have hlt : t < a.tmps.size := by omega
    simp only [Array.getD, hlt, dif_pos] at h2
    rw [Array.getElem?_eq_getElem hlt]
    have : a.tmps[t] = .bool want := h2
    rw [this]
  rw [if_pos (by simp [Region.wanted, hg, hy])]
  exact h1

theorem OG.guard_no {o : Oper} {d j t : Nat} {want b : Bool} (hdst : o.dst = some d) (hg : o.guard = some (j, want)) (ht : (ops[j]?).bind (·.dst) = some t) (hv : e.get t = some (.bool b)) (hb : b = !want) (hn : t < n) (hd : d < n)
    (k : OG P W0 n ds ops Q rest ((d, undef) :: e) G) : OG P W0 n ds ops Q (o :: rest) e G := fun a w ha hw => by
  unfold wpL
  have hy : yielded ops a.tmps j = some b := by
    unfold yielded
    have h2 := ha.slot t _ hv
    have hs := ha.size
    rw [ht]
    simp only [Option.bind_some]
    have hlt : t < a.tmps.size := by omega
    simp only [Array.getD, hlt, dif_pos] at h2
    rw [Array.getElem?_eq_getElem hlt]
    have : a.tmps[t] = .bool b := h2
    rw [this]
  rw [if_neg (by subst hb; simp [Region.wanted, hg, hy]), hdst]
  exact k _ _ (ha.put hd) hw

theorem OG.nil (k : QG W0 n ds Q .normal e G) : OG P W0 n ds ops Q [] e G := fun a w ha hw => k a w ha hw

theorem CG.region {id : Nat} {l : List Oper} (k : OG P W0 n ds l.toArray Q l e G) (hd : ndB r l = true := by rfl) : CG r P W0 n ds (.region id l.toArray false) Q e G := fun a w ha hw => by
  refine wpIn_region ?_
  rw [List.range_eq_range', List.size_toArray]
  exact wpL_in l 0 (fun j _ => by rw [Nat.zero_add, List.getElem?_toArray]) (nd_of hd) a w (k a w ha hw)
theorem CG.seq {x y : Code} (k : CG r P W0 n ds x (Exit.then (y.wpIn (Fz r) 0 P Q) Q) e G) : CG r P W0 n ds (.seq x y) Q e G := fun a w ha hw => wpIn_seq (k a w ha hw)
theorem CG.skip (k : QG W0 n ds Q .normal e G) : CG r P W0 n ds .skip Q e G := fun a w ha hw => wpIn_skip (k a w ha hw)
theorem CG.exit {id : Nat} (k : QG W0 n ds Q (.exit id) e G) : CG r P W0 n ds (.exit id) Q e G := fun a w ha hw => wpIn_exit (k a w ha hw)
theorem CG.ret (k : QG W0 n ds Q .ret e G) : CG r P W0 n ds .ret Q e G := fun a w ha hw => wpIn_ret (k a w ha hw)
theorem CG.block {id : Nat} {c : Code} (k : CG r P W0 n ds c (Exit.inBlock id Q) e G) : CG r P W0 n ds (.block id c) Q e G := fun a w ha hw => wpIn_block (k a w ha hw)
theorem CG.cond {c : Operand} {x y : Code} {b : Bool} (hc : e.ev c = some (.bool b)) (kt : b = true → CG r P W0 n ds x Q e G) (kf : b = false → CG r P W0 n ds y Q e G) : CG r P W0 n ds (.cond c x y) Q e G := fun a w ha hw =>
  wpIn_cond_split (ha.agrees _ _ hc) (fun h => kt h a w ha hw) (fun h => kf h a w ha hw)
theorem CG.cond_t {c : Operand} {x y : Code} (hc : e.ev c = some (.bool true)) (kt : CG r P W0 n ds x Q e G) : CG r P W0 n ds (.cond c x y) Q e G := CG.cond hc (fun _ => kt) (fun h => by cases h)
theorem CG.cond_f {c : Operand} {x y : Code} (hc : e.ev c = some (.bool false)) (kf : CG r P W0 n ds y Q e G) : CG r P W0 n ds (.cond c x y) Q e G := CG.cond hc (fun h => by cases h) (fun _ => kf)

theorem QG.then {y : Code} (k : CG r P W0 n ds y Q e G) : QG W0 n ds (Exit.then (y.wpIn (Fz r) 0 P Q) Q) .normal e G := fun a w ha hw => k a w ha hw
theorem QG.pass {K : Act → World → Prop} {x : Exit} (hx : x ≠ .normal) (k : QG W0 n ds Q x e G) : QG W0 n ds (Exit.then K Q) x e G := fun a w ha hw => by
  cases x <;> first | exact absurd rfl hx | exact k a w ha hw
theorem QG.pass_ret {K : Act → World → Prop} (k : QG W0 n ds Q .ret e G) : QG W0 n ds (Exit.then K Q) .ret e G := fun a w ha hw => k a w ha hw
theorem QG.pass_exit {K : Act → World → Prop} {id : Nat} (k : QG W0 n ds Q (.exit id) e G) : QG W0 n ds (Exit.then K Q) (.exit id) e G := fun a w ha hw => k a w ha hw
theorem QG.block_normal {id : Nat} (k : QG W0 n ds Q .normal e G) : QG W0 n ds (Exit.inBlock id Q) .normal e G := fun a w ha hw => k a w ha hw
theorem QG.block_ret {id : Nat} (k : QG W0 n ds Q .ret e G) : QG W0 n ds (Exit.inBlock id Q) .ret e G := fun a w ha hw => k a w ha hw
theorem QG.block_exit {id : Nat} (k : QG W0 n ds Q .normal e G) : QG W0 n ds (Exit.inBlock id Q) (.exit id) e G := fun a w ha hw => by
  show (if id = id then Q .normal a w else Q (.exit id) a w); rw [if_pos rfl]; exact k a w ha hw
theorem QG.block_out {id id' : Nat} (hne : id' ≠ id) (k : QG W0 n ds Q (.exit id') e G) : QG W0 n ds (Exit.inBlock id Q) (.exit id') e G := fun a w ha hw => by
  show (if id' = id then Q .normal a w else Q (.exit id') a w); rw [if_neg hne]; exact k a w ha hw

/-- Less is kept in mind. -/
theorem CG.forget {c : Code} {e' : Env} (hs : e'.sub e) (k : CG r P W0 n ds c Q e' G) : CG r P W0 n ds c Q e G := fun a w ha hw => k a w (ha.sub hs) hw
theorem CG.imp {c : Code} {G' : List HProp} (hi : Imp G G') (k : CG r P W0 n ds c Q e G') : CG r P W0 n ds c Q e G := fun a w ha hw => k a w ha (hw.imp hi)
theorem OG.imp {l : List Oper} {G' : List HProp} (hi : Imp G G') (k : OG P W0 n ds ops Q l e G') : OG P W0 n ds ops Q l e G := fun a w ha hw => k a w ha (hw.imp hi)
theorem OG.forget {l : List Oper} {e' : Env} (hs : e'.sub e) (k : OG P W0 n ds ops Q l e' G) : OG P W0 n ds ops Q l e G := fun a w ha hw => k a w (ha.sub hs) hw
theorem QG.imp {x : Exit} {G' : List HProp} (hi : Imp G G') (k : QG W0 n ds Q x e G') : QG W0 n ds Q x e G := fun a w ha hw => k a w ha (hw.imp hi)

/-- What holds at the head of a loop: for some i that meets φ the slots hold vals i and the memory bears Γ i. -/
def LoopAt (W0 : World) (n : Nat) (ds : List Deferred) {ι : Type} (φ : ι → Prop) (vals : ι → Env) (Γ : ι → List HProp) (μ : ι → Nat) (m : Nat) (a : Act) (w : World) : Prop :=
  ∃ i, φ i ∧ μ i < m ∧ At n ds (vals i) a ∧ Sat W0 (Γ i) w
theorem CG.loop {c : Code} {ι : Type} (φ : ι → Prop) (vals : ι → Env) (Γ : ι → List HProp) (μ : ι → Nat) (i0 : ι) (h0 : φ i0) (he : (vals i0).sub e) (hg : Imp G (Γ i0))
    (hr : ∀ i, φ i → CG r P W0 n ds c (Exit.then (LoopAt W0 n ds φ vals Γ μ (μ i)) Q) (vals i) (Γ i)) : CG r P W0 n ds (.loop c) Q e G := fun a w ha hw => by
  intro b k cs hro hF hrm
  have key : ∀ m i, μ i = m → ∀ a w, φ i → At n ds (vals i) a → Sat W0 (Γ i) w →
      ∃ x a' w', Q x a' w' ∧ ArrivesIn (Machine.fenced P (Fz r)) P (lone (b.atR a (.code c :: .inLoop c :: k)) cs w) b k cs x a' w' := by
    intro m
    induction m using Nat.strongRecOn with
    | _ m ih =>
      intro i hm a w hφ hat hsat
      obtain ⟨x, a1, w1, hq, harr⟩ := hr i hφ a w hat hsat b (.inLoop c :: k) cs hro hF hrm
      cases x with
      | normal =>
        obtain ⟨j, hj, hlt, hat', hsat'⟩ := hq
        obtain ⟨x2, a2, w2, hq2, harr2⟩ := ih (μ j) (by omega) j rfl a1 w1 hj hat' hsat'
        exact ⟨x2, a2, w2, hq2, .of_steps (StepsIn.trans harr (.one (fenced_calm hF hrm rfl) stepR_inLoop)) harr2⟩
      | exit id => exact ⟨_, a1, w1, hq, .pass (x := .inLoop c) rfl (fun _ _ => .inl (by simp)) harr⟩
      | goto l => exact ⟨_, a1, w1, hq, .pass (x := .inLoop c) rfl (fun _ _ => .inl (by simp)) harr⟩
      | ret => exact ⟨_, a1, w1, hq, .pass (x := .inLoop c) rfl (fun _ _ => .inl (by simp)) harr⟩
      | panic ch => exact ⟨_, a1, w1, hq, .pass (x := .inLoop c) rfl (fun _ _ => .inl (by simp)) harr⟩
      | outgrown => exact ⟨_, a1, w1, hq, .pass (x := .inLoop c) rfl (fun _ _ => .inl (by simp)) harr⟩
  obtain ⟨x, a', w', hq, harr⟩ := key _ i0 rfl a w h0 (ha.sub he) (hw.imp hg)
  exact ⟨x, a', w', hq, .of_steps (.one (fenced_calm hF hrm rfl) stepR_loop) harr⟩

/-- The function f has a body. -/
def CallOK (P : Program) (f : FuncId) : Prop := ∃ fn c, P.funcs[f]? = some fn ∧ fn.body = some c ∧ (fn.name == "runtime.NumGoroutine") = false
theorem OG.callo {d : Nat} {ty : TypeId} {pos : String} {af : Array Edge} {f : FuncId} {args : List Operand} {ats : Array TypeId} {vs : List Value} {G1 : List HProp} {α : Type} {φ : α → Prop} {v : α → Value} {G' : α → List HProp}
    (hc : CallOK P f) (ha : e.evs args = some vs) (hi : Imp G G1) (hs : Ctr P W0 f vs G1 φ v G') (hd : Nat.ble (d + 1) n = true)
    (k : ∀ x, φ x → OG P W0 n ds ops Q rest ((d, v x) :: e) (G' x)) :
    OG P W0 n ds ops Q (⟨some d, .call { callee := .value (.func f), args := args.toArray, argTypes := ats }, ty, pos, af, none⟩ :: rest) e G := by
  obtain ⟨fn, c, h1, h2, h3⟩ := hc
  exact OG.call hs h1 h2 h3 ha hi hd k

/-- What holds at a cut. -/
def Mid (W0 : World) (n : Nat) (ds : List Deferred) {ι : Type} (φ : ι → Prop) (vals : ι → Env) (Γ : ι → List HProp) (a : Act) (w : World) : Prop :=
  ∃ i, φ i ∧ At n ds (vals i) a ∧ Sat W0 (Γ i) w
theorem CG.cut {x y : Code} {ι : Type} (φ : ι → Prop) (vals : ι → Env) (Γ : ι → List HProp) (kx : CG r P W0 n ds x (Exit.then (Mid W0 n ds φ vals Γ) Q) e G) (ky : ∀ i, φ i → CG r P W0 n ds y Q (vals i) (Γ i)) :
    CG r P W0 n ds (.seq x y) Q e G := fun a w ha hw => by
  refine wpIn_seq (wpIn_mono (kx a w ha hw) fun ex a' w' h => ?_)
  cases ex with
  | normal => obtain ⟨i, hi, h1, h2⟩ := h; exact ky i hi a' w' h1 h2
  | _ => exact h
theorem QG.mid {ι : Type} {φ : ι → Prop} {vals : ι → Env} {Γ : ι → List HProp} (i : ι) (hi : φ i) (he : (vals i).sub e) (hg : Imp G (Γ i)) : QG W0 n ds (Exit.then (Mid W0 n ds φ vals Γ) Q) .normal e G := fun a w ha hw => ⟨i, hi, ha.sub he, hw.imp hg⟩
theorem Imp.pull {A : HProp} {G R G' : List HProp} (x : Ext G A R) (h : Imp R G') : Imp G (A :: G') := Imp.trans x.1 (Imp.cons h)
theorem Imp.none (G : List HProp) : Imp G [] := fun _ _ => trivial

theorem w64 {x : Int} (h1 : -9223372036854775808 ≤ x) (h2 : x ≤ 9223372036854775807) : IntKind.i64.wrap x = x := by rw [IntKind.wrap_i64]; omega
theorem tmod_pos {a b : Int} (h1 : 0 ≤ a) (_h2 : 0 < b) : a.tmod b = a % b := Int.tmod_eq_emod_of_nonneg h1
theorem tdiv_pos {a b : Int} (h1 : 0 ≤ a) (_h2 : 0 < b) (h3 : a ≤ 9223372036854775807) : IntKind.i64.wrap (a.tdiv b) = a / b := by
  rw [Int.tdiv_eq_ediv_of_nonneg h1, w64]
  · have := Int.ediv_nonneg h1 (by omega : 0 ≤ b); omega
  · have := Int.ediv_le_self b h1; omega
end
end Go.Sl
