/- Rules for steps of the model, and what functions of the program do. -/
import Derived.WalkKit
import Derived.OrdersIn
import Derived.RangeFuncCalls
import Derived.Laws.BitsLemmas
import Derived.Orders
set_option linter.unusedVariables false
set_option linter.unusedSimpArgs false
set_option linter.unusedSectionVars false
set_option maxRecDepth 100000
namespace Go.Sl
open Go Go.RowKit
abbrev Heaplet := Nat → Option Obj
abbrev HProp := Heaplet → Prop
def hle (a b : Heaplet) : Prop := ∀ k o, a k = some o → b k = some o
def minus (a b : Heaplet) : Heaplet := fun k => if (b k).isSome then none else a k
theorem hle_refl (a : Heaplet) : hle a a := fun _ _ h => h
theorem hle_trans {a b c : Heaplet} (h : hle a b) (k : hle b c) : hle a c := fun x o e => k x o (h x o e)
theorem minus_some {a b : Heaplet} {k : Nat} {o : Obj} : minus a b k = some o ↔ b k = none ∧ a k = some o := by
 unfold minus
 cases h : b k <;> simp
theorem minus_le (a b : Heaplet) : hle (minus a b) a := fun _ _ h => (minus_some.1 h).2
theorem minus_mono {a b f : Heaplet} (h : hle a b) : hle (minus a f) (minus b f) := fun k o e =>
 minus_some.2 ⟨(minus_some.1 e).1, h k o (minus_some.1 e).2⟩
def Sep : List HProp → HProp
 | [], _ => True
 | A :: G, h => ∃ f : Heaplet, hle f h ∧ A f ∧ Sep G (minus h f)
theorem Sep.mono : ∀ {G : List HProp} {a b : Heaplet}, Sep G a → hle a b → Sep G b
 | [], _, _, _, _ => trivial
 | _ :: _, _, _, ⟨f, hf, hA, hs⟩, h => ⟨f, hle_trans hf h, hA, Sep.mono hs (minus_mono h)⟩
theorem Sep.swap {A B : HProp} {G : List HProp} {h : Heaplet} (s : Sep (A :: B :: G) h) : Sep (B :: A :: G) h := by
 obtain ⟨f, hf, hA, g, hg, hB, hs⟩ := s
 refine ⟨g, hle_trans hg (minus_le _ _), hB, f, fun k o e => minus_some.2 ⟨?_, hf k o e⟩, hA, hs.mono fun k o e => ?_⟩
 ·cases hgk : g k with
  | none => rfl
  | some x => have := (minus_some.1 (hg k x hgk)).1; rw [e] at this; cases this
 ·obtain ⟨h1, h2⟩ := minus_some.1 e
  obtain ⟨h3, h4⟩ := minus_some.1 h2
  exact minus_some.2 ⟨h3, minus_some.2 ⟨h1, h4⟩⟩
def heapOf (w : World) : Heaplet := fun k => w.heap[k]?
def Imp (G G' : List HProp) : Prop := ∀ h, Sep G h → Sep G' h
theorem Imp.refl (G : List HProp) : Imp G G := fun _ s => s
theorem Imp.trans {A B C : List HProp} (h : Imp A B) (k : Imp B C) : Imp A C := fun x s => k x (h x s)
theorem Imp.cons {A : HProp} {G G' : List HProp} (h : Imp G G') : Imp (A :: G) (A :: G') := fun _ ⟨f, hf, hA, hs⟩ => ⟨f, hf, hA, h _ hs⟩
theorem Imp.head {A B : HProp} {G : List HProp} (h : ∀ x, A x → B x) : Imp (A :: G) (B :: G) := fun _ ⟨f, hf, hA, hs⟩ => ⟨f, hf, h _ hA, hs⟩
theorem Imp.drop {A : HProp} {G : List HProp} : Imp (A :: G) G := fun _ ⟨_, _, _, hs⟩ => hs.mono (minus_le _ _)
def Ext (G : List HProp) (A : HProp) (R : List HProp) : Prop := Imp G (A :: R) ∧ Imp (A :: R) G
theorem Ext.here {A : HProp} {G : List HProp} : Ext (A :: G) A G := ⟨Imp.refl _, Imp.refl _⟩
theorem Ext.there {A B : HProp} {G R : List HProp} (e : Ext G A R) : Ext (B :: G) A (B :: R) :=
 ⟨fun _ s => Sep.swap (Imp.cons e.1 _ s), fun _ s => Imp.cons e.2 _ (Sep.swap s)⟩
def Foc (G : List HProp) (A : HProp) (put : HProp → List HProp) : Prop := ∃ R, Ext G A R ∧ ∀ X, Imp (X :: R) (put X)
theorem Foc.here {A : HProp} {G : List HProp} : Foc (A :: G) A (fun X => X :: G) := ⟨G, Ext.here, fun _ => Imp.refl _⟩
theorem Foc.there {A B : HProp} {G : List HProp} {put : HProp → List HProp} (f : Foc G A put) : Foc (B :: G) A (fun X => B :: put X) := by
 obtain ⟨R, e, hp⟩ := f
 exact ⟨B :: R, e.there, fun X h s => Imp.cons (hp X) _ (Sep.swap s)⟩
theorem Sep.sub {A : HProp} {G R : List HProp} {h : Heaplet} (e : Ext G A R) (s : Sep G h) : ∃ f, hle f h ∧ A f :=
 let ⟨f, hf, hA, _⟩ := e.1 _ s; ⟨f, hf, hA⟩
def Star (D : List HProp) : HProp := Sep D
theorem Sep.append : ∀ {D G : List HProp} {h f : Heaplet}, Sep D f → hle f h → Sep G (minus h f) → Sep (D ++ G) h
 | [], _, _, _, _, _, hs => hs.mono (minus_le _ _)
 | A :: D, G, h, f, ⟨g, hg, hA, hD⟩, hf, hs => by
  refine ⟨g, hle_trans hg hf, hA, Sep.append hD (minus_mono hf) (hs.mono fun k o e => ?_)⟩
  obtain ⟨h1, h2⟩ := minus_some.1 e
  have h3 : g k = none := by
   cases hgk : g k with
   | none => rfl
   | some x => rw [hg k x hgk] at h1; cases h1
  refine minus_some.2 ⟨?_, minus_some.2 ⟨h3, h2⟩⟩
  unfold minus; rw [h3]; simpa using h1
theorem Sep.split : ∀ {D G : List HProp} {h : Heaplet}, Sep (D ++ G) h → ∃ f, hle f h ∧ Sep D f ∧ Sep G (minus h f)
 | [], G, h, s => ⟨fun _ => none, fun _ _ e => by simp at e, trivial, s.mono fun k o e => minus_some.2 ⟨rfl, e⟩⟩
 | A :: D, G, h, ⟨g, hg, hA, s⟩ => by
  obtain ⟨f, hf, hD, hG⟩ := Sep.split s
  refine ⟨fun k => if (g k).isSome then g k else f k, fun k o e => ?_, ⟨g, fun k o e => ?_, hA, hD.mono fun k o e => ?_⟩, hG.mono fun k o e => ?_⟩
  ·dsimp only at e
   split at e
   ·exact hg k o e
   ·exact (minus_some.1 (hf k o e)).2
  ·simp [e]
  ·have h1 := (minus_some.1 (hf k o e)).1
   exact minus_some.2 ⟨h1, by simp [h1, e]⟩
  ·obtain ⟨h1, h2⟩ := minus_some.1 e
   obtain ⟨h3, h4⟩ := minus_some.1 h2
   exact minus_some.2 ⟨by simp [h1, h3], h4⟩
theorem star_open {D G : List HProp} : Imp (Star D :: G) (D ++ G) := fun _ ⟨_, hf, hA, hs⟩ => Sep.append hA hf hs
theorem star_close {D G : List HProp} : Imp (D ++ G) (Star D :: G) := fun _ s => let ⟨f, hf, hD, hG⟩ := Sep.split s; ⟨f, hf, hD, hG⟩
structure Tr (W0 w : World) : Prop where
 os : w.os = W0.os
 tape : w.tape = W0.tape
 output : w.output = W0.output
 size : W0.heap.size ≤ w.heap.size
theorem Tr.refl (w : World) : Tr w w := ⟨rfl, rfl, rfl, Nat.le_refl _⟩
def Sat (W0 : World) (G : List HProp) (w : World) : Prop := Tr W0 w ∧ Sep G (heapOf w)
theorem Sat.imp {W0 w : World} {G G' : List HProp} (s : Sat W0 G w) (h : Imp G G') : Sat W0 G' w := ⟨s.1, h _ s.2⟩
abbrev Env := List (Nat × Value)
def Env.get : Env → Nat → Option Value
 | [], _ => none
 | (d, v) :: e, t => bif Nat.beq t d then some v else Env.get e t
def Env.ev (e : Env) : Operand → Option Value
 | .tmp t => e.get t
 | .const v => some v
 | .func f => some (.func (.func f) #[] #[])
 | .global g => some (.pointer (some ⟨g, 0, none⟩))
def Agrees (e : Env) (ρ : Operand → Value) : Prop := ∀ x v, e.ev x = some v → ρ x = v
structure At (n : Nat) (ds : List Deferred) (e : Env) (a : Act) : Prop where
 size : a.tmps.size = n
 slot : ∀ t v, e.get t = some v → a.tmps.getD t undef = v
 defers : a.defers = ds
theorem At.agrees {n : Nat} {ds : List Deferred} {e : Env} {a : Act} (h : At n ds e a) : Agrees e a.eval := fun x v hx => by
 cases x with
 | tmp t => exact h.slot t v hx
 | const c => exact Option.some.inj hx
 | global g => exact Option.some.inj hx
 | func f => exact Option.some.inj hx
theorem At.put {n : Nat} {ds : List Deferred} {e : Env} {a : Act} (h : At n ds e a) {d : Nat} {v : Value} (hd : d < n) : At n ds ((d, v) :: e) (a.put (some d) v) := by
 refine ⟨by simpa [Act.put] using h.size, fun t u ht => ?_, h.defers⟩
 have hs := h.size
 simp only [Env.get] at ht
 by_cases he : t = d
 ·subst he
  simp only [Nat.beq_refl, cond_true, Option.some.injEq] at ht
  subst ht
  simp [Act.put, hs, hd]
 ·have hb : Nat.beq t d = false := by
   cases hq : Nat.beq t d with
   | false => rfl
   | true => exact absurd (Nat.eq_of_beq_eq_true hq) he
  rw [hb] at ht
  have := h.slot t u ht
  rw [← this]
  have hne : d ≠ t := fun q => he q.symm
  simp [Act.put, Array.getElem?_setIfInBounds_ne hne]
def Env.sub (e' e : Env) : Prop := ∀ t v, e'.get t = some v → e.get t = some v
theorem At.sub {n : Nat} {ds : List Deferred} {e e' : Env} {a : Act} (h : At n ds e a) (hs : e'.sub e) : At n ds e' a := ⟨h.size, fun t v q => h.slot t v (hs t v q), h.defers⟩
theorem Env.sub_nil (e : Env) : Env.sub [] e := fun _ _ h => by cases h
theorem Env.sub_cons {e' e : Env} {d : Nat} {v : Value} (h1 : e.get d = some v) (h : e'.sub e) : Env.sub ((d, v) :: e') e := fun t u q => by
 simp only [Env.get] at q
 cases hb : Nat.beq t d with
 | false => rw [hb] at q; exact h t u q
 | true =>
  rw [hb] at q
  have := Nat.eq_of_beq_eq_true hb
  subst this
  simp only [cond_true, Option.some.injEq] at q
  subst q; exact h1
def Fz (r : Option Nat) : Fence := { Fence.wide with round := r }
def ndOp (o : Oper) : Bool := match o.op with
 | .defer _ => false
 | _ => true
def ndB : Option Nat → List Oper → Bool
 | none, _ => true
 | some _, l => l.all ndOp
def opW (P : Program) (o : Oper) (a : Act) (w : World) (K : Act → World → Prop) (Q : Exit → Act → World → Prop) : Prop :=
 o.wp P a w K Q ∨ ∃ l fn tmps assign body w', (execOp a.eval o).run P w = .ok (.round l fn tmps assign body) w' ∧ RoundIn (Fz none) 0 P l fn tmps assign body w' fun e w'' => ∃ v, e = .returned v ∧ K (a.put o.dst v) w''
def wpL (P : Program) (ops : Array Oper) (Q : Exit → Act → World → Prop) : List Oper → Act → World → Prop
 | [], a, w => Q .normal a w
 | o :: rest, a, w => if Region.wanted o (yielded ops a.tmps) then opW P o a w (wpL P ops Q rest) Q else wpL P ops Q rest (a.put o.dst undef) w
theorem callsFz {r : Option Nat} {m : Nat} {P : Program} {f : FuncId} {args : Array Value} {w : World} {R : Ending → World → Prop} (h : Calls P f args w R) : CallsIn (Fz r) m P f args w R :=
 (callsIn_wide (n := m)).2 h
theorem rowsFz {r : Option Nat} {m : Nat} {P : Program} {row : String} {args : Array Value} {w : World} {R : Value → World → Prop} (h : Rows P row args w R) : RowsIn (Fz r) m P row args w R := fun c cs _ => by
 obtain ⟨v, w', hr, hs⟩ := h c cs
 exact ⟨v, w', hr, stepsIn_wide.2 hs⟩
theorem upon_in {r : Option Nat} {m : Nat} {P : Program} {o : Oper} {a : Act} {next : Act → World → Prop} {Q : Exit → Act → World → Prop} : ∀ {x : Result Next}, o.upon P a next Q x → o.uponIn (Fz r) m P a next Q x
 | .ok (.value v) w', h => h
 | .ok .skip w', h => h
 | .ok (.defer d) w', h => h
 | .ok (.enter f args) w', h => ⟨(fun q => by cases q), callsFz h⟩
 | .ok (.row row args) w', h => ⟨(fun q => by cases q), rowsFz h⟩
 | .ok (.round ..) w', h => h.elim
 | .halt (.panic v) w', h => h
theorem wp_in {r : Option Nat} {m : Nat} {P : Program} {o : Oper} {a : Act} {w : World} {K : Act → World → Prop} {Q : Exit → Act → World → Prop} (hn : r = none ∨ ndOp o = true) (h : o.wp P a w K Q) : o.wpIn (Fz r) m P a w K Q := by
 refine ⟨fun _ _ => trivial, ?_⟩
 have e : o.semAt (Fz r).round a.eval = execOp a.eval o := by
  rcases hn with rfl | hn
  ·rfl
  ·exact Oper.semAt_eq _ _ _ fun c hc => by unfold ndOp at hn; rw [hc] at hn; cases hn
 rw [e]
 exact upon_in h
theorem wpIn_put_mono {r : Option Nat} {m : Nat} {P : Program} {o : Oper} {a : Act} {w : World} {K K' : Act → World → Prop} {Q : Exit → Act → World → Prop} (h : o.wp P a w K Q) (hk : ∀ a w, K a w → K' a w) (hn : r = none ∨ ndOp o = true) : o.wpIn (Fz r) m P a w K' Q :=
 Oper.wpIn_mono hk (wp_in hn h)
theorem opW_in {r : Option Nat} {m : Nat} {P : Program} {o : Oper} {a : Act} {w : World} {K K' : Act → World → Prop} {Q : Exit → Act → World → Prop} (h : opW P o a w K Q) (hk : ∀ a w, K a w → K' a w) (hn : r = none ∨ ndOp o = true) : o.wpIn (Fz r) m P a w K' Q := by
 rcases h with h | ⟨l, fn, tmps, assign, body, w', hr, hR⟩
 ·exact wpIn_put_mono h hk hn
 ·refine ⟨fun _ _ => trivial, ?_⟩
  have e : o.semAt (Fz r).round a.eval = execOp a.eval o := by
   rcases hn with rfl | hn
   ·rfl
   ·exact Oper.semAt_eq _ _ _ fun c hc => by unfold ndOp at hn; rw [hc] at hn; cases hn
  rw [e, hr, Oper.uponIn_round]
  refine ⟨(fun q => by cases q), ?_⟩
  have h1 : RoundIn (Fz r) (m - 1) P l fn tmps assign body w' fun e w'' => ∃ v, e = .returned v ∧ K (a.put o.dst v) w'' := ⟨trivial, fun c cs _ => hR.2 c cs (fun d hd => by cases hd)⟩
  refine h1.mono ?_
  rintro e w'' ⟨v, rfl, hK⟩
  exact hk _ _ hK
theorem nd_of {r : Option Nat} {l : List Oper} (h : ndB r l = true) : ∀ o ∈ l, r = none ∨ ndOp o = true := fun o ho => by
 cases r with
 | none => exact .inl rfl
 | some _ => exact .inr (List.all_eq_true.1 h o ho)
theorem wpL_in {r : Option Nat} {P : Program} {ops : Array Oper} {Q : Exit → Act → World → Prop} : ∀ (l : List Oper) (k : Nat), (∀ j, j < l.length → l[j]? = ops[k + j]?) → (∀ o ∈ l, r = none ∨ ndOp o = true) → ∀ a w, wpL P ops Q l a w → wpOpsIn (Fz r) 0 P ops Q (List.range' k l.length) a w
 | [], k, _, _, a, w, h => h
 | o :: l, k, hj, hn, a, w, h => by
  have ho : ops[k]? = some o := by have := hj 0 (Nat.succ_pos _); simpa using this.symm
  have ih := wpL_in (r := r) (P := P) (ops := ops) (Q := Q) l (k + 1) (fun j hlt => by have := hj (j + 1) (Nat.succ_lt_succ hlt); rw [List.getElem?_cons_succ] at this; rw [this]; congr 1; omega) (fun o ho => hn o (List.mem_cons_of_mem _ ho))
  rw [List.length_cons, List.range'_succ]
  unfold wpOpsIn
  rw [ho]
  unfold wpL at h
  dsimp only
  split at h
  ·rename_i hw
   rw [if_pos hw]
   exact opW_in h ih (hn o List.mem_cons_self)
  ·rename_i hw
   rw [if_neg hw]
   exact ⟨fun _ _ => trivial, ih _ _ h⟩
section
variable (r : Option Nat) (P : Program) (W0 : World) (n : Nat) (ds : List Deferred)
def CG (c : Code) (Q : Exit → Act → World → Prop) (e : Env) (G : List HProp) : Prop := ∀ a w, At n ds e a → Sat W0 G w → c.wpIn (Fz r) 0 P Q a w
def OG (ops : Array Oper) (Q : Exit → Act → World → Prop) (l : List Oper) (e : Env) (G : List HProp) : Prop := ∀ a w, At n ds e a → Sat W0 G w → wpL P ops Q l a w
def QG (Q : Exit → Act → World → Prop) (x : Exit) (e : Env) (G : List HProp) : Prop := ∀ a w, At n ds e a → Sat W0 G w → Q x a w
def Yield (op : Op) (ty : TypeId) (e : Env) (G : List HProp) (v : Value) : Prop :=
 ∀ ρ, Agrees e ρ → ∀ w, Sat W0 G w → ∀ dst pos after guard, (execOp ρ ⟨dst, op, ty, pos, after, guard⟩).run P w = .ok (.value v) w
def Eff (op : Op) (ty : TypeId) (e : Env) (G : List HProp) {α : Type} (φ : α → Prop) (v : α → Value) (G' : α → List HProp) : Prop :=
 ∀ ρ, Agrees e ρ → ∀ w, Sat W0 G w → ∀ dst pos after guard, ∃ x w', φ x ∧ Sat W0 (G' x) w' ∧
  ((execOp ρ ⟨dst, op, ty, pos, after, guard⟩).run P w = .ok (.value (v x)) w' ∨ ((execOp ρ ⟨dst, op, ty, pos, after, guard⟩).run P w = .ok .skip w' ∧ v x = undef))
def Ctr (f : FuncId) (args : List Value) (G : List HProp) {α : Type} (φ : α → Prop) (v : α → Value) (G' : α → List HProp) : Prop :=
 ∀ w, Sat W0 G w → Calls P f args.toArray w fun r w' => ∃ x, φ x ∧ r = .returned (v x) ∧ Sat W0 (G' x) w'
end
section
variable {r : Option Nat} {P : Program} {W0 : World} {n : Nat} {ds : List Deferred} {ops : Array Oper} {Q : Exit → Act → World → Prop} {rest : List Oper} {e : Env} {G : List HProp}
theorem OG.yield {d : Nat} {op : Op} {ty : TypeId} {pos : String} {af : Array Edge} {v : Value} (hy : Yield P W0 op ty e G v) (hd : Nat.ble (d + 1) n = true)
 (k : OG P W0 n ds ops Q rest ((d, v) :: e) G) : OG P W0 n ds ops Q (⟨some d, op, ty, pos, af, none⟩ :: rest) e G := fun a w ha hw => by
 unfold wpL
 rw [if_pos (by simp [Region.wanted])]
 refine Or.inl ?_
 unfold Oper.wp
 rw [hy a.eval ha.agrees w hw, Oper.upon_value]
 exact k _ _ (ha.put (Nat.le_of_ble_eq_true hd)) hw
theorem cX {dst : Option Nat} {op : Op} {ty : TypeId} {pos : String} {af : Array Edge} {α : Type} {φ : α → Prop} {v : α → Value} {G' : α → List HProp} (hy : Eff P W0 op ty e G φ v G')
 (hd : dst = none)
 (k : ∀ x, φ x → OG P W0 n ds ops Q rest e (G' x)) : OG P W0 n ds ops Q (⟨dst, op, ty, pos, af, none⟩ :: rest) e G := fun a w ha hw => by
 subst hd
 unfold wpL
 rw [if_pos (by simp [Region.wanted])]
 refine Or.inl ?_
 unfold Oper.wp
 obtain ⟨x, w', hx, hs, hr | ⟨hr, _⟩⟩ := hy a.eval ha.agrees w hw none pos af none
 ·rw [hr, Oper.upon_value]; exact k x hx _ _ ha hs
 ·rw [hr, Oper.upon_skip]; exact k x hx _ _ ha hs
theorem jQ {d : Nat} {op : Op} {ty : TypeId} {pos : String} {af : Array Edge} {α : Type} {φ : α → Prop} {v : α → Value} {G' : α → List HProp} (hy : Eff P W0 op ty e G φ v G')
 (hd : Nat.ble (d + 1) n = true)
 (k : ∀ x, φ x → OG P W0 n ds ops Q rest ((d, v x) :: e) (G' x)) : OG P W0 n ds ops Q (⟨some d, op, ty, pos, af, none⟩ :: rest) e G := fun a w ha hw => by
 unfold wpL
 rw [if_pos (by simp [Region.wanted])]
 refine Or.inl ?_
 unfold Oper.wp
 obtain ⟨x, w', hx, hs, hr | ⟨hr, hu⟩⟩ := hy a.eval ha.agrees w hw (some d) pos af none
 ·rw [hr, Oper.upon_value]; exact k x hx _ _ (ha.put (Nat.le_of_ble_eq_true hd)) hs
 ·rw [hr, Oper.upon_skip, ← hu]; exact k x hx _ _ (ha.put (Nat.le_of_ble_eq_true hd)) hs
theorem callFunc_run {f : FuncId} {fn : Func} {c : Code} (hf : P.funcs[f]? = some fn) (hb : fn.body = some c) (hn : (fn.name == "runtime.NumGoroutine") = false) (args : Array Value) (w : World) :
 (callFunc f args).run P w = .ok (.enter f args) w := by
 have h2 : ¬ fn.name = "runtime.NumGoroutine" := by simpa using hn
 simp [callFunc, program, Sem.run, bind, Sem.bind, hf, hb, h2, pure]
def Env.evs (e : Env) : List Operand → Option (List Value)
 | [] => some []
 | x :: l => match e.ev x, e.evs l with
  | some v, some vs => some (v :: vs)
  | _, _ => none
theorem Agrees.evs {e : Env} {ρ : Operand → Value} (h : Agrees e ρ) : ∀ {l : List Operand} {vs : List Value}, e.evs l = some vs → l.map ρ = vs
 | [], vs, q => by simpa [Env.evs] using q
 | x :: l, vs, q => by
  simp only [Env.evs] at q
  split at q
  ·rename_i v us h1 h2
   simp only [Option.some.injEq] at q
   subst q
   simp [h x v h1, h.evs h2]
  ·cases q
theorem run_call {f : FuncId} {fn : Func} {c : Code} (hf : P.funcs[f]? = some fn) (hb : fn.body = some c) (hn : (fn.name == "runtime.NumGoroutine") = false)
 {args : List Operand} {vs : List Value} {ats : Array TypeId} {ty : TypeId} {ρ : Operand → Value} (hρ : Agrees e ρ) (ha : e.evs args = some vs) (w : World) (dst pos after guard) :
 (execOp ρ ⟨dst, .call { callee := .value (.func f), args := args.toArray, argTypes := ats }, ty, pos, after, guard⟩).run P w = .ok (.enter f vs.toArray) w := by
 have h1 : ρ (.func f) = .func (.func f) #[] #[] := hρ _ _ rfl
 have h2 : args.map ρ = vs := hρ.evs ha
 have h3 := callFunc_run hf hb hn vs.toArray w
 simp [execOp, resolve, h1, Deferred.ofValue, bind, Sem.bind, pure, invoke, h2, h3]
theorem OG.call {d : Nat} {ty : TypeId} {pos : String} {af : Array Edge} {f : FuncId} {fn : Func} {c : Code} {args : List Operand} {ats : Array TypeId} {vs : List Value} {G1 : List HProp} {α : Type} {φ : α → Prop} {v : α → Value} {G' : α → List HProp}
 (hs : Ctr P W0 f vs G1 φ v G') (hf : P.funcs[f]? = some fn) (hb : fn.body = some c) (hn : (fn.name == "runtime.NumGoroutine") = false)
 (ha : e.evs args = some vs) (hi : Imp G G1) (hd : Nat.ble (d + 1) n = true)
 (k : ∀ x, φ x → OG P W0 n ds ops Q rest ((d, v x) :: e) (G' x)) :
 OG P W0 n ds ops Q (⟨some d, .call { callee := .value (.func f), args := args.toArray, argTypes := ats }, ty, pos, af, none⟩ :: rest) e G := fun a w hat hw => by
 unfold wpL
 rw [if_pos (by simp [Region.wanted])]
 refine Or.inl ?_
 unfold Oper.wp
 rw [run_call hf hb hn hat.agrees ha w, Oper.upon_enter]
 refine (hs w (hw.imp hi)).mono ?_
 rintro r w' ⟨x, hx, rfl, hs'⟩
 exact k x hx _ _ (hat.put (Nat.le_of_ble_eq_true hd)) hs'
theorem OG.guard_yes {o : Oper} {j t : Nat} {want : Bool} (hg : o.guard = some (j, want)) (ht : (ops[j]?).bind (·.dst) = some t) (hv : e.get t = some (.bool want)) (hn : t < n)
 (k : OG P W0 n ds ops Q ({ o with guard := none } :: rest) e G) : OG P W0 n ds ops Q (o :: rest) e G := fun a w ha hw => by
 have h1 := k a w ha hw
 unfold wpL at h1 ⊢
 rw [if_pos (by simp [Region.wanted])] at h1
 have hy : yielded ops a.tmps j = some want := by
  unfold yielded
  have h2 := ha.slot t _ hv
  have hs := ha.size
  rw [ht]
  simp only [Option.bind_some]
  have hlt : t < a.tmps.size := by omega
  simp only [Array.getD, hlt, dif_pos] at h2
  rw [Array.getElem?_eq_getElem hlt]
  have : a.tmps[t] = .bool want := h2
  rw [this]
 rw [if_pos (by simp [Region.wanted, hg, hy])]
 exact h1
theorem OG.guard_no {o : Oper} {d j t : Nat} {want b : Bool} (hdst : o.dst = some d) (hg : o.guard = some (j, want)) (ht : (ops[j]?).bind (·.dst) = some t) (hv : e.get t = some (.bool b)) (hb : b = !want) (hn : t < n) (hd : d < n)
 (k : OG P W0 n ds ops Q rest ((d, undef) :: e) G) : OG P W0 n ds ops Q (o :: rest) e G := fun a w ha hw => by
 unfold wpL
 have hy : yielded ops a.tmps j = some b := by
  unfold yielded
  have h2 := ha.slot t _ hv
  have hs := ha.size
  rw [ht]
  simp only [Option.bind_some]
  have hlt : t < a.tmps.size := by omega
  simp only [Array.getD, hlt, dif_pos] at h2
  rw [Array.getElem?_eq_getElem hlt]
  have : a.tmps[t] = .bool b := h2
  rw [this]
 rw [if_neg (by subst hb; simp [Region.wanted, hg, hy]), hdst]
 exact k _ _ (ha.put hd) hw
theorem fZ (k : QG W0 n ds Q .normal e G) : OG P W0 n ds ops Q [] e G := fun a w ha hw => k a w ha hw
theorem aZ {id : Nat} {l : List Oper} (k : OG P W0 n ds l.toArray Q l e G) (hd : ndB r l = true := by rfl) : CG r P W0 n ds (.region id l.toArray false) Q e G := fun a w ha hw => by
 refine wpIn_region ?_
 rw [List.range_eq_range', List.size_toArray]
 exact wpL_in l 0 (fun j _ => by rw [Nat.zero_add, List.getElem?_toArray]) (nd_of hd) a w (k a w ha hw)
theorem eZ {x y : Code} (k : CG r P W0 n ds x (Exit.then (y.wpIn (Fz r) 0 P Q) Q) e G) : CG r P W0 n ds (.seq x y) Q e G := fun a w ha hw => wpIn_seq (k a w ha hw)
theorem wZ (k : QG W0 n ds Q .normal e G) : CG r P W0 n ds .skip Q e G := fun a w ha hw => wpIn_skip (k a w ha hw)
theorem dX {id : Nat} (k : QG W0 n ds Q (.exit id) e G) : CG r P W0 n ds (.exit id) Q e G := fun a w ha hw => wpIn_exit (k a w ha hw)
theorem tZ (k : QG W0 n ds Q .ret e G) : CG r P W0 n ds .ret Q e G := fun a w ha hw => wpIn_ret (k a w ha hw)
theorem fQ {id : Nat} {c : Code} (k : CG r P W0 n ds c (Exit.inBlock id Q) e G) : CG r P W0 n ds (.block id c) Q e G := fun a w ha hw => wpIn_block (k a w ha hw)
theorem wQ {c : Operand} {x y : Code} {b : Bool} (hc : e.ev c = some (.bool b)) (kt : b = true → CG r P W0 n ds x Q e G) (kf : b = false → CG r P W0 n ds y Q e G) : CG r P W0 n ds (.cond c x y) Q e G := fun a w ha hw =>
 wpIn_cond_split (ha.agrees _ _ hc) (fun h => kt h a w ha hw) (fun h => kf h a w ha hw)
theorem gQ {c : Operand} {x y : Code} (hc : e.ev c = some (.bool true)) (kt : CG r P W0 n ds x Q e G) : CG r P W0 n ds (.cond c x y) Q e G := wQ hc (fun _ => kt) (fun h => by cases h)
theorem qZ {c : Operand} {x y : Code} (hc : e.ev c = some (.bool false)) (kf : CG r P W0 n ds y Q e G) : CG r P W0 n ds (.cond c x y) Q e G := wQ hc (fun h => by cases h) (fun _ => kf)
theorem bZ {y : Code} (k : CG r P W0 n ds y Q e G) : QG W0 n ds (Exit.then (y.wpIn (Fz r) 0 P Q) Q) .normal e G := fun a w ha hw => k a w ha hw
theorem vZ {K : Act → World → Prop} (k : QG W0 n ds Q .ret e G) : QG W0 n ds (Exit.then K Q) .ret e G := fun a w ha hw => k a w ha hw
theorem yZ {K : Act → World → Prop} {id : Nat} (k : QG W0 n ds Q (.exit id) e G) : QG W0 n ds (Exit.then K Q) (.exit id) e G := fun a w ha hw => k a w ha hw
theorem sZ {id : Nat} (k : QG W0 n ds Q .normal e G) : QG W0 n ds (Exit.inBlock id Q) .normal e G := fun a w ha hw => k a w ha hw
theorem mQ {id : Nat} (k : QG W0 n ds Q .ret e G) : QG W0 n ds (Exit.inBlock id Q) .ret e G := fun a w ha hw => k a w ha hw
theorem oQ {id : Nat} (k : QG W0 n ds Q .normal e G) : QG W0 n ds (Exit.inBlock id Q) (.exit id) e G := fun a w ha hw => by
 show (if id = id then Q .normal a w else Q (.exit id) a w); rw [if_pos rfl]; exact k a w ha hw
theorem QG.block_out {id id' : Nat} (hne : id' ≠ id) (k : QG W0 n ds Q (.exit id') e G) : QG W0 n ds (Exit.inBlock id Q) (.exit id') e G := fun a w ha hw => by
 show (if id' = id then Q .normal a w else Q (.exit id') a w); rw [if_neg hne]; exact k a w ha hw
theorem mX {c : Code} {G' : List HProp} (hi : Imp G G') (k : CG r P W0 n ds c Q e G') : CG r P W0 n ds c Q e G := fun a w ha hw => k a w ha (hw.imp hi)
def LoopAt (W0 : World) (n : Nat) (ds : List Deferred) {ι : Type} (φ : ι → Prop) (vals : ι → Env) (Γ : ι → List HProp) (μ : ι → Nat) (m : Nat) (a : Act) (w : World) : Prop :=
 ∃ i, φ i ∧ μ i < m ∧ At n ds (vals i) a ∧ Sat W0 (Γ i) w
theorem iX {c : Code} {ι : Type} (φ : ι → Prop) (vals : ι → Env) (Γ : ι → List HProp) (μ : ι → Nat) (i0 : ι) (h0 : φ i0) (he : (vals i0).sub e) (hg : Imp G (Γ i0))
 (hr : ∀ i, φ i → CG r P W0 n ds c (Exit.then (LoopAt W0 n ds φ vals Γ μ (μ i)) Q) (vals i) (Γ i)) : CG r P W0 n ds (.loop c) Q e G := fun a w ha hw => by
 intro b k cs hro hF hrm
 have key : ∀ m i, μ i = m → ∀ a w, φ i → At n ds (vals i) a → Sat W0 (Γ i) w →
  ∃ x a' w', Q x a' w' ∧ ArrivesIn (Machine.fenced P (Fz r)) P (lone (b.atR a (.code c :: .inLoop c :: k)) cs w) b k cs x a' w' := by
  intro m
  induction m using Nat.strongRecOn with
  | _ m ih =>
   intro i hm a w hφ hat hsat
   obtain ⟨x, a1, w1, hq, harr⟩ := hr i hφ a w hat hsat b (.inLoop c :: k) cs hro hF hrm
   cases x with
   | normal =>
    obtain ⟨j, hj, hlt, hat', hsat'⟩ := hq
    obtain ⟨x2, a2, w2, hq2, harr2⟩ := ih (μ j) (by omega) j rfl a1 w1 hj hat' hsat'
    exact ⟨x2, a2, w2, hq2, .of_steps (StepsIn.trans harr (.one (fenced_calm hF hrm rfl) stepR_inLoop)) harr2⟩
   | exit id => exact ⟨_, a1, w1, hq, .pass (x := .inLoop c) rfl (fun _ _ => .inl (by simp)) harr⟩
   | goto l => exact ⟨_, a1, w1, hq, .pass (x := .inLoop c) rfl (fun _ _ => .inl (by simp)) harr⟩
   | ret => exact ⟨_, a1, w1, hq, .pass (x := .inLoop c) rfl (fun _ _ => .inl (by simp)) harr⟩
   | panic ch => exact ⟨_, a1, w1, hq, .pass (x := .inLoop c) rfl (fun _ _ => .inl (by simp)) harr⟩
   | outgrown => exact ⟨_, a1, w1, hq, .pass (x := .inLoop c) rfl (fun _ _ => .inl (by simp)) harr⟩
 obtain ⟨x, a', w', hq, harr⟩ := key _ i0 rfl a w h0 (ha.sub he) (hw.imp hg)
 exact ⟨x, a', w', hq, .of_steps (.one (fenced_calm hF hrm rfl) stepR_loop) harr⟩
def CallOK (P : Program) (f : FuncId) : Prop := ∃ fn c, P.funcs[f]? = some fn ∧ fn.body = some c ∧ (fn.name == "runtime.NumGoroutine") = false
theorem oZ {d : Nat} {ty : TypeId} {pos : String} {af : Array Edge} {f : FuncId} {args : List Operand} {ats : Array TypeId} {vs : List Value} {G1 : List HProp} {α : Type} {φ : α → Prop} {v : α → Value} {G' : α → List HProp}
 (hc : CallOK P f) (ha : e.evs args = some vs) (hi : Imp G G1) (hs : Ctr P W0 f vs G1 φ v G') (hd : Nat.ble (d + 1) n = true)
 (k : ∀ x, φ x → OG P W0 n ds ops Q rest ((d, v x) :: e) (G' x)) :
 OG P W0 n ds ops Q (⟨some d, .call { callee := .value (.func f), args := args.toArray, argTypes := ats }, ty, pos, af, none⟩ :: rest) e G := by
 obtain ⟨fn, c, h1, h2, h3⟩ := hc
 exact OG.call hs h1 h2 h3 ha hi hd k
def Mid (W0 : World) (n : Nat) (ds : List Deferred) {ι : Type} (φ : ι → Prop) (vals : ι → Env) (Γ : ι → List HProp) (a : Act) (w : World) : Prop :=
 ∃ i, φ i ∧ At n ds (vals i) a ∧ Sat W0 (Γ i) w
theorem CG.cut {x y : Code} {ι : Type} (φ : ι → Prop) (vals : ι → Env) (Γ : ι → List HProp) (kx : CG r P W0 n ds x (Exit.then (Mid W0 n ds φ vals Γ) Q) e G) (ky : ∀ i, φ i → CG r P W0 n ds y Q (vals i) (Γ i)) :
 CG r P W0 n ds (.seq x y) Q e G := fun a w ha hw => by
 refine wpIn_seq (wpIn_mono (kx a w ha hw) fun ex a' w' h => ?_)
 cases ex with
 | normal => obtain ⟨i, hi, h1, h2⟩ := h; exact ky i hi a' w' h1 h2
 | _ => exact h
theorem cV {ι : Type} {φ : ι → Prop} {vals : ι → Env} {Γ : ι → List HProp} (i : ι) (hi : φ i) (he : (vals i).sub e) (hg : Imp G (Γ i)) : QG W0 n ds (Exit.then (Mid W0 n ds φ vals Γ) Q) .normal e G := fun a w ha hw => ⟨i, hi, ha.sub he, hw.imp hg⟩
theorem Imp.pull {A : HProp} {G R G' : List HProp} (x : Ext G A R) (h : Imp R G') : Imp G (A :: G') := Imp.trans x.1 (Imp.cons h)
theorem Imp.none (G : List HProp) : Imp G [] := fun _ _ => trivial
theorem w64 {x : Int} (h1 : -9223372036854775808 ≤ x) (h2 : x ≤ 9223372036854775807) : IntKind.i64.wrap x = x := by rw [IntKind.wrap_i64]; omega
theorem tmod_pos {a b : Int} (h1 : 0 ≤ a) (_h2 : 0 < b) : a.tmod b = a % b := Int.tmod_eq_emod_of_nonneg h1
theorem tdiv_pos {a b : Int} (h1 : 0 ≤ a) (_h2 : 0 < b) (h3 : a ≤ 9223372036854775807) : IntKind.i64.wrap (a.tdiv b) = a / b := by
 rw [Int.tdiv_eq_ediv_of_nonneg h1, w64]
 ·have := Int.ediv_nonneg h1 (by omega : 0 ≤ b); omega
 ·have := Int.ediv_le_self b h1; omega
end
end Go.Sl
/-! Short words for what the walks say often. -/
namespace Go.Sl
theorem eX {G R : List HProp} {A : HProp} (h : Ext G A R := by repeat (first | exact Ext.here | apply Ext.there)) : Ext G A R := h
theorem fC {G : List HProp} {A : HProp} {put : HProp → List HProp} (h : Foc G A put := by repeat (first | exact Foc.here | apply Foc.there)) : Foc G A put := h
theorem iM {G G' : List HProp} (h : Imp G G' := by repeat (first | exact Imp.refl _ | exact Imp.none _ | apply Imp.pull (by repeat (first | exact Ext.here | apply Ext.there)) | apply Imp.trans Imp.drop)) : Imp G G' := h
theorem eS {e' e : Env} (h : e'.sub e := by repeat (first | exact Env.sub_nil _ | refine Env.sub_cons rfl ?_)) : e'.sub e := h
section
variable {P : Program} {W0 : World} {n : Nat} {ds : List Deferred} {ops : Array Oper} {Q : Exit → Act → World → Prop} {rest : List Oper} {e : Env} {G : List HProp}
theorem OG.gy {o : Oper} {j t : Nat} {want : Bool} (hg : o.guard = some (j, want)) (ht : (ops[j]?).bind (·.dst) = some t) (hv : e.get t = some (.bool want)) (k : OG P W0 n ds ops Q ({ o with guard := none } :: rest) e G) (hn : t < n := by decide) : OG P W0 n ds ops Q (o :: rest) e G := OG.guard_yes hg ht hv hn k
theorem iQ {o : Oper} {d j t : Nat} {want b : Bool} (hdst : o.dst = some d) (hg : o.guard = some (j, want)) (ht : (ops[j]?).bind (·.dst) = some t) (hv : e.get t = some (.bool b)) (hb : b = !want) (k : OG P W0 n ds ops Q rest ((d, undef) :: e) G) (hn : t < n := by decide) (hd : d < n := by decide) : OG P W0 n ds ops Q (o :: rest) e G := OG.guard_no hdst hg ht hv hb hn hd k
end
end Go.Sl
namespace Go.Sl
theorem J {α : Sort _} {a : α} : a = a := rfl
theorem wO {x : Int} (h1 : -9223372036854775808 ≤ x := by omega) (h2 : x ≤ 9223372036854775807 := by omega) : IntKind.i64.wrap x = x := w64 h1 h2
theorem odT {p : Prop} [Decidable p] (h : decide p = true) : p := of_decide_eq_true h
theorem odF {p : Prop} [Decidable p] (h : decide p = false) : ¬p := of_decide_eq_false h
end Go.Sl
namespace Go.Sl
open Go Go.RowKit
def blk (b : Nat) (cs : List Value) (t : TypeId) : HProp := fun h => h b = some (.cells cs.toArray t (0, 0))
def obj (b : Nat) (o : Obj) : HProp := fun h => h b = some o
def old (W0 : World) : HProp := fun h => ∀ b, b < W0.heap.size → h b = W0.heap[b]?
def updH (h : Heaplet) (b : Nat) (o : Obj) : Heaplet := fun k => if k = b then some o else h k
def setObjW (w : World) (b : Nat) (o : Obj) : World := { w with heap := w.heap.setIfInBounds b o }
theorem heapOf_set {w : World} {b : Nat} {o x : Obj} (h : w.heap[b]? = some x) : heapOf (setObjW w b o) = updH (heapOf w) b o := by
 funext k
 unfold heapOf setObjW updH
 have hlt : b < w.heap.size := by
  rcases Nat.lt_or_ge b w.heap.size with h1 | h1
  ·exact h1
  ·rw [Array.getElem?_eq_none h1] at h; cases h
 by_cases hk : k = b
 ·subst hk; simp [hlt]
 ·rw [if_neg hk]; simp only [Array.getElem?_setIfInBounds]; rw [if_neg (by omega)]
theorem Sep.write {A B : HProp} {R : List HProp} {h : Heaplet} {b : Nat} {o o' : Obj} (s : Sep (A :: R) h)
 (hA : ∀ f, hle f h → A f → f b = some o ∧ B (updH f b o')) : Sep (B :: R) (updH h b o') := by
 obtain ⟨f, hf, ha, hs⟩ := s
 obtain ⟨h1, h2⟩ := hA f hf ha
 refine ⟨updH f b o', fun k x e => ?_, h2, hs.mono fun k x e => ?_⟩
 ·unfold updH at *
  split at e
  ·rename_i h; rw [if_pos h]; exact e
  ·rename_i h; rw [if_neg h]; exact hf k x e
 ·obtain ⟨e1, e2⟩ := minus_some.1 e
  have hne : k ≠ b := fun q => by subst q; rw [h1] at e1; cases e1
  refine minus_some.2 ⟨by unfold updH; rw [if_neg hne]; exact e1, by unfold updH; rw [if_neg hne]; exact e2⟩
theorem Foc.write {G : List HProp} {A B : HProp} {put : HProp → List HProp} (fc : Foc G A put) {h : Heaplet} {b : Nat} {o o' : Obj} (s : Sep G h)
 (hA : ∀ f, hle f h → A f → f b = some o ∧ B (updH f b o')) : Sep (put B) (updH h b o') := by
 obtain ⟨R, e, hp⟩ := fc
 exact hp B _ (Sep.write (e.1 _ s) hA)
theorem Tr.set {W0 w : World} (t : Tr W0 w) (b : Nat) (o : Obj) : Tr W0 (setObjW w b o) := ⟨t.os, t.tape, t.output, by simpa [setObjW] using t.size⟩
theorem Sat.write {W0 w : World} {G : List HProp} {A B : HProp} {put : HProp → List HProp} (fc : Foc G A put) {b : Nat} {o o' : Obj} (s : Sat W0 G w) (hb : w.heap[b]? = some o)
 (hA : ∀ f, hle f (heapOf w) → A f → f b = some o ∧ B (updH f b o')) : Sat W0 (put B) (setObjW w b o') :=
 ⟨s.1.set b o', by rw [heapOf_set hb]; exact fc.write s.2 hA⟩
theorem Sat.new {W0 w : World} {G : List HProp} (s : Sat W0 G w) (o : Obj) : Sat W0 (obj w.heap.size o :: G) { w with heap := w.heap.push o } := by
 refine ⟨⟨s.1.os, s.1.tape, s.1.output, by have := s.1.size; simp; omega⟩, fun k => if k = w.heap.size then some o else none, fun k x e => ?_, by simp [obj], s.2.mono fun k x e => ?_⟩
 ·dsimp only at e
  split at e
  ·rename_i h; subst h; unfold heapOf; simp at e ⊢; exact e
  ·cases e
 ·unfold heapOf at *
  have hlt : k < w.heap.size := by
   rcases Nat.lt_or_ge k w.heap.size with h1 | h1
   ·exact h1
   ·rw [Array.getElem?_eq_none h1] at e; cases e
  refine minus_some.2 ⟨by rw [if_neg (by omega)], ?_⟩
  show (w.heap.push o)[k]? = _
  rw [Array.getElem?_push, if_neg (by omega)]; exact e
theorem Sat.draw {W0 w : World} {G : List HProp} (s : Sat W0 G w) (m : Nat) : Sat W0 G { w with drawn := m } := ⟨⟨s.1.os, s.1.tape, s.1.output, s.1.size⟩, s.2⟩
theorem Sat.ext {W0 w : World} {G R : List HProp} {A : HProp} (e : Ext G A R) (s : Sat W0 G w) : ∃ f, hle f (heapOf w) ∧ A f := Sep.sub e s.2
theorem Sat.get_blk {W0 w : World} {G R : List HProp} {b : Nat} {cs : List Value} {t : TypeId} (e : Ext G (blk b cs t) R) (s : Sat W0 G w) : w.heap[b]? = some (.cells cs.toArray t (0, 0)) :=
 let ⟨_, hf, hA⟩ := Sat.ext e s; hf _ _ hA
theorem Sat.get_obj {W0 w : World} {G R : List HProp} {b : Nat} {o : Obj} (e : Ext G (obj b o) R) (s : Sat W0 G w) : w.heap[b]? = some o :=
 let ⟨_, hf, hA⟩ := Sat.ext e s; hf _ _ hA
theorem Sat.get_old {W0 w : World} {G R : List HProp} (e : Ext G (old W0) R) (s : Sat W0 G w) (b : Nat) (hb : b < W0.heap.size) : w.heap[b]? = W0.heap[b]? := by
 obtain ⟨f, hf, hA⟩ := Sat.ext e s
 have h1 := hA b hb
 rw [Array.getElem?_eq_getElem hb] at h1 ⊢
 exact hf _ _ h1
theorem Sat.start (W0 : World) : Sat W0 [old W0] W0 := ⟨Tr.refl _, heapOf W0, hle_refl _, fun _ _ => rfl, trivial⟩
theorem Sat.below {W0 w : World} {G R : List HProp} (e : Ext G (old W0) R) (s : Sat W0 G w) : Below W0.heap.size W0 w :=
 ⟨s.1.os, s.1.tape, s.1.output, s.1.size, fun k hk => Sat.get_old e s k hk⟩
theorem foc_ext {G : List HProp} {A : HProp} {put : HProp → List HProp} (f : Foc G A put) : ∃ R, Ext G A R := let ⟨R, e, _⟩ := f; ⟨R, e⟩
/-! ### Cells that may be read -/
section
variable (W0 : World) (G : List HProp)
def Cel (a : Addr) (v : Value) : Prop := ∀ w, Sat W0 G w → w.cell? a = some v
def Row (b o : Nat) (xs : List Value) : Prop := ∀ i v, xs[i]? = some v → Cel W0 G ⟨b, o + i, none⟩ v
end
theorem cell_of_heap {w : World} {b o : Nat} {cs : List Value} {t : TypeId} {fr : Nat × Nat} (h : w.heap[b]? = some (.cells cs.toArray t fr)) : w.cell? ⟨b, o, none⟩ = cs[o]? := by
 unfold World.cell?; rw [h]; simp
theorem Cel.of_blk {W0 : World} {G R : List HProp} {b o : Nat} {cs : List Value} {t : TypeId} {v : Value} (e : Ext G (blk b cs t) R) (h : cs[o]? = some v) : Cel W0 G ⟨b, o, none⟩ v := fun w s => by
 rw [cell_of_heap (Sat.get_blk e s)]; exact h
theorem Cel.of_old {W0 : World} {G R : List HProp} {a : Addr} {v : Value} (e : Ext G (old W0) R) (h : W0.cell? a = some v) : Cel W0 G a v := fun w s => by
 have hlt : a.block < W0.heap.size := by
  rcases Nat.lt_or_ge a.block W0.heap.size with h1 | h1
  ·exact h1
  ·unfold World.cell? at h; rw [Array.getElem?_eq_none h1] at h; cases h
 have := Sat.get_old e s a.block hlt
 unfold World.cell? at *; rw [this]; exact h
theorem Row.of_blk {W0 : World} {G R : List HProp} {b o : Nat} {cs xs : List Value} {t : TypeId} (e : Ext G (blk b cs t) R) (h : (cs.drop o).take xs.length = xs) : Row W0 G b o xs := fun i v hi =>
 Cel.of_blk e (by
  have hlt : i < xs.length := by
   rcases Nat.lt_or_ge i xs.length with h1 | h1
   ·exact h1
   ·rw [List.getElem?_eq_none h1] at hi; cases hi
  rw [← h, List.getElem?_take_of_lt hlt, List.getElem?_drop] at hi
  exact hi)
section
variable {P : Program}
theorem run_bind_ok {α β : Type} {x : Sem α} {f : α → Sem β} {w w' : World} {a : α} (h : x.run P w = .ok a w') : (x.bind f).run P w = (f a).run P w' := by
 induction x generalizing w with
 | pure b => simp [Sem.run] at h; obtain ⟨rfl, rfl⟩ := h; simp [Sem.bind]
 | load m ad k ih =>
  simp only [Sem.run, Sem.bind] at h ⊢
  split at h
  ·exact ih _ h
  ·split at h
   ·exact ih _ h
   ·cases h
 | store m ad v k ih =>
  cases v <;> simp only [Sem.run, Sem.bind] at h ⊢ <;> first
   | (cases h; done)
   | (split at h
      ·split at h
       ·cases h
       ·rename_i h2; simp only [h2]; exact ih h
      ·split at h
       ·exact ih h
       ·cases h)
 | new o k ih => simp only [Sem.run, Sem.bind] at h ⊢; exact ih _ h
 | shape r k ih => simp only [Sem.run, Sem.bind] at h ⊢; exact ih _ h
 | freeze a n k ih => simp only [Sem.run, Sem.bind] at h ⊢; exact ih h
 | frozen a k ih => simp only [Sem.run, Sem.bind] at h ⊢; exact ih _ h
 | getObj r k ih =>
  simp only [Sem.run, Sem.bind] at h ⊢
  split at h
  ·cases h
  ·exact ih _ h
  ·cases h
 | setObj r o k ih =>
  simp only [Sem.run, Sem.bind] at h ⊢
  split at h
  ·cases h
  ·exact ih h
  ·cases h
 | choose q k ih =>
  simp only [Sem.run, Sem.bind] at h ⊢
  split at h
  ·rename_i h2; rw [if_pos h2]; exact ih _ h
  ·rename_i h2; rw [if_neg h2]; exact ih _ h
 | sys c k ih => simp only [Sem.run, Sem.bind] at h ⊢; exact ih _ h
 | program k ih => simp only [Sem.run, Sem.bind] at h ⊢; exact ih _ h
 | mark m k ih => simp only [Sem.run, Sem.bind] at h ⊢; exact ih h
 | halt x => simp [Sem.run] at h
theorem add_at (b o i : Nat) : Addr.add ⟨b, o, none⟩ i = ⟨b, o + i, none⟩ := by
 unfold Addr.add; split
 ·rename_i h; subst h; rfl
 ·rfl
theorem run_loadCellsFrom {b o : Nat} {w : World} : ∀ (m i : Nat) (xs : List Value) (acc : Array Value), xs.length = m → (∀ j v, xs[j]? = some v → w.cell? ⟨b, o + (i + j), none⟩ = some v) →
 (loadCellsFrom ⟨b, o, none⟩ i m acc).run P w = .ok (acc ++ xs.toArray) w
 | 0, _, xs, acc, hl, _ => by
  have : xs = [] := List.length_eq_zero_iff.1 hl
  subst this; simp [loadCellsFrom, pure]
 | m + 1, i, [], acc, hl, _ => by simp at hl
 | m + 1, i, x :: xs, acc, hl, hc => by
  have h0 : w.cell? ⟨b, o + i, none⟩ = some x := by simpa using hc 0 x (by simp)
  have h1 : (load (Addr.add ⟨b, o, none⟩ i)).run P w = .ok x w := by rw [add_at]; simp [load, Sem.run, h0]
  show ((load (Addr.add ⟨b, o, none⟩ i)).bind fun v => loadCellsFrom ⟨b, o, none⟩ (i + 1) m (acc.push v)).run P w = _
  rw [run_bind_ok h1, run_loadCellsFrom m (i + 1) xs _ (by simpa using hl) (fun j v hj => by
   have := hc (j + 1) v (by simpa using hj)
   rw [show i + 1 + j = i + (j + 1) by omega]; exact this)]
  simp
theorem run_loadCells {b o : Nat} {w : World} {xs : List Value} {m : Nat} (hl : xs.length = m) (hc : ∀ j v, xs[j]? = some v → w.cell? ⟨b, o + j, none⟩ = some v) :
 (loadCells ⟨b, o, none⟩ m).run P w = .ok xs.toArray w := by
 unfold loadCells
 rw [run_loadCellsFrom m 0 xs #[] hl (fun j v hj => by rw [Nat.zero_add]; exact hc j v hj)]
 simp
def over (cs : List Value) (o : Nat) (vs : List Value) : List Value := cs.take o ++ vs ++ cs.drop (o + vs.length)
theorem over_length {cs : List Value} {o : Nat} {vs : List Value} (h : o + vs.length ≤ cs.length) : (over cs o vs).length = cs.length := by
 unfold over; simp; omega
theorem over_nil (cs : List Value) (o : Nat) : over cs o [] = cs := by unfold over; simp
theorem over_one {cs : List Value} {o : Nat} {v : Value} (h : o < cs.length) : over cs o [v] = cs.set o v := by
 unfold over; rw [List.set_eq_take_append_cons_drop, if_pos h]; simp
theorem over_cons {cs : List Value} {o : Nat} {v : Value} {vs : List Value} (h : o + (v :: vs).length ≤ cs.length) : over (cs.set o v) (o + 1) vs = over cs o (v :: vs) := by
 simp only [List.length_cons] at h
 have ho : o < cs.length := by omega
 have h1 : (cs.set o v).take (o + 1) = cs.take o ++ [v] := by
  rw [List.set_eq_take_append_cons_drop, if_pos ho, List.take_append]
  simp [Nat.min_eq_left (Nat.le_of_lt ho), List.take_take, Nat.min_eq_right (Nat.le_succ o)]
 have h2 : (cs.set o v).drop (o + 1 + vs.length) = cs.drop (o + 1 + vs.length) := by
  rw [List.drop_set, if_pos (by omega)]
 unfold over
 rw [h1, h2]
 simp only [List.length_cons, List.append_assoc, List.cons_append, List.nil_append]
 rw [show o + 1 + vs.length = o + (vs.length + 1) by omega]
def NoFr (fr : Nat × Nat) (m : Nat) : Prop := fr.1 = fr.2 ∨ m ≤ fr.1
theorem NoFr.zero (m : Nat) : NoFr (0, 0) m := .inl rfl
theorem cells_frozen {w : World} {b o : Nat} {cs : Array Value} {t : TypeId} {fr : Nat × Nat} (h : w.heap[b]? = some (.cells cs t fr)) (hf : NoFr fr cs.size) (ho : o < cs.size) : w.frozen? ⟨b, o, none⟩ = false := by
 unfold World.frozen?; rw [h]
 unfold NoFr at hf
 simp; omega
def one : Value → Bool
 | .agg _ | .tuple _ => false
 | _ => true
theorem setCell_eq {w : World} {b o : Nat} {cs : List Value} {t : TypeId} {fr : Nat × Nat} (h : w.heap[b]? = some (.cells cs.toArray t fr)) (v : Value) : w.setCell ⟨b, o, none⟩ v = setObjW w b (.cells (cs.set o v).toArray t fr) := by
 unfold World.setCell setObjW
 have hlt : b < w.heap.size := by
  rcases Nat.lt_or_ge b w.heap.size with h1 | h1
  ·exact h1
  ·rw [Array.getElem?_eq_none h1] at h; cases h
 congr 1
 apply Array.ext_getElem?
 intro i
 simp only [Array.getElem?_modify, Array.getElem?_setIfInBounds]
 by_cases hi : b = i
 ·subst hi
  rw [if_pos rfl, h]; simp [hlt]
 ·rw [if_neg hi, if_neg hi]
theorem setObjW_set (w : World) (b : Nat) (o o' : Obj) : setObjW (setObjW w b o) b o' = setObjW w b o' := by
 unfold setObjW; simp
theorem setObjW_get {w : World} {b : Nat} {o x : Obj} (h : w.heap[b]? = some x) : (setObjW w b o).heap[b]? = some o := by
 have := congrFun (heapOf_set (o := o) h) b
 unfold heapOf updH at this; simpa using this
theorem setObjW_same {w : World} {b : Nat} {o : Obj} (h : w.heap[b]? = some o) : setObjW w b o = w := by
 unfold setObjW
 have : w.heap.setIfInBounds b o = w.heap := by
  apply Array.ext_getElem?
  intro i
  simp only [Array.getElem?_setIfInBounds]
  by_cases hi : b = i
  ·subst hi
   rw [if_pos rfl, h]
   have hlt : b < w.heap.size := by
    rcases Nat.lt_or_ge b w.heap.size with h1 | h1
    ·exact h1
    ·rw [Array.getElem?_eq_none h1] at h; cases h
   simp [hlt]
  ·rw [if_neg hi]
 rw [this]
theorem run_store {w : World} {b o : Nat} {cs : List Value} {t : TypeId} {fr : Nat × Nat} {v : Value} (h : w.heap[b]? = some (.cells cs.toArray t fr)) (hf : NoFr fr cs.length) (ho : o < cs.length) (hv : one v = true) :
 (store ⟨b, o, none⟩ v).run P w = .ok () (setObjW w b (.cells (cs.set o v).toArray t fr)) := by
 have h1 : w.cell? ⟨b, o, none⟩ = some cs[o] := by rw [cell_of_heap h]; simp [ho]
 have h2 := cells_frozen (o := o) h (by simpa using hf) (by simpa using ho)
 have h3 := setCell_eq (o := o) h v
 cases v <;> simp [one] at hv <;> simp [store, Sem.run, h1, h2, h3]
theorem run_storeCells {b o : Nat} {t : TypeId} {fr : Nat × Nat} : ∀ (vs : List Value) (i : Nat) (w : World) (cs : List Value), w.heap[b]? = some (.cells cs.toArray t fr) → NoFr fr cs.length → o + i + vs.length ≤ cs.length → (∀ v ∈ vs, one v = true) →
 (storeCells ⟨b, o, none⟩ vs i).run P w = .ok () (setObjW w b (.cells (over cs (o + i) vs).toArray t fr))
 | [], i, w, cs, h, _, _, _ => by
  unfold storeCells; rw [over_nil, setObjW_same h]; simp [pure]
 | v :: vs, i, w, cs, h, hf, hl, hv => by
  simp only [List.length_cons] at hl
  have h1 := run_store (P := P) (o := o + i) h hf (show o + i < cs.length by omega) (hv v (by simp))
  show ((store (Addr.add ⟨b, o, none⟩ i) v).bind fun _ => storeCells ⟨b, o, none⟩ vs (i + 1)).run P w = _
  rw [add_at, run_bind_ok h1, run_storeCells vs (i + 1) _ (cs.set (o + i) v) (setObjW_get h) (by simpa using hf) (by simp; omega) (fun u hu => hv u (by simp [hu]))]
  rw [setObjW_set, show o + (i + 1) = o + i + 1 by omega, over_cons (by simp; omega)]
end
def tyInfo (P : Program) (t : TypeId) : Option (Nat × Nat × Option Value × Bool) :=
 match P.info? t, P.underlying t with
 | some i, some d => some (i.size, i.bytes, i.zero, match d with | .struct _ => true | .array _ _ => true | _ => false)
 | _, _ => none
def TI (P : Program) (t : TypeId) (sz by' : Nat) (z : Value) (ag : Bool) : Prop := tyInfo P t = some (sz, by', some z, ag)
section
variable {P : Program} {W0 : World} {e : Env} {G : List HProp} {ty : TypeId}
theorem TI.info {t sz by' z ag} (h : TI P t sz by' z ag) : ∃ i, P.info? t = some i ∧ i.size = sz ∧ i.bytes = by' ∧ i.zero = some z := by
 unfold TI tyInfo at h
 split at h
 ·rename_i i d h1 h2
  simp only [Option.some.injEq, Prod.mk.injEq] at h
  exact ⟨i, h1, h.1, h.2.1, h.2.2.1⟩
 ·cases h
theorem TI.run_size {t sz by' z ag} (h : TI P t sz by' z ag) (w : World) : (sizeOf t).run P w = .ok sz w := by
 obtain ⟨i, hi, rfl, _, _⟩ := h.info
 simp [sizeOf, typeInfo, program, bind, Sem.bind, pure, hi, Sem.run]
theorem TI.run_zero {t sz by' z ag} (h : TI P t sz by' z ag) (w : World) : (zeroValue t).run P w = .ok z w := by
 obtain ⟨i, hi, _, _, hz⟩ := h.info
 simp [zeroValue, typeInfo, program, bind, Sem.bind, pure, hi, Sem.run, hz]
theorem TI.run_info {t sz by' z ag} (h : TI P t sz by' z ag) (w : World) : ∃ i, (typeInfo t).run P w = .ok i w ∧ i.size = sz ∧ i.bytes = by' ∧ i.zero = some z := by
 obtain ⟨i, hi, h1, h2, h3⟩ := h.info
 exact ⟨i, by simp [typeInfo, program, bind, Sem.bind, pure, hi, Sem.run], h1, h2, h3⟩
theorem TI.run_agg {t sz by' z ag} (h : TI P t sz by' z ag) (w : World) : (isAgg t).run P w = .ok ag w := by
 unfold TI tyInfo at h
 split at h
 ·rename_i i d h1 h2
  simp only [Option.some.injEq, Prod.mk.injEq] at h
  have h3 := h.2.2.2
  cases d <;> simp [isAgg, underlying, program, bind, Sem.bind, pure, h2, Sem.run] <;> simpa using h3
 ·cases h
theorem run_underlying {t : TypeId} {d : TypeDesc} (h : P.underlying t = some d) (w : World) : (underlying t).run P w = .ok d w := by
 simp [underlying, program, bind, Sem.bind, pure, h, Sem.run]
/-! ### without memory -/
theorem Yield.move {x : Operand} {v : Value} (h : e.ev x = some v) : Yield P W0 (.move x) ty e G v := fun ρ hρ w _ _ _ _ _ => by
 simp [execOp, hρ x v h, pure, Sem.run]
theorem hQ {x : Operand} {v : Value} (h : e.ev x = some v) : Yield P W0 (.assign x) ty e G v := fun ρ hρ w _ _ _ _ _ => by
 simp [execOp, hρ x v h, pure, Sem.run]
theorem Yield.nilCheck {x : Operand} {a : Addr} (h : e.ev x = some (.pointer (some a))) : Yield P W0 (.nilCheck x) ty e G (.pointer (some a)) := fun ρ hρ w _ _ _ _ _ => by
 simp [execOp, hρ x _ h, pure, Sem.run]
def fieldAt? (P : Program) (s f : Nat) : Option Nat :=
 match P.underlying s with
 | some (.struct fs) =>
  match fs[f]? with
  | some d =>
   match P.info? d.type with
   | some i => if i.size = 0 then none else some d.offset
   | none => none
  | none => none
 | _ => none
def FieldAt (P : Program) (s f o : Nat) : Prop := fieldAt? P s f = some o
theorem Yield.fieldAddr {s f o : Nat} {x : Operand} {b p : Nat} (hf : FieldAt P s f o) (h : e.ev x = some (.pointer (some ⟨b, p, none⟩))) : Yield P W0 (.fieldAddr s x f) ty e G (.pointer (some ⟨b, p + o, none⟩)) := fun ρ hρ w _ _ _ _ _ => by
 unfold FieldAt fieldAt? at hf
 split at hf
 ·rename_i fs hu
  split at hf
  ·rename_i d hd
   split at hf
   ·rename_i i hi
    split at hf
    ·cases hf
    ·rename_i hs
     simp only [Option.some.injEq] at hf
     subst hf
     simp [execOp, hρ x _ h, pure, Sem.run, Instr.fieldAt, underlying, program, bind, Sem.bind, hu, hd, Instr.sureAddr, fieldPlace, sizeOf, typeInfo, hi, hs, add_at]
   ·cases hf
  ·cases hf
 ·cases hf
theorem guard_int {op : BinOp} {t : TypeId} {x y : Operand} {k k' : IntKind} {a b : Int} (w : World) : (eqGuard op t x y (.int k a) (.int k' b)).run P w = .ok () w := by
 unfold eqGuard; split <;> simp [pure, Sem.run]
theorem Yield.arith {op : BinOp} {t t' : TypeId} {x y : Operand} {k : IntKind} {a b c : Int} (hx : e.ev x = some (.int k a)) (hy : e.ev y = some (.int k b))
 (ho : (match op with | .add => some (k.wrap (a + b)) | .sub => some (k.wrap (a - b)) | .mul => some (k.wrap (a * b)) | _ => none) = some c) : Yield P W0 (.binOp op t x y t') ty e G (.int k c) := fun ρ hρ w _ _ _ _ _ => by
 have h0 := guard_int (P := P) (op := op) (t := t) (x := x) (y := y) (k := k) (k' := k) (a := a) (b := b) w
 have h1 : (binOp op t (.int k a) (.int k b)).run P w = .ok (.int k c) w := by
  cases op <;> simp at ho <;> simp [binOp, Op.intArith, pure, Sem.run, ho]
 show (((eqGuard op t x y (ρ x) (ρ y)).bind fun _ => binOp op t (ρ x) (ρ y)).bind _).run P w = _
 rw [hρ x _ hx, hρ y _ hy]
 rw [run_bind_ok (show ((eqGuard op t x y (.int k a) (.int k b)).bind fun _ => binOp op t (.int k a) (.int k b)).run P w = .ok (.int k c) w by rw [run_bind_ok h0, h1])]
 rfl
theorem eQ {t t' : TypeId} {x y : Operand} {k : IntKind} {a b c : Int} (hx : e.ev x = some (.int k a)) (hy : e.ev y = some (.int k b)) (hc : k.wrap (a + b) = c) : Yield P W0 (.binOp .add t x y t') ty e G (.int k c) := Yield.arith hx hy (by simp [hc])
theorem aV {t t' : TypeId} {x y : Operand} {k : IntKind} {a b c : Int} (hx : e.ev x = some (.int k a)) (hy : e.ev y = some (.int k b)) (hc : k.wrap (a - b) = c) : Yield P W0 (.binOp .sub t x y t') ty e G (.int k c) := Yield.arith hx hy (by simp [hc])
theorem qX {t t' : TypeId} {x y : Operand} {k : IntKind} {a b c : Int} (hx : e.ev x = some (.int k a)) (hy : e.ev y = some (.int k b)) (hc : k.wrap (a * b) = c) : Yield P W0 (.binOp .mul t x y t') ty e G (.int k c) := Yield.arith hx hy (by simp [hc])
def cmpB : BinOp → Int → Int → Option Bool
 | .eql, a, b => some (decide (a = b))
 | .neq, a, b => some (decide (a ≠ b))
 | .lss, a, b => some (decide (a < b))
 | .leq, a, b => some (decide (a ≤ b))
 | .gtr, a, b => some (decide (b < a))
 | .geq, a, b => some (decide (b ≤ a))
 | _, _, _ => none
theorem Yield.cmp {op : BinOp} {t t' : TypeId} {x y : Operand} {k : IntKind} {a b : Int} {c : Bool} (hx : e.ev x = some (.int k a)) (hy : e.ev y = some (.int k b)) (hc : cmpB op a b = some c) : Yield P W0 (.binOp op t x y t') ty e G (.bool c) := fun ρ hρ w _ _ _ _ _ => by
 have h0 := guard_int (P := P) (op := op) (t := t) (x := x) (y := y) (k := k) (k' := k) (a := a) (b := b) w
 have h1 : (binOp op t (.int k a) (.int k b)).run P w = .ok (.bool c) w := by
  cases op <;> simp only [cmpB, Option.some.injEq, reduceCtorEq] at hc <;> subst hc <;> simp [binOp, Op.intCmp, pure, Sem.run]
  all_goals (by_cases h : a = b <;> simp [h])
 show (((eqGuard op t x y (ρ x) (ρ y)).bind fun _ => binOp op t (ρ x) (ρ y)).bind _).run P w = _
 rw [hρ x _ hx, hρ y _ hy]
 rw [run_bind_ok (show ((eqGuard op t x y (.int k a) (.int k b)).bind fun _ => binOp op t (.int k a) (.int k b)).run P w = .ok (.bool c) w by rw [run_bind_ok h0, h1])]
 rfl
theorem uX {t t' : TypeId} {x y : Operand} {k : IntKind} {a b : Int} (hx : e.ev x = some (.int k a)) (hy : e.ev y = some (.int k b)) : Yield P W0 (.binOp .lss t x y t') ty e G (.bool (decide (a < b))) := Yield.cmp hx hy rfl
theorem Yield.leq {t t' : TypeId} {x y : Operand} {k : IntKind} {a b : Int} (hx : e.ev x = some (.int k a)) (hy : e.ev y = some (.int k b)) : Yield P W0 (.binOp .leq t x y t') ty e G (.bool (decide (a ≤ b))) := Yield.cmp hx hy rfl
theorem qV {t t' : TypeId} {x y : Operand} {k : IntKind} {a b : Int} (hx : e.ev x = some (.int k a)) (hy : e.ev y = some (.int k b)) : Yield P W0 (.binOp .gtr t x y t') ty e G (.bool (decide (b < a))) := Yield.cmp hx hy rfl
theorem zX {t t' : TypeId} {x y : Operand} {k : IntKind} {a b : Int} (hx : e.ev x = some (.int k a)) (hy : e.ev y = some (.int k b)) : Yield P W0 (.binOp .geq t x y t') ty e G (.bool (decide (b ≤ a))) := Yield.cmp hx hy rfl
theorem bX {t t' : TypeId} {x y : Operand} {k : IntKind} {a b : Int} (hx : e.ev x = some (.int k a)) (hy : e.ev y = some (.int k b)) : Yield P W0 (.binOp .eql t x y t') ty e G (.bool (decide (a = b))) := Yield.cmp hx hy rfl
theorem xX {t t' : TypeId} {x y : Operand} {k : IntKind} {a b : Int} (hx : e.ev x = some (.int k a)) (hy : e.ev y = some (.int k b)) : Yield P W0 (.binOp .neq t x y t') ty e G (.bool (decide (a ≠ b))) := Yield.cmp hx hy rfl
theorem tX {t t' : TypeId} {x y : Operand} {k : IntKind} {a b c : Int} (hx : e.ev x = some (.int k a)) (hy : e.ev y = some (.int k b)) (hb : b ≠ 0) (hc : a.tmod b = c) : Yield P W0 (.binOp .rem t x y t') ty e G (.int k c) := fun ρ hρ w _ _ _ _ _ => by
 simp [execOp, hρ x _ hx, hρ y _ hy, eqGuard, binOp, Op.intDiv, hb, hc, bind, Sem.bind, pure, Sem.run]
theorem kV {t t' : TypeId} {x y : Operand} {k : IntKind} {a b c : Int} (hx : e.ev x = some (.int k a)) (hy : e.ev y = some (.int k b)) (hb : b ≠ 0) (hc : k.wrap (a.tdiv b) = c) : Yield P W0 (.binOp .quo t x y t') ty e G (.int k c) := fun ρ hρ w _ _ _ _ _ => by
 simp [execOp, hρ x _ hx, hρ y _ hy, eqGuard, binOp, Op.intDiv, hb, hc, bind, Sem.bind, pure, Sem.run]
theorem mV {op : BinOp} {t t' : TypeId} {x y : Operand} {k : IntKind} {a b c : Int} (hx : e.ev x = some (.int k a)) (hy : e.ev y = some (.int k b)) (hop : (match op with | .and | .or | .xor | .andNot => true | _ => false) = true) (hc : Go.bits op k a b = c) : Yield P W0 (.binOp op t x y t') ty e G (.int k c) := fun ρ hρ w _ _ _ _ _ => by
 have h0 := guard_int (P := P) (op := op) (t := t) (x := x) (y := y) (k := k) (k' := k) (a := a) (b := b) w
 have h1 : (binOp op t (.int k a) (.int k b)).run P w = .ok (.int k c) w := by
  subst hc
  cases op <;> simp at hop <;> simp [binOp, Op.intBits, Go.bits, pure, Sem.run]
 show (((eqGuard op t x y (ρ x) (ρ y)).bind fun _ => binOp op t (ρ x) (ρ y)).bind _).run P w = _
 rw [hρ x _ hx, hρ y _ hy]
 rw [run_bind_ok (show ((eqGuard op t x y (.int k a) (.int k b)).bind fun _ => binOp op t (.int k a) (.int k b)).run P w = .ok (.int k c) w by rw [run_bind_ok h0, h1])]
 rfl
theorem Yield.shl {t t' : TypeId} {x y : Operand} {k k' : IntKind} {a c b : Int} {m : Nat} (hx : e.ev x = some (.int k a)) (hy : e.ev y = some (.int k' b)) (hb : b = (m : Int)) (hm : m ≤ k.bits) (hc : k.wrap (a * 2 ^ m) = c) : Yield P W0 (.binOp .shl t x y t') ty e G (.int k c) := fun ρ hρ w _ _ _ _ _ => by
 have hb0 : ¬ b < 0 := by omega
 have hb1 : min b.toNat k.bits = m := by omega
 simp [execOp, hρ x _ hx, hρ y _ hy, eqGuard, binOp, Op.shift, hb0, hb1, hc, bind, Sem.bind, pure, Sem.run]
theorem Yield.shr {t t' : TypeId} {x y : Operand} {k k' : IntKind} {a c b : Int} {m : Nat} (hx : e.ev x = some (.int k a)) (hy : e.ev y = some (.int k' b)) (hb : b = (m : Int)) (hm : m ≤ k.bits) (hc : a / 2 ^ m = c) : Yield P W0 (.binOp .shr t x y t') ty e G (.int k c) := fun ρ hρ w _ _ _ _ _ => by
 have hb0 : ¬ b < 0 := by omega
 have hb1 : min b.toNat k.bits = m := by omega
 have hc' : a.fdiv (2 ^ m) = c := by rw [Int.fdiv_eq_ediv_of_nonneg _ (Int.pow_nonneg (by decide))]; exact hc
 simp [execOp, hρ x _ hx, hρ y _ hy, eqGuard, binOp, Op.shift, hb0, hb1, hc', bind, Sem.bind, pure, Sem.run]
theorem uQ {src dst : TypeId} {x : Operand} {k k' : IntKind} {a c : Int} (hd : P.underlying dst = some (.int k')) (hs : (P.underlying src).isSome = true) (hx : e.ev x = some (.int k a)) (hc : k'.wrap a = c) : Yield P W0 (.convert src dst x) ty e G (.int k' c) := fun ρ hρ w _ _ _ _ _ => by
 obtain ⟨d, hs⟩ := Option.isSome_iff_exists.1 hs
 have h1 : (convert src dst (.int k a)).run P w = .ok (.int k' c) w := by
  unfold convert
  show ((underlying src).bind _).run P w = _
  rw [run_bind_ok (run_underlying hs w)]
  show ((underlying dst).bind _).run P w = _
  rw [run_bind_ok (run_underlying hd w)]
  simp [Conv.intToInt, pure, Sem.run, hc]
 show ((convert src dst (ρ x)).bind _).run P w = _
 rw [hρ x _ hx, run_bind_ok h1]; rfl
theorem pQ {t : TypeId} {x : Operand} {b : Bool} (hx : e.ev x = some (.bool b)) : Yield P W0 (.unOp .not t x) ty e G (.bool (!b)) := fun ρ hρ w _ _ _ _ _ => by
 simp [execOp, hρ x _ hx, Op.unary, bind, Sem.bind, pure, Sem.run]
theorem Yield.pick {c a b : Operand} {q : Bool} {u v : Value} (hc : e.ev c = some (.bool q)) (ha : q = true → e.ev a = some u) (hb : q = false → e.ev b = some v) : Yield P W0 (.pick c a b) ty e G (if q then u else v) := fun ρ hρ w _ _ _ _ _ => by
 cases q
 ·simp [execOp, hρ c _ hc, hρ b _ (hb rfl), asBool, bind, Sem.bind, pure, Sem.run]
 ·simp [execOp, hρ c _ hc, hρ a _ (ha rfl), asBool, bind, Sem.bind, pure, Sem.run]
theorem Yield.pick_t {c a b : Operand} {u : Value} (hc : e.ev c = some (.bool true)) (ha : e.ev a = some u) : Yield P W0 (.pick c a b) ty e G u :=
 Yield.pick (q := true) (u := u) (v := u) hc (fun _ => ha) (fun h => by cases h)
theorem Yield.pick_f {c a b : Operand} {v : Value} (hc : e.ev c = some (.bool false)) (hb : e.ev b = some v) : Yield P W0 (.pick c a b) ty e G v :=
 Yield.pick (q := false) (u := v) (v := v) hc (fun h => by cases h) (fun _ => hb)
theorem uZ {x : Operand} {i : Nat} {vs : Array Value} {v : Value} (hx : e.ev x = some (.tuple vs)) (hv : vs[i]? = some v) : Yield P W0 (.extract x i) ty e G v := fun ρ hρ w _ _ _ _ _ => by
 simp [execOp, hρ x _ hx, Instr.extract, hv, bind, Sem.bind, pure, Sem.run]
theorem dQ {op : Op} {v v' : Value} (h : Yield P W0 op ty e G v) (q : v = v') : Yield P W0 op ty e G v' := q ▸ h
theorem bT {p : Prop} [Decidable p] (h : p) : Value.bool (decide p) = .bool true := by rw [decide_eq_true h]
theorem bF {p : Prop} [Decidable p] (h : ¬ p) : Value.bool (decide p) = .bool false := by rw [decide_eq_false h]
theorem run_equal_ptr_nil {t el : TypeId} {a : Addr} (hu : P.underlying t = some (.pointer el)) (w : World) : (Op.equal t (.pointer (some a)) (.pointer none)).run P w = .ok false w := by
 show (Op.equalIn (9999 + 1) t (.pointer (some a)) (.pointer none)).run P w = _
 rw [Op.equalIn]
 show ((underlying t).bind _).run P w = _
 rw [run_bind_ok (run_underlying hu w)]
 rfl
theorem run_equal_nil_nil {t el : TypeId} (hu : P.underlying t = some (.pointer el)) (w : World) : (Op.equal t (.pointer none) (.pointer none)).run P w = .ok true w := by
 show (Op.equalIn (9999 + 1) t (.pointer none) (.pointer none)).run P w = _
 rw [Op.equalIn]
 show ((underlying t).bind _).run P w = _
 rw [run_bind_ok (run_underlying hu w)]
 rfl
theorem run_eqOf {op : BinOp} {t t' : TypeId} {x y : Operand} {u v : Value} {q : Bool} {ρ : Operand → Value} {w : World} (hx : ρ x = u) (hy : ρ y = v) (hg : (eqGuard op t x y u v).run P w = .ok () w) (hb : (binOp op t u v).run P w = .ok (.bool q) w) {dst pos after guard} :
 (execOp ρ ⟨dst, .binOp op t x y t', ty, pos, after, guard⟩).run P w = .ok (.value (.bool q)) w := by
 show (((eqGuard op t x y (ρ x) (ρ y)).bind fun _ => binOp op t (ρ x) (ρ y)).bind _).run P w = _
 rw [hx, hy]
 rw [run_bind_ok (show ((eqGuard op t x y u v).bind fun _ => binOp op t u v).run P w = .ok (.bool q) w by rw [run_bind_ok hg, hb])]
 rfl
theorem hX {t t' el : TypeId} {x y : Operand} {a : Addr} (hu : P.underlying t = some (.pointer el)) (hx : e.ev x = some (.pointer (some a))) (hy : e.ev y = some (.pointer none)) : Yield P W0 (.binOp .eql t x y t') ty e G (.bool false) := fun ρ hρ w _ _ _ _ _ => by
 refine run_eqOf (hρ x _ hx) (hρ y _ hy) rfl ?_
 show ((Op.equal t (.pointer (some a)) (.pointer none)).bind _).run P w = _
 rw [run_bind_ok (run_equal_ptr_nil hu w)]; rfl
theorem jX {t t' el : TypeId} {x y : Operand} (hu : P.underlying t = some (.pointer el)) (hx : e.ev x = some (.pointer none)) (hy : e.ev y = some (.pointer none)) : Yield P W0 (.binOp .eql t x y t') ty e G (.bool true) := fun ρ hρ w _ _ _ _ _ => by
 refine run_eqOf (hρ x _ hx) (hρ y _ hy) rfl ?_
 show ((Op.equal t (.pointer none) (.pointer none)).bind _).run P w = _
 rw [run_bind_ok (run_equal_nil_nil hu w)]; rfl
theorem run_builtin {b : Builtin} {args : List Operand} {vs : List Value} {ats : Array TypeId} {ρ : Operand → Value} (hρ : Agrees e ρ) (ha : e.evs args = some vs) {w : World} {dst pos after guard} {nx : Result Next}
 (h : (builtin b ats ty (args.toArray.map fun | .const _ => true | _ => false) vs.toArray).run P w = nx) :
 (execOp ρ ⟨dst, .call { callee := .builtin b, args := args.toArray, argTypes := ats }, ty, pos, after, guard⟩).run P w = nx := by
 have h2 : args.map ρ = vs := hρ.evs ha
 simp only [execOp, resolve, bind, Sem.bind, pure, invoke, List.map_toArray, h2]
 rw [List.map_toArray] at h
 exact h
theorem lZ {x : Operand} {t el : TypeId} {a : Option Addr} {m c : Nat} {ats : Array TypeId} (hu : P.underlying t = some (.slice el)) (hx : e.ev x = some (.slice a m c)) (ht : ats = #[t]) :
 Yield P W0 (.call { callee := .builtin .len, args := #[x], argTypes := ats }) ty e G (.int .i64 m) := fun ρ hρ w _ _ _ _ _ => by
 subst ht
 refine run_builtin (args := [x]) (vs := [_]) hρ (by simp only [Env.evs, hx]; rfl) ?_
 simp [builtin, Builtin.len_, underlying, program, hu, goInt, bind, Sem.bind, pure, Sem.run]
theorem dV {x y : Operand} {k : IntKind} {a b : Int} {ats : Array TypeId} (hx : e.ev x = some (.int k a)) (hy : e.ev y = some (.int k b)) :
 Yield P W0 (.call { callee := .builtin .min, args := #[x, y], argTypes := ats }) ty e G (.int k (min a b)) := fun ρ hρ w _ _ _ _ _ => by
 refine run_builtin (args := [x, y]) (vs := [_, _]) hρ (by simp only [Env.evs, hx, hy]; rfl) ?_
 have : (if b < a then b else a) = min a b := by rw [Int.min_def]; split <;> split <;> omega
 simp [builtin, Builtin.min_, Builtin.min2, bind, Sem.bind, pure, Sem.run, this]
theorem rV {x y : Operand} {k : IntKind} {a b : Int} {ats : Array TypeId} (hx : e.ev x = some (.int k a)) (hy : e.ev y = some (.int k b)) :
 Yield P W0 (.call { callee := .builtin .max, args := #[x, y], argTypes := ats }) ty e G (.int k (max a b)) := fun ρ hρ w _ _ _ _ _ => by
 refine run_builtin (args := [x, y]) (vs := [_, _]) hρ (by simp only [Env.evs, hx, hy]; rfl) ?_
 have : (if a < b then b else a) = max a b := by rw [Int.max_def]; split <;> split <;> omega
 simp [builtin, Builtin.max_, Builtin.max2, bind, Sem.bind, pure, Sem.run, this]
/-! ### addresses and slices -/
theorem nZ {t el : TypeId} {x i : Operand} {b o m c sz by' z ag k} {j : Int} (hu : P.underlying t = some (.slice el)) (ht : TI P el sz by' z ag) (hx : e.ev x = some (.slice (some ⟨b, o, none⟩) m c)) (hi : e.ev i = some (.int k j))
 (h0 : 0 ≤ j) (h1 : j < m) : Yield P W0 (.indexAddr t x i) ty e G (.pointer (some ⟨b, o + j.toNat * sz, none⟩)) := fun ρ hρ w _ _ _ _ _ => by
 have h2 : (Instr.indexAt t (.slice (some ⟨b, o, none⟩) m c) (.int k j)).run P w = .ok (.pointer (some ⟨b, o + j.toNat * sz, none⟩)) w := by
  unfold Instr.indexAt
  obtain ⟨i', hi', rfl, _, _⟩ := ht.info
  simp [asIntOf, underlying, program, hu, h0, h1, sizeOf, typeInfo, hi', bind, Sem.bind, pure, Sem.run, add_at]
 show ((Instr.indexAt t (ρ x) (ρ i)).bind _).run P w = _
 rw [hρ x _ hx, hρ i _ hi, run_bind_ok h2]; rfl
theorem rX {t el : TypeId} {len : Nat} {x i : Operand} {b o sz by' z ag k} {j : Int} (hu : P.underlying t = some (.array len el)) (ht : TI P el sz by' z ag) (hx : e.ev x = some (.pointer (some ⟨b, o, none⟩))) (hi : e.ev i = some (.int k j))
 (h0 : 0 ≤ j) (h1 : j < len) : Yield P W0 (.indexAddr t x i) ty e G (.pointer (some ⟨b, o + j.toNat * sz, none⟩)) := fun ρ hρ w _ _ _ _ _ => by
 have h2 : (Instr.indexAt t (.pointer (some ⟨b, o, none⟩)) (.int k j)).run P w = .ok (.pointer (some ⟨b, o + j.toNat * sz, none⟩)) w := by
  unfold Instr.indexAt
  obtain ⟨i', hi', rfl, _, _⟩ := ht.info
  simp [asIntOf, underlying, program, hu, h0, h1, sizeOf, typeInfo, hi', bind, Sem.bind, pure, Sem.run, add_at, Instr.sureAddr]
 show ((Instr.indexAt t (ρ x) (ρ i)).bind _).run P w = _
 rw [hρ x _ hx, hρ i _ hi, run_bind_ok h2]; rfl
def Bound (e : Env) (x : Option Operand) (dflt : Int) (v : Int) : Prop := match x with | none => v = dflt | some x => ∃ k, e.ev x = some (.int k v)
theorem Bound.none {e : Env} {d : Int} : Bound e none d d := rfl
theorem Bound.some {e : Env} {x : Operand} {d v : Int} {k : IntKind} (h : e.ev x = some (.int k v)) : Bound e (some x) d v := ⟨k, h⟩
theorem run_sliceBounds {isSl : Bool} {len cap : Nat} {lo hi : Option Operand} {l h : Int} {ρ : Operand → Value} (hρ : Agrees e ρ) (hl : Bound e lo 0 l) (hh : Bound e hi len h) (h0 : 0 ≤ l) (h1 : l ≤ h) (h2 : h ≤ cap) (w : World) :
 (Instr.sliceBounds isSl len cap (lo.map ρ) (hi.map ρ) none).run P w = .ok (l.toNat, h.toNat, cap) w := by
 unfold Instr.sliceBounds
 have hh0 : 0 ≤ h := by omega
 have e1 : ((h.toNat : Nat) : Int) = h := by omega
 cases lo with
 | none =>
  simp only [Bound] at hl; subst hl
  cases hi with
  | none => simp only [Bound] at hh; subst hh; simp [pure, bind, Sem.bind, Sem.run]
  | some x => obtain ⟨k, hx⟩ := hh; simp [hρ x _ hx, Instr.sliceBound, asIntOf, hh0, h2, pure, bind, Sem.bind, Sem.run]
 | some y =>
  obtain ⟨k', hy⟩ := hl
  cases hi with
  | none => simp only [Bound] at hh; subst hh; simp [hρ y _ hy, Instr.sliceBound, asIntOf, h0, h1, pure, bind, Sem.bind, Sem.run]
  | some x => obtain ⟨k, hx⟩ := hh; simp [hρ x _ hx, hρ y _ hy, Instr.sliceBound, asIntOf, hh0, h2, h0, h1, e1, pure, bind, Sem.bind, Sem.run]
def cutAt (a : Addr) (l c sz : Nat) : Addr := if c = l then a else a.add (l * sz)
theorem sV {t el : TypeId} {x : Operand} {lo hi : Option Operand} {a : Option Addr} {m c sz by' z ag} {l h : Int} (hu : P.underlying t = some (.slice el)) (ht : TI P el sz by' z ag) (hx : e.ev x = some (.slice a m c))
 (hl : Bound e lo 0 l) (hh : Bound e hi m h) (h0 : 0 ≤ l) (h1 : l ≤ h) (h2 : h ≤ c) : Yield P W0 (.slice t x lo hi none) ty e G (.slice (a.map fun a => cutAt a l.toNat c sz) (h.toNat - l.toNat) (c - l.toNat)) := fun ρ hρ w _ _ _ _ _ => by
 have hs : (Instr.sliceAt t (.slice a m c) (lo.map ρ) (hi.map ρ) none).run P w = .ok (.slice (a.map fun a => cutAt a l.toNat c sz) (h.toNat - l.toNat) (c - l.toNat)) w := by
  unfold Instr.sliceAt
  show ((underlying t).bind _).run P w = _
  rw [run_bind_ok (run_underlying hu w)]
  simp only []
  unfold Instr.slice
  show ((underlying t).bind _).run P w = _
  rw [run_bind_ok (run_underlying hu w)]
  simp only []
  show ((Instr.sliceBounds _ _ _ _ _ _).bind _).run P w = _
  rw [run_bind_ok (run_sliceBounds hρ hl hh h0 h1 h2 w)]
  simp only []
  show ((sizeOf el).bind _).run P w = _
  rw [run_bind_ok (ht.run_size w)]
  simp only [pure, Sem.run]
  congr 2
  unfold cutAt
  cases a <;> simp <;> split <;> rfl
 show ((Instr.sliceAt t (ρ x) (lo.map ρ) (hi.map ρ) ((Option.none : Option Operand).map ρ)).bind _).run P w = _
 rw [hρ x _ hx, Option.map_none, run_bind_ok hs]; rfl
theorem pV {t el : TypeId} {x : Operand} {hi : Option Operand} {a : Option Addr} {m c sz by' z ag} {h : Int} (hu : P.underlying t = some (.slice el)) (ht : TI P el sz by' z ag) (hx : e.ev x = some (.slice a m c))
 (hh : Bound e hi m h) (h1 : 0 ≤ h) (h2 : h ≤ c) : Yield P W0 (.slice t x none hi none) ty e G (.slice a h.toNat c) := by
 have := sV (W0 := W0) (G := G) (ty := ty) (lo := none) hu ht hx Bound.none hh (by omega) h1 h2
 have e1 : (a.map fun a => cutAt a (0 : Int).toNat c sz) = a := by
  cases a with
  | none => rfl
  | some a => simp [cutAt, Addr.add]
 rw [e1] at this
 simpa using this
/-! ### loads and stores -/
theorem hZ {t : TypeId} {x : Operand} {a : Addr} {v : Value} {sz by' z} (ht : TI P t sz by' z false) (hx : e.ev x = some (.pointer (some a))) (hc : Cel W0 G a v) : Yield P W0 (.load t x) ty e G v := fun ρ hρ w hw _ _ _ _ => by
 have h1 : (loadVar t a).run P w = .ok v w := by
  unfold loadVar
  show ((isAgg t).bind _).run P w = _
  rw [run_bind_ok (ht.run_agg w)]
  simp [Go.load, Sem.run, hc w hw]
 show (((Instr.loadAt t (ρ x))).bind _).run P w = _
 rw [hρ x _ hx]
 rw [run_bind_ok (show (Instr.loadAt t (.pointer (some a))).run P w = .ok v w by simp [Instr.loadAt, Instr.sureAddr, bind, Sem.bind, pure, h1])]
 rfl
theorem tQ {t : TypeId} {x : Operand} {b o : Nat} {vs : List Value} {sz by' z} (ht : TI P t sz by' z true) (hx : e.ev x = some (.pointer (some ⟨b, o, none⟩))) (hl : vs.length = sz) (hc : Row W0 G b o vs) : Yield P W0 (.load t x) ty e G (.agg vs.toArray) := fun ρ hρ w hw _ _ _ _ => by
 have h1 : (loadVar t ⟨b, o, none⟩).run P w = .ok (.agg vs.toArray) w := by
  unfold loadVar
  show ((isAgg t).bind _).run P w = _
  rw [run_bind_ok (ht.run_agg w)]
  simp only [if_true]
  show ((sizeOf t).bind _).run P w = _
  rw [run_bind_ok (ht.run_size w)]
  show ((loadCells _ _).bind _).run P w = _
  rw [run_bind_ok (run_loadCells hl (fun j v hj => hc j v hj w hw))]
  rfl
 show (((Instr.loadAt t (ρ x))).bind _).run P w = _
 rw [hρ x _ hx]
 rw [run_bind_ok (show (Instr.loadAt t (.pointer (some ⟨b, o, none⟩))).run P w = .ok (.agg vs.toArray) w by simp [Instr.loadAt, Instr.sureAddr, bind, Sem.bind, pure, h1])]
 rfl
theorem run_storeVar {t : TypeId} {b o : Nat} {v : Value} {w : World} {cs : List Value} {bt : TypeId} {sz by' z ag} (ht : TI P t sz by' z ag) (hv : v.cells.size = sz) (h1 : ∀ c ∈ v.cells.toList, one c = true)
 {fr : Nat × Nat} (hb : w.heap[b]? = some (.cells cs.toArray bt fr)) (hf : NoFr fr cs.length) (ho : o + sz ≤ cs.length) :
 (storeVar t ⟨b, o, none⟩ v).run P w = .ok () (setObjW w b (.cells (over cs o v.cells.toList).toArray bt fr)) := by
 unfold storeVar
 show ((sizeOf t).bind _).run P w = _
 rw [run_bind_ok (ht.run_size w)]
 simp only [hv, ne_eq, not_true, if_false]
 have := run_storeCells (P := P) (o := o) v.cells.toList 0 w cs hb hf (by simp [hv]; omega) h1
 simpa [pure, bind, Sem.bind] using this
theorem Eff.store {t : TypeId} {x y : Operand} {b o : Nat} {v : Value} {cs cs' : List Value} {bt : TypeId} {put : HProp → List HProp} {sz by' z ag} (ht : TI P t sz by' z ag) (hx : e.ev x = some (.pointer (some ⟨b, o, none⟩))) (hy : e.ev y = some v)
 (fc : Foc G (blk b cs bt) put) (hv : v.cells.size = sz) (h1 : ∀ c ∈ v.cells.toList, one c = true) (ho : o + sz ≤ cs.length) (hcs : over cs o v.cells.toList = cs') :
 Eff P W0 (.store t x y) ty e G (fun _ : Unit => True) (fun _ => undef) (fun _ => put (blk b cs' bt)) := fun ρ hρ w hw _ _ _ _ => by
 obtain ⟨R, hR⟩ := foc_ext fc
 have hb := Sat.get_blk hR hw
 subst hcs
 refine ⟨(), setObjW w b (.cells (over cs o v.cells.toList).toArray bt (0, 0)), trivial, Sat.write (B := blk b (over cs o v.cells.toList) bt) fc hw hb (fun f _ hf => ⟨hf, by show updH f b _ b = _; simp [updH]⟩), .inr ⟨?_, rfl⟩⟩
 show (((Instr.storeAt t (ρ x) (ρ y))).bind _).run P w = _
 rw [hρ x _ hx, hρ y _ hy]
 rw [run_bind_ok (show (Instr.storeAt t (.pointer (some ⟨b, o, none⟩)) v).run P w = _ by
  show ((Instr.sureAddr _).bind _).run P w = _
  simp only [Instr.sureAddr, pure, Sem.bind]
  exact run_storeVar ht hv h1 hb (NoFr.zero _) ho)]
 rfl
theorem ones {v : Value} (h : one v = true) : v.cells = #[v] := by cases v <;> first | rfl | cases h
theorem aX {t : TypeId} {x y : Operand} {b o : Nat} {v : Value} {cs : List Value} {bt : TypeId} {put : HProp → List HProp} {by' z ag} (ht : TI P t 1 by' z ag) (hx : e.ev x = some (.pointer (some ⟨b, o, none⟩))) (hy : e.ev y = some v)
 (fc : Foc G (blk b cs bt) put) (h1 : one v = true) (ho : o < cs.length) : Eff P W0 (.store t x y) ty e G (fun _ : Unit => True) (fun _ => undef) (fun _ => put (blk b (cs.set o v) bt)) :=
 Eff.store ht hx hy fc (by rw [ones h1]; rfl) (by rw [ones h1]; intro c hc; simp at hc; subst hc; exact h1) (by omega) (by rw [ones h1]; exact over_one ho)
theorem gX {t : TypeId} {x y : Operand} {b : Nat} {vs cs : List Value} {bt : TypeId} {put : HProp → List HProp} {sz by' z ag} (ht : TI P t sz by' z ag) (hx : e.ev x = some (.pointer (some ⟨b, 0, none⟩))) (hy : e.ev y = some (.agg vs.toArray))
 (fc : Foc G (blk b cs bt) put) (hv : vs.length = sz) (h1 : ∀ c ∈ vs, one c = true) (ho : cs.length = sz) :
 Eff P W0 (.store t x y) ty e G (fun _ : Unit => True) (fun _ => undef) (fun _ => put (blk b vs bt)) :=
 Eff.store ht hx hy fc (by simpa [Value.cells] using hv) (by simpa [Value.cells] using h1) (by omega) (by
  unfold over; simp only [Value.cells, List.take_zero, List.nil_append, Nat.zero_add]
  rw [List.drop_eq_nil_of_le (by omega), List.append_nil])
/-! ### new blocks -/
theorem sX {t : TypeId} {x : Operand} {v : Value} (hx : e.ev x = some v) :
 Eff P W0 (.box t x) ty e G (fun _ : Nat => True) (fun b => .pointer (some ⟨b, 0, none⟩)) (fun b => blk b v.cells.toList t :: G) := fun ρ hρ w hw _ _ _ _ => by
 refine ⟨w.heap.size, { w with heap := w.heap.push (.cells v.cells t (0, 0)) }, trivial, ?_, .inl ?_⟩
 rotate_left
 ·simp only [execOp, hρ x _ hx, Instr.box, newVar, newRow, newObj, bind, Sem.bind, pure, Sem.run]
 ·have := Sat.new hw (.cells v.cells t (0, 0))
  unfold obj at this; unfold blk; simpa using this
theorem lX {t : TypeId} {v : Value} {sz by' ag} (ht : TI P t sz by' v ag) :
 Eff P W0 (.alloc t) ty e G (fun _ : Nat => True) (fun b => .pointer (some ⟨b, 0, none⟩)) (fun b => blk b v.cells.toList t :: G) := fun ρ hρ w hw _ _ _ _ => by
 refine ⟨w.heap.size, { w with heap := w.heap.push (.cells v.cells t (0, 0)) }, trivial, ?_, .inl ?_⟩
 rotate_left
 ·have h1 : (Instr.alloc t true (.tuple #[])).run P w = .ok (.pointer (some ⟨w.heap.size, 0, none⟩)) { w with heap := w.heap.push (.cells v.cells t (0, 0)) } := by
   unfold Instr.alloc
   show ((zeroValue t).bind _).run P w = _
   rw [run_bind_ok (ht.run_zero w)]
   simp only [newVar, newRow, newObj, bind, Sem.bind, pure, Sem.run]
  show ((Instr.alloc t true (.tuple #[])).bind _).run P w = _
  rw [run_bind_ok h1]; rfl
 ·have := Sat.new hw (.cells v.cells t (0, 0))
  unfold obj at this; unfold blk; simpa using this
end
end Go.Sl
namespace Go.Sl
section
variable {P : Program} {W0 : World} {n : Nat} {ds : List Deferred} {ops : Array Oper} {Q : Exit → Act → World → Prop} {rest : List Oper} {e : Env} {G : List HProp} {ty : TypeId}
theorem OG.mv {d : Nat} {x : Operand} {ty : TypeId} {pos : String} {af : Array Edge} {v : Value} (h : e.ev x = some v) (hd : Nat.ble (d + 1) n = true) (k : OG P W0 n ds ops Q rest ((d, v) :: e) G) : OG P W0 n ds ops Q (⟨some d, .move x, ty, pos, af, none⟩ :: rest) e G := OG.yield (Yield.move h) hd k
theorem OG.sg {d : Nat} {x : Operand} {ty : TypeId} {pos : String} {af : Array Edge} {v : Value} (h : e.ev x = some v) (hd : Nat.ble (d + 1) n = true) (k : OG P W0 n ds ops Q rest ((d, v) :: e) G) : OG P W0 n ds ops Q (⟨some d, .assign x, ty, pos, af, none⟩ :: rest) e G := OG.yield (hQ h) hd k
theorem bQ {t t' : TypeId} {x y : Operand} {v : Value} (h : Yield P W0 (.binOp .lss t x y t') ty e G v := by first | exact dQ (uX rfl rfl) (bT (by omega)) | exact dQ (uX rfl rfl) (bF (by omega)) | exact uX rfl rfl) : Yield P W0 (.binOp .lss t x y t') ty e G v := h
theorem Yield.leqA {t t' : TypeId} {x y : Operand} {v : Value} (h : Yield P W0 (.binOp .leq t x y t') ty e G v := by first | exact dQ (Yield.leq rfl rfl) (bT (by omega)) | exact dQ (Yield.leq rfl rfl) (bF (by omega)) | exact Yield.leq rfl rfl) : Yield P W0 (.binOp .leq t x y t') ty e G v := h
theorem fX {t t' : TypeId} {x y : Operand} {v : Value} (h : Yield P W0 (.binOp .gtr t x y t') ty e G v := by first | exact dQ (qV rfl rfl) (bT (by omega)) | exact dQ (qV rfl rfl) (bF (by omega)) | exact qV rfl rfl) : Yield P W0 (.binOp .gtr t x y t') ty e G v := h
theorem zQ {t t' : TypeId} {x y : Operand} {v : Value} (h : Yield P W0 (.binOp .geq t x y t') ty e G v := by first | exact dQ (zX rfl rfl) (bT (by omega)) | exact dQ (zX rfl rfl) (bF (by omega)) | exact zX rfl rfl) : Yield P W0 (.binOp .geq t x y t') ty e G v := h
theorem yX {t t' : TypeId} {x y : Operand} {v : Value} (h : Yield P W0 (.binOp .eql t x y t') ty e G v := by first | exact dQ (bX rfl rfl) (bT (by omega)) | exact dQ (bX rfl rfl) (bF (by omega)) | exact bX rfl rfl) : Yield P W0 (.binOp .eql t x y t') ty e G v := h
theorem nQ {t t' : TypeId} {x y : Operand} {v : Value} (h : Yield P W0 (.binOp .neq t x y t') ty e G v := by first | exact dQ (xX rfl rfl) (bT (by omega)) | exact dQ (xX rfl rfl) (bF (by omega)) | exact xX rfl rfl) : Yield P W0 (.binOp .neq t x y t') ty e G v := h
theorem jZ {c x y : Operand} {v : Value} (h : Yield P W0 (.pick c x y) ty e G v := by first | exact Yield.pick_t rfl rfl | exact Yield.pick_f rfl rfl | exact Yield.pick rfl (fun _ => rfl) (fun _ => rfl)) : Yield P W0 (.pick c x y) ty e G v := h
theorem rZ {t by' : Nat} {z v : Value} {x : Operand} {a : Addr} (ht : TI P t 1 by' z false) (hx : e.ev x = some (.pointer (some a))) (hc : Cel W0 G a v := by exact Cel.of_blk (by repeat (first | exact Ext.here | apply Ext.there)) rfl) : Yield P W0 (.load t x) ty e G v := hZ ht hx hc
end
end Go.Sl
namespace Go.Sl
open Go Go.RowKit
def QP (Q : Exit → Act → World → Prop) : Exit → Act → World → Prop
 | .panic ch, a, w => ∀ a' : Act, a'.defers = a.defers → a'.tmps.size = a.tmps.size → Q (.panic ch) a' w
 | _, _, _ => False
theorem QP.put {Q : Exit → Act → World → Prop} {ch : List PanicEntry} {a : Act} {d : Option Nat} {v : Value} {w : World} (h : QP Q (.panic ch) (a.put d v) w) : QP Q (.panic ch) a w := fun a' h1 h2 =>
 h a' (by cases d <;> exact h1) (by cases d with | none => exact h2 | some d => simpa [Act.put] using h2)
section
variable {P : Program} {ops : Array Oper}
theorem wp_monoQ {o : Oper} {a : Act} {w : World} {K : Act → World → Prop} {Q : Exit → Act → World → Prop} (h : o.wp P a w K (QP Q)) : o.wp P a w K Q := by
 unfold Oper.wp at *
 generalize (execOp a.eval o).run P w = r at *
 cases r with
 | ok n w' =>
  cases n <;> simp only [Oper.upon] at h ⊢ <;>
   first
    | exact h
    | exact Calls.mono h (fun e w'' he => by cases e <;> first | exact he | exact he a J J | exact he.elim | (obtain ⟨_, _, h⟩ := he; exact h.elim))
 | halt x w' => cases x <;> simp only [Oper.upon] at h ⊢ <;> first | exact h | exact h a J J | exact h.elim
theorem wpOp_in {r : Option Nat} {i : Nat} {a : Act} {w : World} {K : Act → World → Prop} {Q : Exit → Act → World → Prop} (hn : ∀ o ∈ ops.toList, r = none ∨ ndOp o = true) (h : wpOp P ops (QP Q) i K a w) : wpOpIn (Fz r) 0 P ops Q i K a w := by
 unfold wpOp at h
 unfold wpOpIn
 split
 ·rename_i ho; simp only [ho] at h; exact h
 ·rename_i o ho
  simp only [ho] at h
  have hm : o ∈ ops.toList := by rw [← Array.getElem?_toList] at ho; exact List.mem_of_getElem? ho
  split
  ·rename_i hw; simp only [hw, if_true] at h
   rcases h with h | ⟨_, _, _, h⟩
   ·exact wp_in (hn o hm) (wp_monoQ h)
   ·exact h.elim
  ·rename_i hw; simp only [hw] at h; exact ⟨fun _ _ => trivial, h⟩
def YldC (P : Program) (ops : Array Oper) (C : World → Prop) (o : Oper) (v : Value) (a : Act) : Prop :=
 (Region.wanted o (yielded ops a.tmps) = true ∧ ∀ w, C w → (execOp a.eval o).run P w = .ok (.value v) w) ∨ (Region.wanted o (yielded ops a.tmps) = false ∧ v = undef)
theorem YldC.sub {C C' : World → Prop} {o : Oper} {v : Value} {a : Act} (h : YldC P ops C o v a) (hc : ∀ w, C' w → C w) : YldC P ops C' o v a := by
 rcases h with ⟨h1, h2⟩ | h
 ·exact .inl ⟨h1, fun w hw => h2 w (hc w hw)⟩
 ·exact .inr h
theorem YldC.of_same {C : World → Prop} {o : Oper} {v : Value} {a a' : Act} (hy : YldC P ops C o v a) (he : execOp a'.eval o = execOp a.eval o)
 (hw : Region.wanted o (yielded ops a'.tmps) = Region.wanted o (yielded ops a.tmps)) : YldC P ops C o v a' := by
 unfold YldC at *; rw [he, hw]; exact hy
theorem YldC.wpOp {C : World → Prop} {i : Nat} {o : Oper} {v : Value} {a : Act} (hi : ops[i]? = some o) (hy : YldC P ops C o v a) {Q : Exit → Act → World → Prop}
 {K : Act → World → Prop} {w : World} (hw : C w) (h : K (a.put o.dst v) w) : wpOp P ops Q i K a w := by
 unfold Go.wpOp
 simp only [hi]
 rcases hy with ⟨h1, hv⟩ | ⟨h1, rfl⟩
 ·simp only [h1, if_true, Oper.wp, hv w hw, Oper.upon]; exact .inl h
 ·simp only [h1, Bool.false_eq_true, if_false]; exact h
/-! ### what must come before -/
def Closed (ops : Array Oper) (listed : Array Bool) : Prop := ∀ j oj, ops[j]? = some oj → listed.getD j false = true → ∀ e ∈ oj.after, Region.binds .any e = true → listed.getD e.on false = true
theorem Closed.set {listed : Array Bool} {i : Nat} (h : Closed ops listed) (hi : i ∈ Region.ready .any ops listed) : Closed ops (listed.setIfInBounds i true) := fun j oj hj hl e he hb => by
 obtain ⟨_, oi, hoi, hall⟩ := mem_ready.1 hi
 by_cases hij : i = j
 ·subst hij
  have : oj = oi := Option.some.inj (hj.symm.trans hoi)
  subst this
  exact getD_set_true (hall e he hb)
 ·rw [getD_set_ne false hij] at hl
  exact getD_set_true (h j oj hj hl e he hb)
inductive Waits (ops : Array Oper) (i : Nat) : Nat → Prop
 | direct {j : Nat} {oj : Oper} {e : Edge} (hj : ops[j]? = some oj) (he : e ∈ oj.after) (hb : Region.binds .any e = true) (hi : e.on = i) : Waits ops i j
 | step {j : Nat} {oj : Oper} {e : Edge} (hj : ops[j]? = some oj) (he : e ∈ oj.after) (hb : Region.binds .any e = true) (h : Waits ops i e.on) : Waits ops i j
theorem Waits.late {listed : Array Bool} {i : Nat} (hc : Closed ops listed) (hi : listed.getD i false = false) {j : Nat} (h : Waits ops i j) : j ∉ Region.ready .any ops listed ∧ listed.getD j false = false := by
 induction h with
 | @direct j oj e hj he hb hon =>
  have hno : listed.getD e.on false = false := by rw [hon]; exact hi
  constructor
  ·intro hr
   obtain ⟨_, o', ho', hall⟩ := mem_ready.1 hr
   have : o' = oj := Option.some.inj (ho'.symm.trans hj)
   subst this
   have := hall e he hb
   rw [hno] at this; cases this
  ·cases hl : listed.getD j false with
   | false => rfl
   | true => have := hc j oj hj hl e he hb; rw [hno] at this; cases this
 | @step j oj e hj he hb _ ih =>
  have hno := ih.2
  constructor
  ·intro hr
   obtain ⟨_, o', ho', hall⟩ := mem_ready.1 hr
   have : o' = oj := Option.some.inj (ho'.symm.trans hj)
   subst this
   have := hall e he hb
   rw [hno] at this; cases this
  ·cases hl : listed.getD j false with
   | false => rfl
   | true => have := hc j oj hj hl e he hb; rw [hno] at this; cases this
abbrev Cls := World → Prop
def StepC (P : Program) (ops : Array Oper) (eff : Nat → Bool) (Q : Exit → Act → World → Prop) (i : Nat) (K : Act → (Nat → Cls) → Cls → Prop) (a : Act) (S : Nat → Cls) (C : Cls) : Prop :=
 ∃ o, ops[i]? = some o ∧
  ((eff i = false ∧ ∃ v, YldC P ops C o v a ∧ K (a.put o.dst v) S C) ∨
   (eff i = true ∧ ∀ w, C w → wpOp P ops (QP Q) i (fun a' w' => ∃ (S' : Nat → Cls) (C' : Cls), C' w' ∧ (∀ k x, C' x → S' k x) ∧ (∀ k, ¬ Waits ops k i → ∀ x, S' k x → S k x) ∧ K a' S' C') a w))
def AnyC (P : Program) (ops : Array Oper) (eff : Nat → Bool) (Q : Exit → Act → World → Prop) : Nat → Array Bool → Act → (Nat → Cls) → Cls → Prop
 | 0, listed, a, _, C => Region.ready .any ops listed = [] ∧ ∀ w, C w → Q .normal a w
 | f + 1, listed, a, S, C => (Region.ready .any ops listed = [] → ∀ w, C w → Q .normal a w) ∧
  ∀ i ∈ Region.ready .any ops listed, StepC P ops eff Q i (AnyC P ops eff Q f (listed.setIfInBounds i true)) a S C
theorem AnyC.anyIn {r : Option Nat} {eff : Nat → Bool} {Q : Exit → Act → World → Prop} (hn : ∀ o ∈ ops.toList, r = none ∨ ndOp o = true) : ∀ (f : Nat) (listed : Array Bool) (a : Act) (S : Nat → Cls) (C : Cls) (w : World), C w → AnyC P ops eff Q f listed a S C → wpAnyIn (Fz r) 0 P .any ops Q f listed a w
 | 0, _, _, _, _, w, hw, h => ⟨h.1, h.2 w hw⟩
 | f + 1, listed, a, S, C, w, hw, h => by
  refine ⟨fun h0 => h.1 h0 w hw, fun i hi => ?_⟩
  obtain ⟨o, ho, ⟨_, v, h2, h3⟩ | ⟨_, h2⟩⟩ := h.2 i hi
  ·exact wpOp_in hn (h2.wpOp (Q := QP Q) ho hw (AnyC.anyIn hn f _ _ _ _ w hw h3))
  ·exact wpOp_in hn (wpOp_mono (fun a' w' ⟨S', C', q1, _, _, q4⟩ => AnyC.anyIn hn f _ _ _ _ w' q1 q4) (h2 w hw))
def maskOf (ms : List Nat) (es : List Edge) : Nat := es.foldl (fun s e => if Region.binds .any e then s ||| 2 ^ e.on ||| ms.getD e.on 0 else s) 0
def masks (ops : Array Oper) : Nat → List Nat
 | 0 => []
 | k + 1 => masks ops k ++ [match ops[k]? with | some o => maskOf (masks ops k) o.after.toList | none => 0]
theorem masks_length : ∀ k, (masks ops k).length = k
 | 0 => rfl
 | k + 1 => by simp [masks, masks_length k]
theorem maskOf_bit (ms : List Nat) (i : Nat) : ∀ (es : List Edge) (s : Nat), (es.foldl (fun s e => if Region.binds .any e then s ||| 2 ^ e.on ||| ms.getD e.on 0 else s) s).testBit i = true →
 s.testBit i = true ∨ ∃ e ∈ es, Region.binds .any e = true ∧ (e.on = i ∨ (ms.getD e.on 0).testBit i = true)
 | [], _, h => .inl h
 | e :: es, s, h => by
  rcases maskOf_bit ms i es _ h with h1 | ⟨x, hx, h1⟩
  ·dsimp only at h1
   by_cases hb : Region.binds .any e = true
   ·rw [if_pos hb] at h1
    rw [Nat.testBit_or, Nat.testBit_or] at h1
    simp only [Bool.or_eq_true] at h1
    rcases h1 with (h1 | h1) | h1
    ·exact .inl h1
    ·refine .inr ⟨e, by simp, hb, .inl ?_⟩
     rw [Nat.testBit_two_pow] at h1
     simpa using h1
    ·exact .inr ⟨e, by simp, hb, .inr h1⟩
   ·rw [if_neg hb] at h1; exact .inl h1
  ·exact .inr ⟨x, by simp [hx], h1⟩
theorem masks_waits {i : Nat} : ∀ (k j : Nat), ((masks ops k).getD j 0).testBit i = true → Waits ops i j
 | 0, j, h => by simp [masks] at h
 | k + 1, j, h => by
  simp only [masks, List.getD_eq_getElem?_getD] at h
  rcases Nat.lt_trichotomy j k with hj | hj | hj
  ·rw [List.getElem?_append_left (by rw [masks_length]; exact hj)] at h
   exact masks_waits k j (by rw [List.getD_eq_getElem?_getD]; exact h)
  ·subst hj
   rw [List.getElem?_append_right (by rw [masks_length]; omega), masks_length] at h
   simp only [Nat.sub_self, List.getElem?_cons_zero, Option.getD_some] at h
   split at h
   ·rename_i o ho
    rcases maskOf_bit _ i _ _ h with h1 | ⟨e, he, hb, h1⟩
    ·simp at h1
    ·rcases h1 with h1 | h1
     ·exact .direct ho (by simpa using he) hb h1
     ·exact .step ho (by simpa using he) hb (masks_waits j e.on h1)
   ·simp at h
  ·rw [List.getElem?_eq_none (by simp [masks_length]; omega)] at h
   simp at h
theorem getD_tf {listed : Array Bool} {i : Nat} (h : listed.getD i true = false) : listed.getD i false = false := by
 rcases Nat.lt_or_ge i listed.size with h' | h'
 ·simp [h'] at h ⊢; exact h
 ·simp [Array.getElem?_eq_none h'] at h
theorem AnyC.first {eff : Nat → Bool} {Q : Exit → Act → World → Prop} {i : Nat} {oi : Oper} {v : Value} (hi : ops[i]? = some oi) (hei : eff i = false) (hsel : ∀ (j : Nat) (o : Oper) cs b, ops[j]? = some o → o.op ≠ .select cs b) :
 ∀ (f : Nat) (listed : Array Bool) (a : Act) (S : Nat → Cls) (C : Cls), (∀ k w, C w → S k w) → Closed ops listed →
  (∀ j oj, ops[j]? = some oj → j ≠ i → listed.getD j true = false → (∀ e ∈ oj.after, Region.binds .any e = true → e.on ≠ i) → oi.apart ops oj = true) →
  i ∈ Region.ready .any ops listed →
  (YldC P ops (S i) oi v a ∨ (YldC P ops C oi v a ∧ ∀ j, eff j = true → listed.getD j true = false → Waits ops i j)) →
  AnyC P ops eff Q f (listed.setIfInBounds i true) (a.put oi.dst v) S C → AnyC P ops eff Q (f + 1) listed a S C := by
 intro f
 induction f with
 | zero =>
  intro listed a S C hcs _ _ hr hy H
  refine ⟨fun h => (by rw [h] at hr; cases hr), fun j hj => ?_⟩
  by_cases hji : j = i
  ·subst hji
   exact ⟨oi, hi, .inl ⟨hei, v, hy.elim (fun h => h.sub (hcs _)) (fun h => h.1), H⟩⟩
  ·have := ready_mono hj hji
   rw [H.1] at this; cases this
 | succ f ih =>
  intro listed a S C hcs hcl hfree hr hy H
  refine ⟨fun h => (by rw [h] at hr; cases hr), fun j hj => ?_⟩
  by_cases hji : j = i
  ·subst hji
   exact ⟨oi, hi, .inl ⟨hei, v, hy.elim (fun h => h.sub (hcs _)) (fun h => h.1), H⟩⟩
  ·obtain ⟨o', ho', hstep⟩ := H.2 j (ready_mono hj hji)
   obtain ⟨hjun, oj, hoj, hall⟩ := mem_ready.1 hj
   have hoe : o' = oj := Option.some.inj (ho'.symm.trans hoj)
   subst hoe
   have hiun := (mem_ready.1 hr).1
   have hnot : ∀ e ∈ o'.after, Region.binds .any e = true → e.on ≠ i := fun e he hb heq => by
    have h1 := hall e he hb
    rw [heq, getD_tf hiun] at h1; cases h1
   have hap := hfree j o' hoj hji hjun hnot
   obtain ⟨h1, h2, h3⟩ := Oper.apart_spec hap
   have hsi := fun cs b => hsel i oi cs b hi
   have hsj := fun cs b => hsel j o' cs b hoj
   have hfree' : ∀ k ok, ops[k]? = some ok → k ≠ i → (listed.setIfInBounds j true).getD k true = false →
    (∀ e ∈ ok.after, Region.binds .any e = true → e.on ≠ i) → oi.apart ops ok = true := fun k ok hk hki hun hno => by
    refine hfree k ok hk hki ?_ hno
    by_cases hjk : j = k
    ·subst hjk; exact hjun
    ·rw [getD_set_ne true hjk] at hun; exact hun
   have hcl' := hcl.set hj
   have hr' := ready_mono hr (Ne.symm hji)
   have keep : ∀ {C' : Cls} (a' : Act) (u : Value), YldC P ops C' oi v a' → YldC P ops C' oi v (a'.put o'.dst u) := fun a' u hy => hy.of_same (execOp_put oi hsi a' o'.dst u h3) (wanted_put oi a' o'.dst u h3)
   have hpin' : ∀ (q : ∀ k, eff k = true → listed.getD k true = false → Waits ops i k), ∀ k, eff k = true → (listed.setIfInBounds j true).getD k true = false → Waits ops i k := fun q k hk hun => by
    refine q k hk ?_
    by_cases hjk : j = k
    ·subst hjk; exact hjun
    ·rw [getD_set_ne true hjk] at hun; exact hun
   refine ⟨o', hoj, ?_⟩
   rcases hstep with ⟨hej, u, hu, hK⟩ | ⟨hej, hE⟩
   ·refine .inl ⟨hej, u, ?_, ?_⟩
    ·exact hu.of_same (execOp_put o' hsj a oi.dst v h1).symm (wanted_put o' a oi.dst v h1).symm
    ·refine ih (listed.setIfInBounds j true) (a.put o'.dst u) S C hcs hcl' hfree' hr' ?_ ?_
     ·rcases hy with hy | ⟨hy, hp⟩
      ·exact .inl (keep a u hy)
      ·exact .inr ⟨keep a u hy, hpin' hp⟩
     ·rw [Array.setIfInBounds_comm _ _ hji, ← Act.put_comm a v u h2]; exact hK
   ·rcases hy with hy | ⟨_, hp⟩
    ·refine .inr ⟨hej, fun w hw => ?_⟩
     have hE' := hE w hw
     -- the change, with i's value not yet in its slot
     have key : wpOp P ops (QP Q) j (fun a' w' => YldC P ops (S i) oi v a' ∧ ∃ (S' : Nat → Cls) (C' : Cls), C' w' ∧ (∀ k x, C' x → S' k x) ∧ (∀ k, ¬ Waits ops k j → ∀ x, S' k x → S k x) ∧ AnyC P ops eff Q f ((listed.setIfInBounds i true).setIfInBounds j true) (a'.put oi.dst v) S' C') a w := by
      unfold wpOp at hE' ⊢
      simp only [hoj] at hE' ⊢
      rw [wanted_put o' a oi.dst v h1] at hE'
      split
      ·rename_i hwt
       simp only [hwt, if_true] at hE'
       rcases hE' with hE' | ⟨_, _, _, h⟩
       case inr => exact h.elim
       refine .inl ?_
       unfold Oper.wp at *
       rw [execOp_put o' hsj a oi.dst v h1] at hE'
       generalize (execOp a.eval o').run P w = r at *
       cases r with
       | ok nx w' =>
        cases nx <;> simp only [Oper.upon] at hE' ⊢
        case value u => exact ⟨keep a u hy, by rw [← Act.put_comm a v u h2]; exact hE'⟩
        case skip => exact ⟨keep a _ hy, by rw [← Act.put_comm a v undef h2]; exact hE'⟩
        case defer d =>
         refine ⟨keep _ _ (hy.of_same J J), ?_⟩
         rw [← Act.put_comm _ v undef h2, ← Act.put_defers]; exact hE'
        case enter g args =>
         refine Calls.mono hE' fun x w'' he => ?_
         cases x with
         | returned u => exact ⟨keep a u hy, by rw [← Act.put_comm a v u h2]; exact he⟩
         | panicked c => exact QP.put he
         | outgrown => exact he
        case row row args => exact Rows.mono hE' fun u w'' he => ⟨keep a u hy, by rw [← Act.put_comm a v u h2]; exact he⟩
       | halt x w' =>
        cases x <;> simp only [Oper.upon] at hE' ⊢
        case panic u => exact QP.put hE'
      ·rename_i hwt
       simp only [hwt] at hE'
       exact ⟨keep a _ hy, by rw [← Act.put_comm a v undef h2]; exact hE'⟩
     refine wpOp_mono (fun a' w' ⟨hy', S', C', q1, q2, q3, q4⟩ => ⟨S', C', q1, q2, q3, ?_⟩) key
     refine ih (listed.setIfInBounds j true) a' S' C' q2 hcl' hfree' hr' (.inl (hy'.sub (q3 i fun hw => (hw.late hcl (getD_tf hiun)).1 hj))) ?_
     rw [Array.setIfInBounds_comm _ _ hji]; exact q4
    ·exact absurd hj ((hp j hej hjun).late hcl (getD_tf hiun)).1
/-! ### plans -/
inductive Plan where
 | done
 | lo (i : Nat) (pin : Nat) (p : Plan)
 | eff1 (i : Nat) (rel : Bool) (p : Plan)
 | eff2 (i : Nat) (rel : Bool) (p : Plan) (j : Nat) (rel' : Bool) (q : Plan)
def Plan.len : Plan → Nat
 | .done => 0
 | .lo _ _ p => p.len + 1
 | .eff1 _ _ p => p.len + 1
 | .eff2 _ _ p _ _ _ => p.len + 1
def relB (ms : List Nat) (lt : List Nat) (i : Nat) (rel : Bool) : Bool := !rel || lt.all fun k => (ms.getD i 0).testBit k
def planB (ops : Array Oper) (ms : List Nat) (effs lt : List Nat) : Plan → Array Bool → Bool
 | .done, l => (Region.ready .any ops l).isEmpty
 | .lo i pin p, l => !effs.contains i && (Region.ready .any ops l).contains i && Region.free .any ops l i &&
  (match pin with | 0 => !lt.contains i | 1 => effs.all fun j => l.getD j true || (ms.getD j 0).testBit i | _ => lt.contains i) && planB ops ms effs lt p (l.setIfInBounds i true)
 | .eff1 i rel p, l => effs.contains i && decide (Region.ready .any ops l = [i]) && relB ms lt i rel && planB ops ms effs lt p (l.setIfInBounds i true)
 | .eff2 i rel p j rel' q, l => effs.contains i && effs.contains j && decide (Region.ready .any ops l = [i, j]) && decide (q.len = p.len) && relB ms lt i rel && relB ms lt j rel' &&
  planB ops ms effs lt p (l.setIfInBounds i true) && planB ops ms effs lt q (l.setIfInBounds j true)
def planTop (ops : Array Oper) (effs lt : List Nat) (p : Plan) : Bool :=
 Region.noSelect ops && decide (p.len = ops.size) && planB ops (masks ops ops.size) effs lt p (Array.replicate ops.size false)
def relL (rel : Bool) (L : List HProp) : List HProp := match rel with | true => [] | false => L
def KL (W0 : World) (lt : List Nat) (K L : List HProp) (i : Nat) : Cls := fun w => match lt.contains i with | true => Sat W0 L w | false => Sat W0 K w
end
section
variable (P : Program) (W0 : World) (n : Nat) (ds : List Deferred) (ops : Array Oper) (effs lt : List Nat) (Q : Exit → Act → World → Prop)
def DG (p : Plan) (e : Env) (K L G : List HProp) : Prop := ∀ (l : Array Bool) (a : Act) (f : Nat), Region.noSelect ops = true → planB ops (masks ops ops.size) effs lt p l = true → Closed ops l → At n ds e a → Imp G K → Imp G L →
 AnyC P ops (fun i => effs.contains i) Q (f + p.len) l a (KL W0 lt K L) (Sat W0 G)
end
section
variable {P : Program} {W0 : World} {n : Nat} {ds : List Deferred} {ops : Array Oper} {effs lt : List Nat} {Q : Exit → Act → World → Prop} {e : Env} {K L G : List HProp}
theorem KL.of {w : World} (h : Sat W0 G w) (hK : Imp G K) (hL : Imp G L) (i : Nat) : KL W0 lt K L i w := by
 unfold KL; split
 ·exact h.imp hL
 ·exact h.imp hK
def guardS (ops : Array Oper) (e : Env) (o : Oper) : Option Bool :=
 match o.guard with
 | none => some true
 | some (j, want) => match (ops[j]?).bind (·.dst) with
  | some t => match e.get t with
   | some (.bool b) => some (b == want)
   | some _ => some false
   | none => none
  | none => none
theorem guardS_spec {o : Oper} {b : Bool} {a : Act} (h : guardS ops e o = some b) (ha : At n ds e a) : Region.wanted o (yielded ops a.tmps) = b := by
 unfold guardS at h
 split at h
 ·rename_i hg; simp only [Option.some.injEq] at h; subst h; simp [Region.wanted, hg]
 ·rename_i j want hg
  split at h
  ·rename_i t ht
   split at h
   ·rename_i b' hv
    simp only [Option.some.injEq] at h
    subst h
    have h2 := ha.slot t _ hv
    have hy : yielded ops a.tmps j = some b' := by
     unfold yielded
     rw [ht]
     simp only [Option.bind_some]
     by_cases hlt : t < a.tmps.size
     ·simp only [Array.getD, hlt, dif_pos] at h2
      rw [Array.getElem?_eq_getElem hlt]
      have : a.tmps[t] = .bool b' := h2
      rw [this]
     ·simp only [Array.getD, hlt, dif_neg, not_false_eq_true] at h2; cases h2
    simp only [Region.wanted, hg, hy]
    cases b' <;> cases want <;> rfl
   ·rename_i v hne hv
    simp only [Option.some.injEq] at h
    subst h
    have h2 := ha.slot t _ hv
    have hy : yielded ops a.tmps j = none := by
     unfold yielded
     rw [ht]
     simp only [Option.bind_some]
     by_cases hlt : t < a.tmps.size
     ·simp only [Array.getD, hlt, dif_pos] at h2
      rw [Array.getElem?_eq_getElem hlt]
      have : a.tmps[t] = v := h2
      rw [this]
      cases v <;> first | rfl | (rename_i b; exact absurd J (hne b))
     ·rw [Array.getElem?_eq_none (Nat.le_of_not_lt hlt)]
    simp [Region.wanted, hg, hy]
   ·cases h
  ·cases h
theorem qQ (k : QG W0 n ds Q .normal e G) : DG P W0 n ds ops effs lt Q .done e K L G := fun l a f _ hB _ ha _ _ => by
 have hr : Region.ready .any ops l = [] := by simpa [planB] using hB
 cases f with
 | zero => exact ⟨hr, fun w hw => k a w ha hw⟩
 | succ f => exact ⟨fun _ w hw => k a w ha hw, fun i hi => by rw [hr] at hi; cases hi⟩
def pinG (pin : Nat) (K L G : List HProp) : List HProp := match pin with | 0 => K | 1 => G | _ => L
theorem look_ok {i pin : Nat} {p : Plan} {l : Array Bool} (hB : planB ops (masks ops ops.size) effs lt (.lo i pin p) l = true) {o : Oper} {v : Value} {a : Act} (h : YldC P ops (Sat W0 (pinG pin K L G)) o v a) :
 YldC P ops (KL W0 lt K L i) o v a ∨ (YldC P ops (Sat W0 G) o v a ∧ ∀ j, effs.contains j = true → l.getD j true = false → Waits ops i j) := by
 simp only [planB, Bool.and_eq_true] at hB
 have h4 := hB.1.2
 match pin, h, h4 with
 | 0, h, h4 =>
  refine .inl (h.sub fun w hw => ?_)
  have h5 : lt.contains i = false := by simpa using h4
  unfold KL at hw; rw [h5] at hw; exact hw
 | 1, h, h4 =>
  refine .inr ⟨h, fun j hj hun => ?_⟩
  simp only [List.all_eq_true, Bool.or_eq_true] at h4
  rcases h4 j (by simpa using hj) with h | h
  ·rw [hun] at h; cases h
  ·exact masks_waits _ j h
 | m + 2, h, h4 =>
  refine .inl (h.sub fun w hw => ?_)
  have h5 : lt.contains i = true := by simpa using h4
  unfold KL at hw; rw [h5] at hw; exact hw
theorem DG.look {i : Nat} {pin : Nat} {p : Plan} {d : Nat} {op : Op} {ty : TypeId} {pos : String} {af : Array Edge} {g : Option (Nat × Bool)} {v : Value} (ho : ops[i]? = some ⟨some d, op, ty, pos, af, g⟩)
 (hg : guardS ops e ⟨some d, op, ty, pos, af, g⟩ = some true) (hy : Yield P W0 op ty e (pinG pin K L G) v) (hd : Nat.ble (d + 1) n = true) (k : DG P W0 n ds ops effs lt Q p ((d, v) :: e) K L G) : DG P W0 n ds ops effs lt Q (.lo i pin p) e K L G := fun l a f hs hB hcl ha hGK hGL => by
 have hB' := hB
 simp only [planB, Bool.and_eq_true, Bool.not_eq_true'] at hB
 obtain ⟨⟨⟨⟨h1, h2⟩, h3⟩, _⟩, h5⟩ := hB
 have hr : i ∈ Region.ready .any ops l := by simpa using h2
 have hw := guardS_spec hg ha
 have hwd : Region.wanted ⟨some d, op, ty, pos, af, g⟩ (yielded ops a.tmps) = true := hw
 refine AnyC.first ho (by simpa using h1) (Region.noSelect_spec hs) (f + p.len) l a _ _ (fun k w hw => KL.of hw hGK hGL k) hcl (Region.free_spec ho h3) hr (v := v) ?_ ?_
 ·exact look_ok hB' (.inl ⟨hwd, fun w hw' => hy a.eval ha.agrees w hw' _ _ _ _⟩)
 ·exact k _ _ f hs h5 (hcl.set hr) (ha.put (Nat.le_of_ble_eq_true hd)) hGK hGL
theorem lQ {i : Nat} {pin : Nat} {p : Plan} {d : Nat} {op : Op} {ty : TypeId} {pos : String} {af : Array Edge} {g : Option (Nat × Bool)} (ho : ops[i]? = some ⟨some d, op, ty, pos, af, g⟩)
 (hg : guardS ops e ⟨some d, op, ty, pos, af, g⟩ = some false) (hd : Nat.ble (d + 1) n = true) (k : DG P W0 n ds ops effs lt Q p ((d, undef) :: e) K L G) : DG P W0 n ds ops effs lt Q (.lo i pin p) e K L G := fun l a f hs hB hcl ha hGK hGL => by
 simp only [planB, Bool.and_eq_true, Bool.not_eq_true'] at hB
 obtain ⟨⟨⟨⟨h1, h2⟩, h3⟩, h4⟩, h5⟩ := hB
 have hr : i ∈ Region.ready .any ops l := by simpa using h2
 have hw : Region.wanted ⟨some d, op, ty, pos, af, g⟩ (yielded ops a.tmps) = false := guardS_spec hg ha
 refine AnyC.first ho (by simpa using h1) (Region.noSelect_spec hs) (f + p.len) l a _ _ (fun k w hw => KL.of hw hGK hGL k) hcl (Region.free_spec ho h3) hr (v := undef) (.inl (.inr ⟨hw, rfl⟩)) ?_
 exact k _ _ f hs h5 (hcl.set hr) (ha.put (Nat.le_of_ble_eq_true hd)) hGK hGL
def putE (e : Env) : Option Nat → Value → Env
 | some d, v => (d, v) :: e
 | none, _ => e
def fitsE (n : Nat) : Option Nat → Bool
 | some d => Nat.ble (d + 1) n
 | none => true
theorem At.putE {a : Act} (h : At n ds e a) {dst : Option Nat} {v : Value} (hd : fitsE n dst = true) : At n ds (Sl.putE e dst v) (a.put dst v) := by
 cases dst with
 | none => exact h
 | some d => exact h.put (Nat.le_of_ble_eq_true hd)
def Chg (P : Program) (W0 : World) (n : Nat) (ds : List Deferred) (ops : Array Oper) (effs lt : List Nat) (Q : Exit → Act → World → Prop) (i : Nat) (rel : Bool) (p : Plan) (e : Env) (K L G : List HProp) : Prop :=
 ∃ o, ops[i]? = some o ∧ ∀ a, At n ds e a → ∀ w, Sat W0 G w → wpOp P ops (QP Q) i (fun a' w' => ∃ (e' : Env) (K' G' : List HProp), At n ds e' a' ∧ Sat W0 G' w' ∧ Imp G' K' ∧ Imp K' K ∧ Imp G' (relL rel L) ∧ DG P W0 n ds ops effs lt Q p e' K' (relL rel L) G') a w
theorem vQ {i : Nat} {rel : Bool} {p : Plan} {dst : Option Nat} {op : Op} {ty : TypeId} {pos : String} {af : Array Edge} {g : Option (Nat × Bool)} {α : Type} {φ : α → Prop} {v : α → Value} {G' : α → List HProp} {K' : α → List HProp} (ho : ops[i]? = some ⟨dst, op, ty, pos, af, g⟩)
 (hg : guardS ops e ⟨dst, op, ty, pos, af, g⟩ = some true) (hy : Eff P W0 op ty e G φ v G') (hd : fitsE n dst = true) (hk : ∀ x, Imp (G' x) (K' x)) (hk' : ∀ x, Imp (K' x) K) (hl : ∀ x, Imp (G' x) (relL rel L))
 (k : ∀ x, φ x → DG P W0 n ds ops effs lt Q p (putE e dst (v x)) (K' x) (relL rel L) (G' x)) : Chg P W0 n ds ops effs lt Q i rel p e K L G := by
 refine ⟨_, ho, fun a ha w hw => ?_⟩
 unfold wpOp
 simp only [ho]
 rw [if_pos (guardS_spec hg ha)]
 refine .inl ?_
 unfold Oper.wp
 obtain ⟨x, w', hx, hs, hr | ⟨hr, hu⟩⟩ := hy a.eval ha.agrees w hw dst pos af g
 ·rw [hr, Oper.upon_value]; exact ⟨_, _, _, ha.putE hd, hs, hk x, hk' x, hl x, k x hx⟩
 ·rw [hr, Oper.upon_skip, ← hu]; exact ⟨_, _, _, ha.putE hd, hs, hk x, hk' x, hl x, k x hx⟩
theorem kQ {i : Nat} {rel : Bool} {p : Plan} {dst : Option Nat} {ty : TypeId} {pos : String} {af : Array Edge} {g : Option (Nat × Bool)} {f : FuncId} {args : List Operand} {ats : Array TypeId} {vs : List Value} {G1 : List HProp} {α : Type} {φ : α → Prop} {v : α → Value} {G' K' : α → List HProp}
 (ho : ops[i]? = some ⟨dst, .call { callee := .value (.func f), args := args.toArray, argTypes := ats }, ty, pos, af, g⟩) (hg : guardS ops e ⟨dst, .call { callee := .value (.func f), args := args.toArray, argTypes := ats }, ty, pos, af, g⟩ = some true)
 (hc : CallOK P f) (ha : e.evs args = some vs) (hi : Imp G G1) (hs : Ctr P W0 f vs G1 φ v G') (hd : fitsE n dst = true) (hk : ∀ x, Imp (G' x) (K' x)) (hk' : ∀ x, Imp (K' x) K) (hl : ∀ x, Imp (G' x) (relL rel L))
 (k : ∀ x, φ x → DG P W0 n ds ops effs lt Q p (putE e dst (v x)) (K' x) (relL rel L) (G' x)) : Chg P W0 n ds ops effs lt Q i rel p e K L G := by
 obtain ⟨fn, c, hf, hb, hn⟩ := hc
 refine ⟨_, ho, fun a hat w hw => ?_⟩
 unfold wpOp
 simp only [ho]
 rw [if_pos (guardS_spec hg hat)]
 refine .inl ?_
 unfold Oper.wp
 rw [run_call hf hb hn hat.agrees ha w, Oper.upon_enter]
 refine (hs w (hw.imp hi)).mono ?_
 rintro r w' ⟨x, hx, rfl, hs'⟩
 exact ⟨_, _, _, hat.putE hd, hs', hk x, hk' x, hl x, k x hx⟩
theorem Chg.pass {i : Nat} {rel : Bool} {p : Plan} {o : Oper} (ho : ops[i]? = some o) (hg : guardS ops e o = some false) (hd : fitsE n o.dst = true) (k : DG P W0 n ds ops effs lt Q p (putE e o.dst undef) K (relL rel L) G) (hGK : Imp G K) (hl : Imp G (relL rel L)) : Chg P W0 n ds ops effs lt Q i rel p e K L G := by
 refine ⟨_, ho, fun a hat w hw => ?_⟩
 unfold wpOp
 simp only [ho]
 rw [if_neg (by rw [guardS_spec hg hat]; simp)]
 exact ⟨_, _, _, hat.putE hd, hw, hGK, Imp.refl _, hl, k⟩
theorem rel_keep {i : Nat} {rel : Bool} {K' : List HProp} (h : relB (masks ops ops.size) lt i rel = true) (hK : Imp K' K) : ∀ k, ¬ Waits ops k i → ∀ x, KL W0 lt K' (relL rel L) k x → KL W0 lt K L k x := fun k hk x hx => by
 unfold KL at *
 cases hc : lt.contains k with
 | false => rw [hc] at hx; exact hx.imp hK
 | true =>
  rw [hc] at hx
  cases rel with
  | false => exact hx
  | true =>
   exfalso
   simp only [relB, Bool.not_true, Bool.false_or, List.all_eq_true] at h
   exact hk (masks_waits _ _ (h k (by simpa using hc)))
theorem zZ {i : Nat} {rel : Bool} {p : Plan} (h : Chg P W0 n ds ops effs lt Q i rel p e K L G) : DG P W0 n ds ops effs lt Q (.eff1 i rel p) e K L G := fun l a f hs hB hcl ha hGK hGL => by
 simp only [planB, Bool.and_eq_true, decide_eq_true_eq] at hB
 obtain ⟨⟨⟨h1, h2⟩, hrel⟩, h3⟩ := hB
 obtain ⟨o, ho, hE⟩ := h
 show AnyC P ops _ Q ((f + p.len) + 1) l a _ _
 refine ⟨fun h0 => (by rw [h2] at h0; cases h0), fun j hj => ?_⟩
 rw [h2] at hj
 obtain rfl : j = i := by simpa using hj
 have hr : j ∈ Region.ready .any ops l := by rw [h2]; simp
 refine ⟨o, ho, .inr ⟨h1, fun w hw => wpOp_mono (fun a' w' ⟨e', K', G', q1, q2, q3, q4, q6, q5⟩ => ?_) (hE a ha w hw)⟩⟩
 exact ⟨KL W0 lt K' (relL rel L), Sat W0 G', q2, fun k x hx => KL.of hx q3 q6 k, rel_keep hrel q4, q5 _ _ f hs h3 (hcl.set hr) q1 q3 q6⟩
theorem DG.eff2 {i j : Nat} {rel rel' : Bool} {p q : Plan} (h : Chg P W0 n ds ops effs lt Q i rel p e K L G) (h' : Chg P W0 n ds ops effs lt Q j rel' q e K L G) : DG P W0 n ds ops effs lt Q (.eff2 i rel p j rel' q) e K L G := fun l a f hs hB hcl ha hGK hGL => by
 simp only [planB, Bool.and_eq_true, decide_eq_true_eq] at hB
 obtain ⟨⟨⟨⟨⟨⟨⟨h1, h1'⟩, h2⟩, h4⟩, hrel⟩, hrel'⟩, h3⟩, h3'⟩ := hB
 show AnyC P ops _ Q ((f + p.len) + 1) l a _ _
 refine ⟨fun h0 => (by rw [h2] at h0; cases h0), fun m hm => ?_⟩
 have hr := hm
 rw [h2] at hm
 simp only [List.mem_cons, List.not_mem_nil, or_false] at hm
 rcases hm with rfl | rfl
 ·obtain ⟨o, ho, hE⟩ := h
  refine ⟨o, ho, .inr ⟨h1, fun w hw => wpOp_mono (fun a' w' ⟨e', K', G', q1, q2, q3, q4, q6, q5⟩ => ?_) (hE a ha w hw)⟩⟩
  exact ⟨KL W0 lt K' (relL rel L), Sat W0 G', q2, fun k x hx => KL.of hx q3 q6 k, rel_keep hrel q4, q5 _ _ f hs h3 (hcl.set hr) q1 q3 q6⟩
 ·obtain ⟨o, ho, hE⟩ := h'
  refine ⟨o, ho, .inr ⟨h1', fun w hw => wpOp_mono (fun a' w' ⟨e', K', G', q1, q2, q3, q4, q6, q5⟩ => ?_) (hE a ha w hw)⟩⟩
  exact ⟨KL W0 lt K' (relL rel' L), Sat W0 G', q2, fun k x hx => KL.of hx q3 q6 k, rel_keep hrel' q4, by have := q5 _ _ f hs h3' (hcl.set hr) q1 q3 q6; rw [h4] at this; exact this⟩
theorem sQ {r : Option Nat} {id : Nat} {l : List Oper} (p : Plan) (effs lt : List Nat) (K L : List HProp) (hm : P.follows .mixedOrders = true) (hB : planTop l.toArray effs lt p = true) (hK : Imp G K) (hL : Imp G L) (k : DG P W0 n ds l.toArray effs lt Q p e K L G) (hd : ndB r l = true := by rfl) :
 CG r P W0 n ds (.region id l.toArray true) Q e G := fun a w ha hw => by
 simp only [planTop, Bool.and_eq_true, decide_eq_true_eq] at hB
 obtain ⟨⟨h1, h2⟩, h3⟩ := hB
 refine wpIn_region_any hm ?_
 have := k _ a 0 h1 h3 (fun j oj _ hl => by
  rw [show (Array.replicate l.toArray.size false).getD j false = false by
   rcases Nat.lt_or_ge j l.length with h | h <;> simp [h]] at hl
  cases hl) ha hK hL
 rw [Nat.zero_add, h2] at this
 exact AnyC.anyIn (by rw [List.toList_toArray]; exact nd_of hd) _ _ _ _ _ _ (hw.draw _) this
end
end Go.Sl
namespace Go.Sl
section
variable {P : Program} {W0 : World} {n : Nat} {ds : List Deferred} {ops : Array Oper} {effs lt : List Nat} {Q : Exit → Act → World → Prop} {rest : List Oper} {e : Env} {K L G : List HProp} {d : Nat} {ty : TypeId} {pos : String} {af : Array Edge} {v : Value}
theorem cZ {op : Op} (hy : Yield P W0 op ty e G v) (k : OG P W0 n ds ops Q rest ((d, v) :: e) G) (hd : Nat.ble (d + 1) n = true := by exact rfl) : OG P W0 n ds ops Q (⟨some d, op, ty, pos, af, none⟩ :: rest) e G := OG.yield hy hd k
theorem dZ {x : Operand} (h : e.ev x = some v) (k : OG P W0 n ds ops Q rest ((d, v) :: e) G) (hd : Nat.ble (d + 1) n = true := by exact rfl) : OG P W0 n ds ops Q (⟨some d, .move x, ty, pos, af, none⟩ :: rest) e G := OG.yield (Yield.move h) hd k
theorem gZ {x : Operand} (h : e.ev x = some v) (k : OG P W0 n ds ops Q rest ((d, v) :: e) G) (hd : Nat.ble (d + 1) n = true := by exact rfl) : OG P W0 n ds ops Q (⟨some d, .assign x, ty, pos, af, none⟩ :: rest) e G := OG.yield (hQ h) hd k
theorem cQ {x : Operand} {a : Addr} (h : e.ev x = some (.pointer (some a))) (k : OG P W0 n ds ops Q rest ((d, .pointer (some a)) :: e) G) (hd : Nat.ble (d + 1) n = true := by exact rfl) : OG P W0 n ds ops Q (⟨some d, .nilCheck x, ty, pos, af, none⟩ :: rest) e G := OG.yield (Yield.nilCheck h) hd k
theorem pZ {s f o : Nat} {x : Operand} {b p : Nat} (hf : FieldAt P s f o) (h : e.ev x = some (.pointer (some ⟨b, p, none⟩))) (k : OG P W0 n ds ops Q rest ((d, .pointer (some ⟨b, p + o, none⟩)) :: e) G) (hd : Nat.ble (d + 1) n = true := by exact rfl) : OG P W0 n ds ops Q (⟨some d, .fieldAddr s x f, ty, pos, af, none⟩ :: rest) e G := OG.yield (Yield.fieldAddr hf h) hd k
theorem iZ {o : Oper} {j t : Nat} {want : Bool} (hg : o.guard = some (j, want)) (ht : (ops[j]?).bind (·.dst) = some t) (k : OG P W0 n ds ops Q ({ o with guard := none } :: rest) e G) (hv : e.get t = some (.bool want) := by exact rfl) (hn : t < n := by decide) : OG P W0 n ds ops Q (o :: rest) e G := OG.guard_yes hg ht hv hn k
end
section
variable {P : Program} {W0 : World} {n : Nat} {ds : List Deferred} {ops : Array Oper} {effs lt : List Nat} {Q : Exit → Act → World → Prop} {e : Env} {K L G : List HProp} {i pin : Nat} {p : Plan} {d : Nat} {ty : TypeId} {pos : String} {af : Array Edge} {g : Option (Nat × Bool)} {v : Value}
theorem kZ {op : Op} (ho : ops[i]? = some ⟨some d, op, ty, pos, af, g⟩) (hy : Yield P W0 op ty e (pinG pin K L G) v) (k : DG P W0 n ds ops effs lt Q p ((d, v) :: e) K L G) (hg : guardS ops e ⟨some d, op, ty, pos, af, g⟩ = some true := by exact rfl) (hd : Nat.ble (d + 1) n = true := by exact rfl) : DG P W0 n ds ops effs lt Q (.lo i pin p) e K L G := DG.look ho hg hy hd k
theorem mZ {x : Operand} (ho : ops[i]? = some ⟨some d, .move x, ty, pos, af, g⟩) (h : e.ev x = some v) (k : DG P W0 n ds ops effs lt Q p ((d, v) :: e) K L G) (hg : guardS ops e ⟨some d, .move x, ty, pos, af, g⟩ = some true := by exact rfl) (hd : Nat.ble (d + 1) n = true := by exact rfl) : DG P W0 n ds ops effs lt Q (.lo i pin p) e K L G := DG.look ho hg (Yield.move h) hd k
theorem rQ {x : Operand} {a : Addr} (ho : ops[i]? = some ⟨some d, .nilCheck x, ty, pos, af, g⟩) (h : e.ev x = some (.pointer (some a))) (k : DG P W0 n ds ops effs lt Q p ((d, .pointer (some a)) :: e) K L G) (hg : guardS ops e ⟨some d, .nilCheck x, ty, pos, af, g⟩ = some true := by exact rfl) (hd : Nat.ble (d + 1) n = true := by exact rfl) : DG P W0 n ds ops effs lt Q (.lo i pin p) e K L G := DG.look ho hg (Yield.nilCheck h) hd k
theorem aQ {s f o : Nat} {x : Operand} {b q : Nat} (ho : ops[i]? = some ⟨some d, .fieldAddr s x f, ty, pos, af, g⟩) (hf : FieldAt P s f o) (h : e.ev x = some (.pointer (some ⟨b, q, none⟩))) (k : DG P W0 n ds ops effs lt Q p ((d, .pointer (some ⟨b, q + o, none⟩)) :: e) K L G) (hg : guardS ops e ⟨some d, .fieldAddr s x f, ty, pos, af, g⟩ = some true := by exact rfl) (hd : Nat.ble (d + 1) n = true := by exact rfl) : DG P W0 n ds ops effs lt Q (.lo i pin p) e K L G := DG.look ho hg (Yield.fieldAddr hf h) hd k
end
end Go.Sl
namespace Go.Sl
open Go Go.RowKit
def env0 : Nat → List Value → Env
 | _, [] => []
 | i, v :: l => (i, v) :: env0 (i + 1) l
theorem env0_get : ∀ (l : List Value) (i t : Nat) (v : Value), (env0 i l).get t = some v → i ≤ t ∧ l[t - i]? = some v
 | [], _, _, _, h => by cases h
 | u :: l, i, t, v, h => by
  simp only [env0, Env.get] at h
  cases hb : Nat.beq t i with
  | true =>
   rw [hb] at h
   have := Nat.eq_of_beq_eq_true hb
   subst this
   simp only [cond_true, Option.some.injEq] at h
   subst h; simp
  | false =>
   rw [hb] at h
   obtain ⟨h1, h2⟩ := env0_get l (i + 1) t v h
   refine ⟨by omega, ?_⟩
   rw [show t - i = (t - (i + 1)) + 1 by omega]; simpa using h2
section
variable {P : Program} {W0 : World} {n : Nat} {e : Env} {G : List HProp}
theorem At.start {args : List Value} (h : args.length ≤ n) : At n [] (env0 0 args) { tmps := args.toArray ++ Array.replicate (n - args.toArray.size) undef, defers := [] } := by
 refine ⟨by simp; omega, fun t v ht => ?_, rfl⟩
 obtain ⟨_, h2⟩ := env0_get args 0 t v ht
 simp only [Nat.sub_zero] at h2
 have hlt : t < args.length := by
  rcases Nat.lt_or_ge t args.length with h1 | h1
  ·exact h1
  ·rw [List.getElem?_eq_none h1] at h2; cases h2
 simp only [Array.getD_eq_getD_getElem?]
 rw [Array.getElem?_append_left (by simpa using hlt)]
 simp [h2]
def RetP (W0 : World) {α : Type} (φ : α → Prop) (v : α → Value) (G' : α → List HProp) : Ending → World → Prop := fun r w' => ∃ x, φ x ∧ r = .returned (v x) ∧ Sat W0 (G' x) w'
theorem Ctr.of_body {f : FuncId} {fn : Func} {c : Code} {args : List Value} {α : Type} {φ : α → Prop} {v : α → Value} {G' : α → List HProp} (hf : P.funcs[f]? = some fn) (hb : fn.body = some c) (hn : fn.ntmps = n)
 (hl : Nat.ble args.length n = true) (k : CG none P W0 n [] c (bodyPost P fn (RetP W0 φ v G')) (env0 0 args) G) : Ctr P W0 f args G φ v G' := fun w hw => by
 subst hn
 exact calls_of_wp hf hb ((wpIn_wide (n := 0)).1 (k _ w (At.start (Nat.le_of_ble_eq_true hl)) hw))
theorem QG.ret0 {fn : Func} {α : Type} {φ : α → Prop} {v : α → Value} {G' : α → List HProp} (hr : fn.results = #[]) (x : α) (hx : φ x) (hv : v x = .tuple #[]) (hi : Imp G (G' x)) : QG W0 n [] (bodyPost P fn (RetP W0 φ v G')) .ret e G := fun a w ha hw =>
 ⟨ha.defers, _, results_none hr a.tmps P w, x, hx, by rw [hv], hw.imp hi⟩
theorem jV {fn : Func} {α : Type} {φ : α → Prop} {v : α → Value} {G' : α → List HProp} (hr : fn.results = #[]) (x : α) (hx : φ x) (hv : v x = .tuple #[]) (hi : Imp G (G' x)) : QG W0 n [] (bodyPost P fn (RetP W0 φ v G')) .normal e G := fun a w ha hw =>
 ⟨ha.defers, _, results_none hr a.tmps P w, x, hx, by rw [hv], hw.imp hi⟩
theorem xZ {fn : Func} {t : Nat} {u : Value} {α : Type} {φ : α → Prop} {v : α → Value} {G' : α → List HProp} (hr : fn.results = #[.tmp t]) (ht : e.get t = some u) (x : α) (hx : φ x) (hv : u = v x) (hi : Imp G (G' x)) : QG W0 n [] (bodyPost P fn (RetP W0 φ v G')) .ret e G := fun a w ha hw =>
 ⟨ha.defers, _, results_tmp hr a.tmps P w, x, hx, by rw [ha.slot t u ht, hv], hw.imp hi⟩
theorem pX {fn : Func} {t1 t2 : Nat} {u1 u2 : Value} {α : Type} {φ : α → Prop} {v : α → Value} {G' : α → List HProp} (hr : fn.results = #[.tmp t1, .tmp t2]) (h1 : e.get t1 = some u1) (h2 : e.get t2 = some u2) (x : α) (hx : φ x) (hv : v x = .tuple #[u1, u2]) (hi : Imp G (G' x)) : QG W0 n [] (bodyPost P fn (RetP W0 φ v G')) .ret e G := fun a w ha hw =>
 ⟨ha.defers, _, results_tmp2 hr a.tmps P w, x, hx, by rw [ha.slot t1 u1 h1, ha.slot t2 u2 h2, hv], hw.imp hi⟩
theorem QG.ret3 {fn : Func} {t1 t2 t3 : Nat} {u1 u2 u3 : Value} {α : Type} {φ : α → Prop} {v : α → Value} {G' : α → List HProp} (hr : fn.results = #[.tmp t1, .tmp t2, .tmp t3]) (h1 : e.get t1 = some u1) (h2 : e.get t2 = some u2) (h3 : e.get t3 = some u3) (x : α) (hx : φ x) (hv : v x = .tuple #[u1, u2, u3]) (hi : Imp G (G' x)) : QG W0 n [] (bodyPost P fn (RetP W0 φ v G')) .ret e G := fun a w ha hw =>
 ⟨ha.defers, .tuple #[u1, u2, u3], by
  have q1 := ha.slot t1 u1 h1; have q2 := ha.slot t2 u2 h2; have q3 := ha.slot t3 u3 h3
  simp only [Array.getD_eq_getD_getElem?] at q1 q2 q3
  simp [results, hr, q1, q2, q3, pure, Sem.run], x, hx, by rw [hv], hw.imp hi⟩
theorem OG.pure {ds : List Deferred} {ops : Array Oper} {Q : Exit → Act → World → Prop} {l : List Oper} {φ : Prop} (h : ∀ w, Sat W0 G w → φ) (k : φ → OG P W0 n ds ops Q l e G) : OG P W0 n ds ops Q l e G := fun a w ha hw => k (h w hw) a w ha hw
theorem kX {r : Option Nat} {ds : List Deferred} {Q : Exit → Act → World → Prop} {c : Code} {φ : Prop} (h : ∀ w, Sat W0 G w → φ) (k : φ → CG r P W0 n ds c Q e G) : CG r P W0 n ds c Q e G := fun a w ha hw => k (h w hw) a w ha hw
theorem Ctr.pure {f : FuncId} {args : List Value} {α : Type} {φ : α → Prop} {v : α → Value} {G' : α → List HProp} {ψ : Prop} (h : ∀ w, Sat W0 G w → ψ) (k : ψ → Ctr P W0 f args G φ v G') : Ctr P W0 f args G φ v G' := fun w hw => k (h w hw) w hw
theorem Ctr.imp {f : FuncId} {args : List Value} {α : Type} {φ : α → Prop} {v : α → Value} {G' : α → List HProp} {G1 : List HProp} (h : Imp G G1) (k : Ctr P W0 f args G1 φ v G') : Ctr P W0 f args G φ v G' := fun w hw => k w (hw.imp h)
theorem yQ {ds : List Deferred} {Q : Exit → Act → World → Prop} {ι : Type} {φ : ι → Prop} {vals : ι → Env} {Γ : ι → List HProp} {μ : ι → Nat} {m : Nat} (j : ι) (hj : φ j) (hm : μ j < m) (he : (vals j).sub e) (hi : Imp G (Γ j)) :
 QG W0 n ds (Exit.then (LoopAt W0 n ds φ vals Γ μ m) Q) .normal e G := fun _ _ ha hw => ⟨j, hj, hm, ha.sub he, hw.imp hi⟩
end
theorem wrap_u64_range (x : Int) : 0 ≤ IntKind.u64.wrap x ∧ IntKind.u64.wrap x ≤ 18446744073709551615 := by rw [IntKind.wrap_u64]; omega
theorem wu64 {x : Int} (h1 : 0 ≤ x) (h2 : x ≤ 18446744073709551615) : IntKind.u64.wrap x = x := by rw [IntKind.wrap_u64]; omega
theorem wu32 {x : Int} (h1 : 0 ≤ x) (h2 : x ≤ 4294967295) : IntKind.u32.wrap x = x := by rw [IntKind.wrap_u32]; omega
theorem loop_head (i m k : Nat) : (i < m ∧ i < k) ∨ (i < m ∧ ¬ i < k) ∨ ¬ i < m := by omega
def SlAt (w : World) (sz : Nat) (a : Option Addr) (m : Nat) (xs : List Value) : Prop :=
 xs.length = m * sz ∧ (xs = [] ∨ ∃ b o, a = some ⟨b, o, none⟩ ∧ ∀ i v, xs[i]? = some v → w.cell? ⟨b, o + i, none⟩ = some v)
def SlR (W0 : World) (G : List HProp) (sz : Nat) (a : Option Addr) (m : Nat) (xs : List Value) : Prop := ∀ w, Sat W0 G w → SlAt w sz a m xs
def osl (E sz : Nat) (a : Option Addr) (c m : Nat) (xs : List Value) : HProp := fun h => xs.length = m * sz ∧ m ≤ c ∧ ((a = none ∧ c = 0 ∧ xs = []) ∨
 ∃ (b o : Nat) (cs : List Value) (fr : Nat × Nat), a = some ⟨b, o, none⟩ ∧ h b = some (.cells cs.toArray E fr) ∧ NoFr fr cs.length ∧ o + c * sz ≤ cs.length ∧ (cs.drop o).take (m * sz) = xs)
theorem take_get {cs xs : List Value} {o k i : Nat} {v : Value} (h : (cs.drop o).take k = xs) (hi : xs[i]? = some v) : cs[o + i]? = some v := by
 subst h
 rw [List.getElem?_take] at hi
 split at hi
 ·rw [List.getElem?_drop] at hi; exact hi
 ·cases hi
theorem le_of_get {xs : List Value} {i : Nat} {v : Value} (hi : xs[i]? = some v) : i < xs.length := by
 rcases Nat.lt_or_ge i xs.length with h1 | h1
 ·exact h1
 ·rw [List.getElem?_eq_none h1] at hi; cases hi
section
variable {P : Program} {W0 : World} {e : Env} {G R : List HProp} {ty : TypeId} {E sz : Nat} {a : Option Addr} {c m : Nat} {xs : List Value}
theorem SlR.imp {G' : List HProp} (h : SlR W0 G' sz a m xs) (hi : Imp G G') : SlR W0 G sz a m xs := fun w hw => h w (hw.imp hi)
theorem SlR.of_osl (x : Ext G (osl E sz a c m xs) R) : SlR W0 G sz a m xs := fun w hw => by
 obtain ⟨f, hf, h1, _, h3⟩ := Sat.ext x hw
 refine ⟨h1, ?_⟩
 rcases h3 with ⟨_, _, h⟩ | ⟨b, o, cs, fr, ha, hb, _, _, ht⟩
 ·exact .inl h
 ·exact .inr ⟨b, o, ha, fun i v hi => by rw [cell_of_heap (hf _ _ hb)]; exact take_get ht hi⟩
theorem SlR.of_row {b o : Nat} (h : Row W0 G b o xs) (hl : xs.length = m * sz) : SlR W0 G sz (some ⟨b, o, none⟩) m xs := fun w hw => ⟨hl, .inr ⟨b, o, rfl, fun i v hi => h i v hi w hw⟩⟩
theorem SlR.nil : SlR W0 G sz none 0 [] := fun _ _ => ⟨by simp, .inl J⟩
theorem SlR.cel {b o i : Nat} {v : Value} (h : SlR W0 G sz (some ⟨b, o, none⟩) m xs) (hi : xs[i]? = some v) : Cel W0 G ⟨b, o + i, none⟩ v := fun w hw => by
 obtain ⟨_, h2 | ⟨b', o', ha, h2⟩⟩ := h w hw
 ·subst h2; simp at hi
 ·cases ha; exact h2 i v hi
theorem SlR.row {b o : Nat} (h : SlR W0 G sz (some ⟨b, o, none⟩) m xs) (i k : Nat) {ys : List Value} (hy : (xs.drop i).take k = ys) : Row W0 G b (o + i) ys := fun j v hj => by
 rw [Nat.add_assoc]; exact h.cel (take_get hy hj)
theorem SlR.shape (h : SlR W0 G sz a m xs) (h0 : xs ≠ []) (w : World) (hw : Sat W0 G w) : ∃ b o, a = some ⟨b, o, none⟩ := by
 obtain ⟨_, h2 | ⟨b', o', ha, _⟩⟩ := h w hw
 ·exact absurd h2 h0
 ·exact ⟨b', o', ha⟩
theorem osl_facts (x : Ext G (osl E sz a c m xs) R) (w : World) (hw : Sat W0 G w) : xs.length = m * sz ∧ m ≤ c := by
 obtain ⟨f, hf, h1, h2, _⟩ := Sat.ext x hw
 exact ⟨h1, h2⟩
theorem SlR.cut {l h cc : Nat} {ys : List Value} (s : SlR W0 G sz a m xs) (hlh : l ≤ h) (hh : h ≤ m) (hc : m ≤ cc) (hy : (xs.drop (l * sz)).take ((h - l) * sz) = ys) : SlR W0 G sz (a.map fun a => cutAt a l cc sz) (h - l) ys := fun w hw => by
 obtain ⟨h1, h2⟩ := s w hw
 have hle : h * sz ≤ m * sz := Nat.mul_le_mul_right _ hh
 have hlen : ys.length = (h - l) * sz := by
  subst hy; simp only [List.length_take, List.length_drop, h1, Nat.sub_mul]; omega
 refine ⟨hlen, ?_⟩
 rcases h2 with h2 | ⟨b, o, rfl, h2⟩
 ·subst h2; exact .inl (by simpa using hy.symm)
 ·by_cases hq : cc = l
  ·have : h - l = 0 := by omega
   rw [this] at hlen; simp at hlen; exact .inl hlen
  ·refine .inr ⟨b, o + l * sz, by simp [cutAt, hq, add_at], fun i v hi => ?_⟩
   rw [Nat.add_assoc]; exact h2 _ v (take_get hy hi)
/-! ### append -/
theorem growBy_le (need : Nat) : ∀ (r c : Nat), c ≤ 2 * need + 768 → Builtin.growBy need r c ≤ 2 * need + 768
 | 0, c, h => h
 | r + 1, c, h => by
  unfold Builtin.growBy
  split
  ·exact h
  ·exact growBy_le need r _ (by omega)
theorem nextslicecap_le {need c : Nat} (h : c < need) : Builtin.nextslicecap need c ≤ 2 * need + 768 := by
 unfold Builtin.nextslicecap
 split
 ·omega
 ·split
  ·omega
  ·exact growBy_le need 4 c (by omega)
theorem run_firstCells {w : World} {cc : Nat} (h : SlAt w sz a m xs) : (Builtin.firstCells sz m (.slice a m cc)).run P w = .ok xs.toArray w := by
 obtain ⟨h1, h2⟩ := h
 cases a with
 | none =>
  rcases h2 with h2 | ⟨_, _, h2, _⟩
  ·subst h2; simp [Builtin.firstCells, pure, Sem.run]
  ·cases h2
 | some ad =>
  rcases h2 with h2 | ⟨b, o, h2, h3⟩
  ·subst h2
   have : m * sz = 0 := by simpa using h1.symm
   simp [Builtin.firstCells, this, loadCells, loadCellsFrom, pure, Sem.run]
  ·cases h2; exact run_loadCells h1 h3
theorem run_firstCells_le {w : World} {cc k : Nat} (h : SlAt w sz a m xs) (hk : k ≤ m) : (Builtin.firstCells sz k (.slice a m cc)).run P w = .ok (xs.take (k * sz)).toArray w := by
 have h1 := h.1
 have hle : k * sz ≤ m * sz := Nat.mul_le_mul_right _ hk
 have : SlAt w sz a k (xs.take (k * sz)) := by
  refine ⟨by rw [List.length_take, h1]; omega, ?_⟩
  rcases h.2 with h2 | ⟨b, o, h2, h3⟩
  ·subst h2; simp
  ·exact .inr ⟨b, o, h2, fun i v hi => h3 i v (by rw [List.getElem?_take] at hi; split at hi; exact hi; cases hi)⟩
 have h2 := run_firstCells (P := P) (cc := cc) this
 cases a <;> exact h2
theorem osl_over {o : Nat} {cs ys : List Value} (h : (cs.drop o).take (m * sz) = xs) (hl : xs.length = m * sz) (ho : o + (m * sz + ys.length) ≤ cs.length) :
 ((over cs (o + m * sz) ys).drop o).take (m * sz + ys.length) = xs ++ ys := by
 unfold over
 have h0 : o + m * sz ≤ cs.length := by omega
 have e1 : cs.take (o + m * sz) = cs.take o ++ xs := by rw [List.take_add, h]
 rw [e1]
 simp only [List.append_assoc]
 rw [List.drop_append, List.drop_eq_nil_of_le (by simp; omega)]
 have : o - (List.take o cs).length = 0 := by simp; omega
 rw [this]
 simp only [List.drop_zero, List.nil_append]
 rw [← List.append_assoc, List.take_append_of_le_length (by simp [hl])]
 rw [List.take_of_length_le (by simp [hl])]
theorem run_built {b : Builtin} {args : List Operand} {vs : List Value} {ats : Array TypeId} {ρ : Operand → Value} {s : Sem Value} (hρ : Agrees e ρ) (ha : e.evs args = some vs) {w w' : World} {u : Value} {dst pos after guard}
 (hb : ∀ cb, builtin b ats ty cb vs.toArray = s.bind fun v => .pure (.value v)) (h : s.run P w = .ok u w') :
 (execOp ρ ⟨dst, .call { callee := .builtin b, args := args.toArray, argTypes := ats }, ty, pos, after, guard⟩).run P w = .ok (.value u) w' := by
 refine run_builtin hρ ha ?_
 rw [hb, run_bind_ok h]; rfl
theorem run_append_room {st st2 el el2 : TypeId} {a2 : Option Addr} {k c2 by' : Nat} {z : Value} {ag : Bool} {ys cs : List Value} {w : World} {b o : Nat} {fr : Nat × Nat}
 (hu : P.underlying st = some (.slice el)) (hu2 : P.underlying st2 = some (.slice el2)) (ht : TI P el sz by' z ag) (hcap : m + k ≤ c) (hs2 : SlAt w sz a2 k ys)
 (hb : w.heap[b]? = some (.cells cs.toArray E fr)) (hf : NoFr fr cs.length) (ho : o + c * sz ≤ cs.length) (hone : ∀ v ∈ ys, one v = true) :
 (Builtin.append_ #[st, st2] ty #[.slice (some ⟨b, o, none⟩) m c, .slice a2 k c2]).run P w = .ok (.slice (some ⟨b, o, none⟩) (m + k) c) (setObjW w b (.cells (over cs (o + m * sz) ys).toArray E fr)) := by
 unfold Builtin.append_
 simp only [List.getElem?_toArray, List.getElem?_cons_zero, List.getElem?_cons_succ]
 show ((underlying st).bind _).run P w = _
 rw [run_bind_ok (run_underlying hu w)]
 simp only []
 show ((sizeOf el).bind _).run P w = _
 rw [run_bind_ok (ht.run_size w)]
 simp only [bind]
 rw [run_bind_ok (run_underlying hu2 w)]
 simp only []
 rw [run_bind_ok (show (Pure.pure false : Sem Bool).run P w = .ok false w from J)]
 simp only [Bool.false_eq_true, if_false]
 rw [run_bind_ok (show (Builtin.lenOf (.slice a2 k c2)).run P w = .ok k w by rfl)]
 simp only [Bool.not_false, if_true]
 rw [if_pos hcap, run_bind_ok (run_firstCells hs2)]
 simp only []
 have hle : (m + k) * sz ≤ c * sz := Nat.mul_le_mul_right _ hcap
 rw [Nat.add_mul] at hle
 have hl := hs2.1
 have h1 := run_storeCells (P := P) (b := b) (o := o + m * sz) (t := E) ys 0 w cs hb hf (by rw [hl]; omega) hone
 rw [add_at, run_bind_ok h1]
 rfl
theorem run_append_grow {st st2 el el2 : TypeId} {a2 : Option Addr} {k c2 by' : Nat} {z : Value} {ag : Bool} {ys : List Value} {w : World}
 (hu : P.underlying st = some (.slice el)) (hu2 : P.underlying st2 = some (.slice el2)) (ht : TI P el sz by' z ag) (hz : z.cells.size = sz) (hcap : ¬ m + k ≤ c) (hs : SlAt w sz a m xs) (hs2 : SlAt w sz a2 k ys)
 (hb : (2 * (m + k) + 768) * by' ≤ 2 ^ 48) (hb2 : m + k < 2 ^ 62) (hby : 0 < by') :
 ∃ (nc : Nat) (cs : List Value), m + k ≤ nc ∧ nc * sz = cs.length ∧ cs.take ((m + k) * sz) = xs ++ ys ∧
 (Builtin.append_ #[st, st2] ty #[.slice a m c, .slice a2 k c2]).run P w = .ok (.slice (some ⟨w.heap.size, 0, none⟩) (m + k) nc) { w with heap := w.heap.push (.cells cs.toArray el (0, 0)), drawn := w.drawn + 1 } := by
 obtain ⟨i, hi, hi1, hi2, hi3⟩ := ht.run_info w
 have hnc := nextslicecap_le (need := m + k) (c := c) (by omega)
 have hnc2 : Builtin.nextslicecap (m + k) c * by' ≤ 2 ^ 48 := Nat.le_trans (Nat.mul_le_mul_right _ hnc) hb
 let nc := (m + k) + w.tape w.drawn (.appendCap (m + k) c el) % (2 ^ 63 - (m + k))
 have hge : m + k ≤ nc := Nat.le_add_right _ _
 refine ⟨nc, xs ++ ys ++ (Builtin.zeroCells z.cells (nc - (m + k))).toList, hge, ?_, ?_, ?_⟩
 ·simp only [List.length_append, hs.1, hs2.1, Builtin.zeroCells, Array.length_toList, Array.size_map, Array.size_range, hz, Nat.sub_mul, Nat.add_mul]
  have : m * sz + k * sz ≤ nc * sz := by rw [← Nat.add_mul]; exact Nat.mul_le_mul_right _ hge
  omega
 ·rw [List.take_append_of_le_length (by simp [hs.1, hs2.1, Nat.add_mul]), List.take_of_length_le (by simp [hs.1, hs2.1, Nat.add_mul])]
 ·unfold Builtin.append_
  simp only [List.getElem?_toArray, List.getElem?_cons_zero, List.getElem?_cons_succ]
  show ((underlying st).bind _).run P w = _
  rw [run_bind_ok (run_underlying hu w)]
  simp only []
  show ((sizeOf el).bind _).run P w = _
  rw [run_bind_ok (ht.run_size w)]
  simp only [bind]
  rw [run_bind_ok (run_underlying hu2 w)]
  simp only []
  rw [run_bind_ok (show (Pure.pure false : Sem Bool).run P w = .ok false w from J)]
  simp only [Bool.false_eq_true, if_false]
  rw [run_bind_ok (show (Builtin.lenOf (.slice a2 k c2)).run P w = .ok k w by rfl)]
  simp only [Bool.not_false, if_true]
  rw [if_neg hcap, run_bind_ok hi]
  rw [if_neg (by rw [hi2]; rintro ⟨_, h | h⟩ <;> first | omega | cases h)]
  rw [run_bind_ok hi, if_neg (by rw [hi2]; omega)]
  have hch : (choose (.appendCap (m + k) c el)).run P w = .ok nc { w with drawn := w.drawn + 1 } := by
   simp [choose, Sem.run, Question.forced, Question.cut, nc]
  rw [run_bind_ok hch]
  let w1 : World := { w with drawn := w.drawn + 1 }
  have hw1 : ∀ ad, w1.cell? ad = w.cell? ad := fun _ => rfl
  have hs' : SlAt w1 sz a m xs := hs
  have hs2' : SlAt w1 sz a2 k ys := hs2
  obtain ⟨i', hi', hj1, hj2, hj3⟩ := ht.run_info w1
  rw [run_bind_ok hi']
  rw [run_bind_ok (show (askRoom (nc * i'.bytes)).run P w1 = .ok () w1 by unfold askRoom; split <;> simp [mark, pure, Sem.run])]
  rw [run_bind_ok (run_firstCells hs'), run_bind_ok (run_firstCells hs2')]
  rw [run_bind_ok (ht.run_zero w1)]
  simp only [newRow, newObj, bind, Sem.bind, pure, Sem.run]
  have : (Array.mk (xs ++ ys ++ (Builtin.zeroCells z.cells (nc - (m + k))).toList)) = xs.toArray ++ ys.toArray ++ Builtin.zeroCells z.cells (nc - (m + k)) := by
   apply Array.ext'; simp
  rw [← this]
theorem nX {x y : Operand} {st st2 el el2 : TypeId} {a2 : Option Addr} {k c2 by' : Nat} {z : Value} {ag : Bool} {ys : List Value} {put : HProp → List HProp} {ats : Array TypeId}
 (hx : e.ev x = some (.slice a m c)) (hy : e.ev y = some (.slice a2 k c2)) (hats : ats = #[st, st2]) (hu : P.underlying st = some (.slice el)) (hu2 : P.underlying st2 = some (.slice el2)) (ht : TI P el sz by' z ag) (hz : z.cells.size = sz) (hby : 0 < by')
 (fc : Foc G (osl el sz a c m xs) put) (hr : SlR W0 G sz a2 k ys) (hone : ∀ v ∈ ys, one v = true) (hb : (2 * (m + k) + 768) * by' ≤ 2 ^ 48) :
 Eff P W0 (.call { callee := .builtin .append, args := #[x, y], argTypes := ats }) ty e G (fun _ : Option Addr × Nat => True) (fun p => .slice p.1 (m + k) p.2) (fun p => put (osl el sz p.1 p.2 (m + k) (xs ++ ys))) := fun ρ hρ w hw _ _ _ _ => by
 subst hats
 obtain ⟨R, hR⟩ := foc_ext fc
 have hs0 := SlR.of_osl (W0 := W0) hR w hw
 have hy0 := hr w hw
 have hevs : e.evs [x, y] = some [.slice a m c, .slice a2 k c2] := by simp only [Env.evs, hx, hy]
 have hb2 : m + k < 2 ^ 62 := by
  have : (2 * (m + k) + 768) * 1 ≤ (2 * (m + k) + 768) * by' := Nat.mul_le_mul_left _ hby
  omega
 by_cases hcap : m + k ≤ c
 ·obtain ⟨f, hf, hA⟩ := Sat.ext hR hw
  obtain ⟨h1, h2, h3⟩ := hA
  rcases h3 with ⟨rfl, rfl, rfl⟩ | ⟨b, o, cs, fr, rfl, hbk, hfr, ho, htk⟩
  ·-- a nil slice, and nothing to append
   have hm : m = 0 := by omega
   have hk : k = 0 := by omega
   subst hm hk
   have hys : ys = [] := List.length_eq_zero_iff.1 (by rw [hy0.1]; simp)
   subst hys
   refine ⟨(none, 0), w, trivial, ?_, .inl ?_⟩
   ·simp only [List.append_nil]
    obtain ⟨R', e', hp⟩ := fc
    exact hw.imp (Imp.trans e'.1 (hp _))
   ·refine run_built (s := Builtin.append_ #[st, st2] ty #[.slice none 0 0, .slice a2 0 c2]) hρ hevs (fun _ => rfl) ?_
    unfold Builtin.append_
    simp only [List.getElem?_toArray, List.getElem?_cons_zero, List.getElem?_cons_succ]
    show ((underlying st).bind _).run P w = _
    rw [run_bind_ok (run_underlying hu w)]
    simp only []
    show ((sizeOf el).bind _).run P w = _
    rw [run_bind_ok (ht.run_size w)]
    simp only [bind]
    rw [run_bind_ok (run_underlying hu2 w)]
    simp only []
    rw [run_bind_ok (show (Pure.pure false : Sem Bool).run P w = .ok false w from J)]
    simp only [Bool.false_eq_true, if_false]
    rw [run_bind_ok (show (Builtin.lenOf (.slice a2 0 c2)).run P w = .ok 0 w by rfl)]
    simp only [Bool.not_false, if_true]
    rw [if_pos hcap, run_bind_ok (run_firstCells hy0)]
    rfl
  ·have hwb := hf _ _ hbk
   have hle : (m + k) * sz ≤ c * sz := Nat.mul_le_mul_right _ hcap
   have hle' := hle
   rw [Nat.add_mul] at hle'
   refine ⟨(some ⟨b, o, none⟩, c), setObjW w b (.cells (over cs (o + m * sz) ys).toArray el fr), trivial, ?_, .inl ?_⟩
   ·refine Sat.write (b := b) (o := .cells cs.toArray el fr) fc hw hwb ?_
    intro f' hle' hf'
    obtain ⟨h1', _, h3'⟩ := hf'
    rcases h3' with ⟨h, _⟩ | ⟨b', o', cs', fr', hq, hbk', _, _, htk'⟩
    ·cases h
    ·cases hq
     have hsame : some (Obj.cells cs'.toArray el fr') = some (Obj.cells cs.toArray el fr) := (hle' _ _ hbk').symm.trans hwb
     have hcs : cs' = cs := by
      simp only [Option.some.injEq, Obj.cells.injEq] at hsame
      exact List.toArray_inj hsame.1
     have hfr' : fr' = fr := by
      simp only [Option.some.injEq, Obj.cells.injEq] at hsame
      exact hsame.2.2
     subst hcs hfr'
     have hl2 := hy0.1
     refine ⟨hbk', by simp [h1, hl2, Nat.add_mul], hcap, .inr ⟨b, o, over cs' (o + m * sz) ys, fr', rfl, by simp [updH], ?_, ?_, ?_⟩⟩
     ·rw [over_length (by omega)]; exact hfr
     ·rw [over_length (by omega)]; exact ho
     ·have := osl_over htk' h1 (ys := ys) (by omega)
      rw [Nat.add_mul, ← hl2]; exact this
   ·exact run_built (s := Builtin.append_ #[st, st2] ty #[.slice (some ⟨b, o, none⟩) m c, .slice a2 k c2]) hρ hevs (fun _ => rfl) (run_append_room hu hu2 ht hcap hy0 hwb hfr ho hone)
 ·obtain ⟨nc, cs, h1, h2, h3, h4⟩ := run_append_grow (P := P) (ty := ty) (c := c) (c2 := c2) hu hu2 ht hz hcap hs0 hy0 hb hb2 hby
  refine ⟨(some ⟨w.heap.size, 0, none⟩, nc), _, trivial, ?_, .inl (run_built (s := Builtin.append_ #[st, st2] ty #[.slice a m c, .slice a2 k c2]) hρ hevs (fun _ => rfl) h4)⟩
  have hnew := Sat.draw (Sat.new hw (.cells cs.toArray el (0, 0))) (w.drawn + 1)
  obtain ⟨R', e', hp⟩ := fc
  refine (hnew.imp (Imp.trans (Imp.cons (Imp.trans e'.1 Imp.drop)) (Imp.trans (Imp.head (fun f hf => ?_)) (hp _))))
  refine ⟨by simp [hs0.1, hy0.1, Nat.add_mul], h1, .inr ⟨w.heap.size, 0, cs, (0, 0), rfl, hf, NoFr.zero _, by show 0 + nc * sz ≤ _; omega, by simpa using h3⟩⟩
theorem Eff.append0 {x y : Operand} {st st2 el el2 : TypeId} {a2 : Option Addr} {k c2 by' : Nat} {z : Value} {ag : Bool} {ys : List Value} {put : HProp → List HProp} {ats : Array TypeId}
 (hx : e.ev x = some (.slice a 0 c)) (hy : e.ev y = some (.slice a2 k c2)) (hats : ats = #[st, st2]) (hu : P.underlying st = some (.slice el)) (hu2 : P.underlying st2 = some (.slice el2)) (ht : TI P el sz by' z ag) (hz : z.cells.size = sz) (hby : 0 < by')
 (fc : Foc G (osl el sz a c 0 []) put) (hr : SlR W0 G sz a2 k ys) (hone : ∀ v ∈ ys, one v = true) (hb : (2 * k + 768) * by' ≤ 2 ^ 48) :
 Eff P W0 (.call { callee := .builtin .append, args := #[x, y], argTypes := ats }) ty e G (fun _ : Option Addr × Nat => True) (fun p => .slice p.1 k p.2) (fun p => put (osl el sz p.1 p.2 k ys)) := by
 have := nX (ty := ty) hx hy hats hu hu2 ht hz hby fc hr hone (by rw [Nat.zero_add]; exact hb)
 simpa only [Nat.zero_add, List.nil_append] using this
end
end Go.Sl
