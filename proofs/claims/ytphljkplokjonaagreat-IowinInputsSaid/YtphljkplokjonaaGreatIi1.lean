/- A part of what the last text stands on: rules for steps of the model, and what functions of the program do. -/
import Derived.WalkKit
import Derived.OrdersIn
import Derived.RangeFuncCalls
import Derived.Laws.BitsLemmas
import Derived.Orders
import Derived.WideKeyArgs
import Derived.ProofKit
import Derived.OpenShut
import Derived.ChangeOld
import Derived.SizedLaws
import Derived.KernelRfl
import Derived.Scope
import Derived.Recover
set_option linter.unusedSectionVars false
set_option linter.unusedSimpArgs false
set_option linter.unusedVariables false
/- A small separation logic over the model's memory: lists of assertions, each with blocks of its own. No program in sight. -/
namespace Go.Sl
open Go Go.RowKit

/-- A part of the memory. -/
abbrev Heaplet := Nat → Option Obj
/-- An assertion on a part of the memory. -/
abbrev HProp := Heaplet → Prop

def hle (a b : Heaplet) : Prop := ∀ k o, a k = some o → b k = some o
def minus (a b : Heaplet) : Heaplet := fun k => if (b k).isSome then none else a k

theorem hle_refl (a : Heaplet) : hle a a := fun _ _ h => h
theorem hle_trans {a b c : Heaplet} (h : hle a b) (k : hle b c) : hle a c := fun x o e => k x o (h x o e)
theorem minus_some {a b : Heaplet} {k : Nat} {o : Obj} : minus a b k = some o ↔ b k = none ∧ a k = some o := by
  unfold minus
  cases h : b k <;> simp
theorem minus_le (a b : Heaplet) : hle (minus a b) a := fun _ _ h => (minus_some.1 h).2
theorem minus_mono {a b f : Heaplet} (h : hle a b) : hle (minus a f) (minus b f) := fun k o e =>
  minus_some.2 ⟨(minus_some.1 e).1, h k o (minus_some.1 e).2⟩

/-- All assertions of the list hold, each on blocks of its own. -/
def Sep : List HProp → HProp
  | [], _ => True
  | A :: G, h => ∃ f : Heaplet, hle f h ∧ A f ∧ Sep G (minus h f)

theorem Sep.mono : ∀ {G : List HProp} {a b : Heaplet}, Sep G a → hle a b → Sep G b
  | [], _, _, _, _ => trivial
  | _ :: _, _, _, ⟨f, hf, hA, hs⟩, h => ⟨f, hle_trans hf h, hA, Sep.mono hs (minus_mono h)⟩

theorem Sep.swap {A B : HProp} {G : List HProp} {h : Heaplet} (s : Sep (A :: B :: G) h) : Sep (B :: A :: G) h := by
  obtain ⟨f, hf, hA, g, hg, hB, hs⟩ := s
  refine ⟨g, hle_trans hg (minus_le _ _), hB, f, fun k o e => minus_some.2 ⟨?_, hf k o e⟩, hA, hs.mono fun k o e => ?_⟩
  · cases hgk : g k with
    | none => rfl
    | some x => have := (minus_some.1 (hg k x hgk)).1; rw [e] at this; cases this
  · obtain ⟨h1, h2⟩ := minus_some.1 e
    obtain ⟨h3, h4⟩ := minus_some.1 h2
    exact minus_some.2 ⟨h3, minus_some.2 ⟨h1, h4⟩⟩

/-- The world's memory as a part. -/
def heapOf (w : World) : Heaplet := fun k => w.heap[k]?

/-- One list says at least what another one says. -/
def Imp (G G' : List HProp) : Prop := ∀ h, Sep G h → Sep G' h

theorem Imp.refl (G : List HProp) : Imp G G := fun _ s => s
theorem Imp.trans {A B C : List HProp} (h : Imp A B) (k : Imp B C) : Imp A C := fun x s => k x (h x s)
theorem Imp.cons {A : HProp} {G G' : List HProp} (h : Imp G G') : Imp (A :: G) (A :: G') := fun _ ⟨f, hf, hA, hs⟩ => ⟨f, hf, hA, h _ hs⟩
theorem Imp.head {A B : HProp} {G : List HProp} (h : ∀ x, A x → B x) : Imp (A :: G) (B :: G) := fun _ ⟨f, hf, hA, hs⟩ => ⟨f, hf, h _ hA, hs⟩
theorem Imp.drop {A : HProp} {G : List HProp} : Imp (A :: G) G := fun _ ⟨_, _, _, hs⟩ => hs.mono (minus_le _ _)

/-- A stands in G; without it there is R. -/
def Ext (G : List HProp) (A : HProp) (R : List HProp) : Prop := Imp G (A :: R) ∧ Imp (A :: R) G
theorem Ext.here {A : HProp} {G : List HProp} : Ext (A :: G) A G := ⟨Imp.refl _, Imp.refl _⟩
theorem Ext.there {A B : HProp} {G R : List HProp} (e : Ext G A R) : Ext (B :: G) A (B :: R) :=
  ⟨fun _ s => Sep.swap (Imp.cons e.1 _ s), fun _ s => Imp.cons e.2 _ (Sep.swap s)⟩

/-- A stands in G at a place where something else may stand: 'put X' is G with X there. -/
def Foc (G : List HProp) (A : HProp) (put : HProp → List HProp) : Prop := ∃ R, Ext G A R ∧ ∀ X, Imp (X :: R) (put X)
theorem Foc.here {A : HProp} {G : List HProp} : Foc (A :: G) A (fun X => X :: G) := ⟨G, Ext.here, fun _ => Imp.refl _⟩
theorem Foc.there {A B : HProp} {G : List HProp} {put : HProp → List HProp} (f : Foc G A put) : Foc (B :: G) A (fun X => B :: put X) := by
  obtain ⟨R, e, hp⟩ := f
  exact ⟨B :: R, e.there, fun X h s => Imp.cons (hp X) _ (Sep.swap s)⟩

theorem Sep.sub {A : HProp} {G R : List HProp} {h : Heaplet} (e : Ext G A R) (s : Sep G h) : ∃ f, hle f h ∧ A f :=
  let ⟨f, hf, hA, _⟩ := e.1 _ s; ⟨f, hf, hA⟩

/-- A list within a list. -/
def Star (D : List HProp) : HProp := Sep D

/-- Two lists side by side: the first on the part f, the second beside f. -/
theorem Sep.append : ∀ {D G : List HProp} {h f : Heaplet}, Sep D f → hle f h → Sep G (minus h f) → Sep (D ++ G) h
  | [], _, _, _, _, _, hs => hs.mono (minus_le _ _)
  | A :: D, G, h, f, ⟨g, hg, hA, hD⟩, hf, hs => by
    refine ⟨g, hle_trans hg hf, hA, Sep.append hD (minus_mono hf) (hs.mono fun k o e => ?_)⟩
    obtain ⟨h1, h2⟩ := minus_some.1 e
    have h3 : g k = none := by
      cases hgk : g k with
      | none => rfl
      | some x => rw [hg k x hgk] at h1; cases h1
    refine minus_some.2 ⟨?_, minus_some.2 ⟨h3, h2⟩⟩
    unfold minus; rw [h3]; simpa using h1

/-- A list parted: a part of the memory that bears the first, and the rest beside it. -/
theorem Sep.split : ∀ {D G : List HProp} {h : Heaplet}, Sep (D ++ G) h → ∃ f, hle f h ∧ Sep D f ∧ Sep G (minus h f)
  | [], G, h, s => ⟨fun _ => none, fun _ _ e => by simp at e, trivial, s.mono fun k o e => minus_some.2 ⟨rfl, e⟩⟩
  | A :: D, G, h, ⟨g, hg, hA, s⟩ => by
    obtain ⟨f, hf, hD, hG⟩ := Sep.split s
    refine ⟨fun k => if (g k).isSome then g k else f k, fun k o e => ?_, ⟨g, fun k o e => ?_, hA, hD.mono fun k o e => ?_⟩, hG.mono fun k o e => ?_⟩
    · dsimp only at e
      split at e
      · exact hg k o e
      · exact (minus_some.1 (hf k o e)).2
    · simp [e]
    · have h1 := (minus_some.1 (hf k o e)).1
      exact minus_some.2 ⟨h1, by simp [h1, e]⟩
    · obtain ⟨h1, h2⟩ := minus_some.1 e
      obtain ⟨h3, h4⟩ := minus_some.1 h2
      exact minus_some.2 ⟨by simp [h1, h3], h4⟩

theorem star_open {D G : List HProp} : Imp (Star D :: G) (D ++ G) := fun _ ⟨_, hf, hA, hs⟩ => Sep.append hA hf hs
theorem star_close {D G : List HProp} : Imp (D ++ G) (Star D :: G) := fun _ s => let ⟨f, hf, hD, hG⟩ := Sep.split s; ⟨f, hf, hD, hG⟩

end Go.Sl
/- A logic of steps over the model's code: what the slots hold (as far as it is known) and what the memory bears, instead of the frame and the world themselves. No program in sight. -/
namespace Go.Sl
open Go Go.RowKit

/-- What stays of the world in which all began. -/
structure Tr (W0 w : World) : Prop where
  os : w.os = W0.os
  tape : w.tape = W0.tape
  output : w.output = W0.output
  size : W0.heap.size ≤ w.heap.size
theorem Tr.refl (w : World) : Tr w w := ⟨rfl, rfl, rfl, Nat.le_refl _⟩

/-- The world w bears the assertions G. -/
def Sat (W0 : World) (G : List HProp) (w : World) : Prop := Tr W0 w ∧ Sep G (heapOf w)

theorem Sat.imp {W0 w : World} {G G' : List HProp} (s : Sat W0 G w) (h : Imp G G') : Sat W0 G' w := ⟨s.1, h _ s.2⟩

abbrev Env := List (Nat × Value)
def Env.get : Env → Nat → Option Value
  | [], _ => none
  | (d, v) :: e, t => bif Nat.beq t d then some v else Env.get e t
/-- The value of an operand, as far as it is known. -/
def Env.ev (e : Env) : Operand → Option Value
  | .tmp t => e.get t
  | .const v => some v
  | .func f => some (.func (.func f) #[] #[])
  | .global g => some (.pointer (some ⟨g, 0, none⟩))
def Agrees (e : Env) (ρ : Operand → Value) : Prop := ∀ x v, e.ev x = some v → ρ x = v

/-- The frame a has n slots, which hold what e says; the deferred calls are ds. -/
structure At (n : Nat) (ds : List Deferred) (e : Env) (a : Act) : Prop where
  size : a.tmps.size = n
  slot : ∀ t v, e.get t = some v → a.tmps.getD t undef = v
  defers : a.defers = ds

theorem At.agrees {n : Nat} {ds : List Deferred} {e : Env} {a : Act} (h : At n ds e a) : Agrees e a.eval := fun x v hx => by
  cases x with
  | tmp t => exact h.slot t v hx
  | const c => exact Option.some.inj hx
  | global g => exact Option.some.inj hx
  | func f => exact Option.some.inj hx

theorem At.put {n : Nat} {ds : List Deferred} {e : Env} {a : Act} (h : At n ds e a) {d : Nat} {v : Value} (hd : d < n) : At n ds ((d, v) :: e) (a.put (some d) v) := by
  refine ⟨by simpa [Act.put] using h.size, fun t u ht => ?_, h.defers⟩
  have hs := h.size
  simp only [Env.get] at ht
  by_cases he : t = d
  · subst he
    simp only [Nat.beq_refl, cond_true, Option.some.injEq] at ht
    subst ht
    simp [Act.put, hs, hd]
  · have hb : Nat.beq t d = false := by
      cases hq : Nat.beq t d with
      | false => rfl
      | true => exact absurd (Nat.eq_of_beq_eq_true hq) he
    rw [hb] at ht
    have := h.slot t u ht
    rw [← this]
    have hne : d ≠ t := fun q => he q.symm
    simp [Act.put, Array.getElem?_setIfInBounds_ne hne]

/-- All that e' knows, e knows. -/
def Env.sub (e' e : Env) : Prop := ∀ t v, e'.get t = some v → e.get t = some v
theorem At.sub {n : Nat} {ds : List Deferred} {e e' : Env} {a : Act} (h : At n ds e a) (hs : e'.sub e) : At n ds e' a := ⟨h.size, fun t v q => h.slot t v (hs t v q), h.defers⟩
theorem Env.sub_nil (e : Env) : Env.sub [] e := fun _ _ h => by cases h
theorem Env.sub_cons {e' e : Env} {d : Nat} {v : Value} (h1 : e.get d = some v) (h : e'.sub e) : Env.sub ((d, v) :: e') e := fun t u q => by
  simp only [Env.get] at q
  cases hb : Nat.beq t d with
  | false => rw [hb] at q; exact h t u q
  | true =>
    rw [hb] at q
    have := Nat.eq_of_beq_eq_true hb
    subst this
    simp only [cond_true, Option.some.injEq] at q
    subst q; exact h1
/-- The fence of a round's body (r: the round), and of what lies outside of any. -/
def Fz (r : Option Nat) : Fence := { Fence.wide with round := r }
/-- An operation that defers nothing (in a round a defer is another thing). -/
def ndOp (o : Oper) : Bool := match o.op with
  | .defer _ => false
  | _ => true
def ndB : Option Nat → List Oper → Bool
  | none, _ => true
  | some _, l => l.all ndOp
/-- An operation in a region: as everywhere, or a call of a round. -/
def opW (P : Program) (o : Oper) (a : Act) (w : World) (K : Act → World → Prop) (Q : Exit → Act → World → Prop) : Prop :=
  o.wp P a w K Q ∨ ∃ l fn tmps assign body w', (execOp a.eval o).run P w = .ok (.round l fn tmps assign body) w' ∧ RoundIn (Fz none) 0 P l fn tmps assign body w' fun e w'' => ∃ v, e = .returned v ∧ K (a.put o.dst v) w''
/-- The operations of a region, one behind the other. -/
def wpL (P : Program) (ops : Array Oper) (Q : Exit → Act → World → Prop) : List Oper → Act → World → Prop
  | [], a, w => Q .normal a w
  | o :: rest, a, w => if Region.wanted o (yielded ops a.tmps) then opW P o a w (wpL P ops Q rest) Q else wpL P ops Q rest (a.put o.dst undef) w
theorem callsFz {r : Option Nat} {m : Nat} {P : Program} {f : FuncId} {args : Array Value} {w : World} {R : Ending → World → Prop} (h : Calls P f args w R) : CallsIn (Fz r) m P f args w R :=
  (callsIn_wide (n := m)).2 h
theorem rowsFz {r : Option Nat} {m : Nat} {P : Program} {row : String} {args : Array Value} {w : World} {R : Value → World → Prop} (h : Rows P row args w R) : RowsIn (Fz r) m P row args w R := fun c cs _ => by
  obtain ⟨v, w', hr, hs⟩ := h c cs
  exact ⟨v, w', hr, stepsIn_wide.2 hs⟩
theorem upon_in {r : Option Nat} {m : Nat} {P : Program} {o : Oper} {a : Act} {next : Act → World → Prop} {Q : Exit → Act → World → Prop} : ∀ {x : Result Next}, o.upon P a next Q x → o.uponIn (Fz r) m P a next Q x
  | .ok (.value v) w', h => h
  | .ok .skip w', h => h
  | .ok (.defer d) w', h => h
  | .ok (.enter f args) w', h => ⟨(fun q => by cases q), callsFz h⟩
  | .ok (.row row args) w', h => ⟨(fun q => by cases q), rowsFz h⟩
  | .ok (.round ..) w', h => h.elim
  | .halt (.panic v) w', h => h
theorem wp_in {r : Option Nat} {m : Nat} {P : Program} {o : Oper} {a : Act} {w : World} {K : Act → World → Prop} {Q : Exit → Act → World → Prop} (hn : r = none ∨ ndOp o = true) (h : o.wp P a w K Q) : o.wpIn (Fz r) m P a w K Q := by
  refine ⟨fun _ _ => trivial, ?_⟩
  have e : o.semAt (Fz r).round a.eval = execOp a.eval o := by
    rcases hn with rfl | hn
    · rfl
    · exact Oper.semAt_eq _ _ _ fun c hc => by unfold ndOp at hn; rw [hc] at hn; cases hn
  rw [e]
  exact upon_in h
theorem wpIn_put_mono {r : Option Nat} {m : Nat} {P : Program} {o : Oper} {a : Act} {w : World} {K K' : Act → World → Prop} {Q : Exit → Act → World → Prop} (h : o.wp P a w K Q) (hk : ∀ a w, K a w → K' a w) (hn : r = none ∨ ndOp o = true) : o.wpIn (Fz r) m P a w K' Q :=
  Oper.wpIn_mono hk (wp_in hn h)
theorem opW_in {r : Option Nat} {m : Nat} {P : Program} {o : Oper} {a : Act} {w : World} {K K' : Act → World → Prop} {Q : Exit → Act → World → Prop} (h : opW P o a w K Q) (hk : ∀ a w, K a w → K' a w) (hn : r = none ∨ ndOp o = true) : o.wpIn (Fz r) m P a w K' Q := by
  rcases h with h | ⟨l, fn, tmps, assign, body, w', hr, hR⟩
  · exact wpIn_put_mono h hk hn
  · refine ⟨fun _ _ => trivial, ?_⟩
    have e : o.semAt (Fz r).round a.eval = execOp a.eval o := by
      rcases hn with rfl | hn
      · rfl
      · exact Oper.semAt_eq _ _ _ fun c hc => by unfold ndOp at hn; rw [hc] at hn; cases hn
    rw [e, hr, Oper.uponIn_round]
    refine ⟨(fun q => by cases q), ?_⟩
    have h1 : RoundIn (Fz r) (m - 1) P l fn tmps assign body w' fun e w'' => ∃ v, e = .returned v ∧ K (a.put o.dst v) w'' := ⟨trivial, fun c cs _ => hR.2 c cs (fun d hd => by cases hd)⟩
    refine h1.mono ?_
    rintro e w'' ⟨v, rfl, hK⟩
    exact hk _ _ hK
theorem nd_of {r : Option Nat} {l : List Oper} (h : ndB r l = true) : ∀ o ∈ l, r = none ∨ ndOp o = true := fun o ho => by
  cases r with
  | none => exact .inl rfl
  | some _ => exact .inr (List.all_eq_true.1 h o ho)
theorem wpL_in {r : Option Nat} {P : Program} {ops : Array Oper} {Q : Exit → Act → World → Prop} : ∀ (l : List Oper) (k : Nat), (∀ j, j < l.length → l[j]? = ops[k + j]?) → (∀ o ∈ l, r = none ∨ ndOp o = true) → ∀ a w, wpL P ops Q l a w → wpOpsIn (Fz r) 0 P ops Q (List.range' k l.length) a w
  | [], k, _, _, a, w, h => h
  | o :: l, k, hj, hn, a, w, h => by
    have ho : ops[k]? = some o := by have := hj 0 (Nat.succ_pos _); simpa using this.symm
    have ih := wpL_in (r := r) (P := P) (ops := ops) (Q := Q) l (k + 1) (fun j hlt => by have := hj (j + 1) (Nat.succ_lt_succ hlt); rw [List.getElem?_cons_succ] at this; rw [this]; congr 1; omega) (fun o ho => hn o (List.mem_cons_of_mem _ ho))
    rw [List.length_cons, List.range'_succ]
    unfold wpOpsIn
    rw [ho]
    unfold wpL at h
    dsimp only
    split at h
    · rename_i hw
      rw [if_pos hw]
      exact opW_in h ih (hn o List.mem_cons_self)
    · rename_i hw
      rw [if_neg hw]
      exact ⟨fun _ _ => trivial, ih _ _ h⟩
section
variable (r : Option Nat) (P : Program) (W0 : World) (n : Nat) (ds : List Deferred)

/-- From what is known (e, G) the code c comes to Q. -/
def CG (c : Code) (Q : Exit → Act → World → Prop) (e : Env) (G : List HProp) : Prop := ∀ a w, At n ds e a → Sat W0 G w → c.wpIn (Fz r) 0 P Q a w
/-- .. the operations l of a region whose operations are 'ops'. -/
def OG (ops : Array Oper) (Q : Exit → Act → World → Prop) (l : List Oper) (e : Env) (G : List HProp) : Prop := ∀ a w, At n ds e a → Sat W0 G w → wpL P ops Q l a w
/-- What is known is enough for Q at the exit x. -/
def QG (Q : Exit → Act → World → Prop) (x : Exit) (e : Env) (G : List HProp) : Prop := ∀ a w, At n ds e a → Sat W0 G w → Q x a w

/-- An operation that leaves the world alone and yields v. -/
def Yield (op : Op) (ty : TypeId) (e : Env) (G : List HProp) (v : Value) : Prop :=
  ∀ ρ, Agrees e ρ → ∀ w, Sat W0 G w → ∀ dst pos after guard, (execOp ρ ⟨dst, op, ty, pos, after, guard⟩).run P w = .ok (.value v) w
/-- An operation that changes what the memory bears. -/
def Eff (op : Op) (ty : TypeId) (e : Env) (G : List HProp) {α : Type} (φ : α → Prop) (v : α → Value) (G' : α → List HProp) : Prop :=
  ∀ ρ, Agrees e ρ → ∀ w, Sat W0 G w → ∀ dst pos after guard, ∃ x w', φ x ∧ Sat W0 (G' x) w' ∧
    ((execOp ρ ⟨dst, op, ty, pos, after, guard⟩).run P w = .ok (.value (v x)) w' ∨ ((execOp ρ ⟨dst, op, ty, pos, after, guard⟩).run P w = .ok .skip w' ∧ v x = undef))
/-- A contract: called in whatever world bears G it returns a value v x, and the world then bears G' x, for an x that meets φ. -/
def Ctr (f : FuncId) (args : List Value) (G : List HProp) {α : Type} (φ : α → Prop) (v : α → Value) (G' : α → List HProp) : Prop :=
  ∀ w, Sat W0 G w → Calls P f args.toArray w fun r w' => ∃ x, φ x ∧ r = .returned (v x) ∧ Sat W0 (G' x) w'
end

section
variable {r : Option Nat} {P : Program} {W0 : World} {n : Nat} {ds : List Deferred} {ops : Array Oper} {Q : Exit → Act → World → Prop} {rest : List Oper} {e : Env} {G : List HProp}

theorem OG.yield {d : Nat} {op : Op} {ty : TypeId} {pos : String} {af : Array Edge} {v : Value} (hy : Yield P W0 op ty e G v) (hd : Nat.ble (d + 1) n = true)
    (k : OG P W0 n ds ops Q rest ((d, v) :: e) G) : OG P W0 n ds ops Q (⟨some d, op, ty, pos, af, none⟩ :: rest) e G := fun a w ha hw => by
  unfold wpL
  rw [if_pos (by simp [Region.wanted])]
  refine Or.inl ?_
  unfold Oper.wp
  rw [hy a.eval ha.agrees w hw, Oper.upon_value]
  exact k _ _ (ha.put (Nat.le_of_ble_eq_true hd)) hw

theorem OG.eff {dst : Option Nat} {op : Op} {ty : TypeId} {pos : String} {af : Array Edge} {α : Type} {φ : α → Prop} {v : α → Value} {G' : α → List HProp} (hy : Eff P W0 op ty e G φ v G')
    (hd : dst = none)
    (k : ∀ x, φ x → OG P W0 n ds ops Q rest e (G' x)) : OG P W0 n ds ops Q (⟨dst, op, ty, pos, af, none⟩ :: rest) e G := fun a w ha hw => by
  subst hd
  unfold wpL
  rw [if_pos (by simp [Region.wanted])]
  refine Or.inl ?_
  unfold Oper.wp
  obtain ⟨x, w', hx, hs, hr | ⟨hr, _⟩⟩ := hy a.eval ha.agrees w hw none pos af none
  · rw [hr, Oper.upon_value]; exact k x hx _ _ ha hs
  · rw [hr, Oper.upon_skip]; exact k x hx _ _ ha hs

theorem OG.effd {d : Nat} {op : Op} {ty : TypeId} {pos : String} {af : Array Edge} {α : Type} {φ : α → Prop} {v : α → Value} {G' : α → List HProp} (hy : Eff P W0 op ty e G φ v G')
    (hd : Nat.ble (d + 1) n = true)
    (k : ∀ x, φ x → OG P W0 n ds ops Q rest ((d, v x) :: e) (G' x)) : OG P W0 n ds ops Q (⟨some d, op, ty, pos, af, none⟩ :: rest) e G := fun a w ha hw => by
  unfold wpL
  rw [if_pos (by simp [Region.wanted])]
  refine Or.inl ?_
  unfold Oper.wp
  obtain ⟨x, w', hx, hs, hr | ⟨hr, hu⟩⟩ := hy a.eval ha.agrees w hw (some d) pos af none
  · rw [hr, Oper.upon_value]; exact k x hx _ _ (ha.put (Nat.le_of_ble_eq_true hd)) hs
  · rw [hr, Oper.upon_skip, ← hu]; exact k x hx _ _ (ha.put (Nat.le_of_ble_eq_true hd)) hs

theorem callFunc_run {f : FuncId} {fn : Func} {c : Code} (hf : P.funcs[f]? = some fn) (hb : fn.body = some c) (hn : (fn.name == "runtime.NumGoroutine") = false) (args : Array Value) (w : World) :
    (callFunc f args).run P w = .ok (.enter f args) w := by
  have h2 : ¬ fn.name = "runtime.NumGoroutine" := by simpa using hn
  simp [callFunc, program, Sem.run, bind, Sem.bind, hf, hb, h2, pure]

def Env.evs (e : Env) : List Operand → Option (List Value)
  | [] => some []
  | x :: l => match e.ev x, e.evs l with
    | some v, some vs => some (v :: vs)
    | _, _ => none
theorem Agrees.evs {e : Env} {ρ : Operand → Value} (h : Agrees e ρ) : ∀ {l : List Operand} {vs : List Value}, e.evs l = some vs → l.map ρ = vs
  | [], vs, q => by simpa [Env.evs] using q
  | x :: l, vs, q => by
    simp only [Env.evs] at q
    split at q
    · rename_i v us h1 h2
      simp only [Option.some.injEq] at q
      subst q
      simp [h x v h1, h.evs h2]
    · cases q

/-- A call of a named function, by its contract. -/
theorem run_call {f : FuncId} {fn : Func} {c : Code} (hf : P.funcs[f]? = some fn) (hb : fn.body = some c) (hn : (fn.name == "runtime.NumGoroutine") = false)
    {args : List Operand} {vs : List Value} {ats : Array TypeId} {ty : TypeId} {ρ : Operand → Value} (hρ : Agrees e ρ) (ha : e.evs args = some vs) (w : World) (dst pos after guard) :
    (execOp ρ ⟨dst, .call { callee := .value (.func f), args := args.toArray, argTypes := ats }, ty, pos, after, guard⟩).run P w = .ok (.enter f vs.toArray) w := by
  have h1 : ρ (.func f) = .func (.func f) #[] #[] := hρ _ _ rfl
  have h2 : args.map ρ = vs := hρ.evs ha
  have h3 := callFunc_run hf hb hn vs.toArray w
  simp [execOp, resolve, h1, Deferred.ofValue, bind, Sem.bind, pure, invoke, h2, h3]

theorem OG.call {d : Nat} {ty : TypeId} {pos : String} {af : Array Edge} {f : FuncId} {fn : Func} {c : Code} {args : List Operand} {ats : Array TypeId} {vs : List Value} {G1 : List HProp} {α : Type} {φ : α → Prop} {v : α → Value} {G' : α → List HProp}
    (hs : Ctr P W0 f vs G1 φ v G') (hf : P.funcs[f]? = some fn) (hb : fn.body = some c) (hn : (fn.name == "runtime.NumGoroutine") = false)
    (ha : e.evs args = some vs) (hi : Imp G G1) (hd : Nat.ble (d + 1) n = true)
    (k : ∀ x, φ x → OG P W0 n ds ops Q rest ((d, v x) :: e) (G' x)) :
    OG P W0 n ds ops Q (⟨some d, .call { callee := .value (.func f), args := args.toArray, argTypes := ats }, ty, pos, af, none⟩ :: rest) e G := fun a w hat hw => by
  unfold wpL
  rw [if_pos (by simp [Region.wanted])]
  refine Or.inl ?_
  unfold Oper.wp
  rw [run_call hf hb hn hat.agrees ha w, Oper.upon_enter]
  refine (hs w (hw.imp hi)).mono ?_
  rintro r w' ⟨x, hx, rfl, hs'⟩
  exact k x hx _ _ (hat.put (Nat.le_of_ble_eq_true hd)) hs'

/-- A guard that is known. -/
theorem OG.guard_yes {o : Oper} {j t : Nat} {want : Bool} (hg : o.guard = some (j, want)) (ht : (ops[j]?).bind (·.dst) = some t) (hv : e.get t = some (.bool want)) (hn : t < n)
    (k : OG P W0 n ds ops Q ({ o with guard := none } :: rest) e G) : OG P W0 n ds ops Q (o :: rest) e G := fun a w ha hw => by
  have h1 := k a w ha hw
  unfold wpL at h1 ⊢
  rw [if_pos (by simp [Region.wanted])] at h1
  have hy : yielded ops a.tmps j = some want := by
    unfold yielded
    have h2 := ha.slot t _ hv
    have hs := ha.size
    rw [ht]
    simp only [Option.bind_some]
    have hlt : t < a.tmps.size := by omega
    simp only [Array.getD, hlt, dif_pos] at h2
    rw [Array.getElem?_eq_getElem hlt]
    have : a.tmps[t] = .bool want := h2
    rw [this]
  rw [if_pos (by simp [Region.wanted, hg, hy])]
  exact h1

theorem OG.guard_no {o : Oper} {d j t : Nat} {want b : Bool} (hdst : o.dst = some d) (hg : o.guard = some (j, want)) (ht : (ops[j]?).bind (·.dst) = some t) (hv : e.get t = some (.bool b)) (hb : b = !want) (hn : t < n) (hd : d < n)
    (k : OG P W0 n ds ops Q rest ((d, undef) :: e) G) : OG P W0 n ds ops Q (o :: rest) e G := fun a w ha hw => by
  unfold wpL
  have hy : yielded ops a.tmps j = some b := by
    unfold yielded
    have h2 := ha.slot t _ hv
    have hs := ha.size
    rw [ht]
    simp only [Option.bind_some]
    have hlt : t < a.tmps.size := by omega
    simp only [Array.getD, hlt, dif_pos] at h2
    rw [Array.getElem?_eq_getElem hlt]
    have : a.tmps[t] = .bool b := h2
    rw [this]
  rw [if_neg (by subst hb; simp [Region.wanted, hg, hy]), hdst]
  exact k _ _ (ha.put hd) hw

theorem OG.nil (k : QG W0 n ds Q .normal e G) : OG P W0 n ds ops Q [] e G := fun a w ha hw => k a w ha hw

theorem CG.region {id : Nat} {l : List Oper} (k : OG P W0 n ds l.toArray Q l e G) (hd : ndB r l = true := by rfl) : CG r P W0 n ds (.region id l.toArray false) Q e G := fun a w ha hw => by
  refine wpIn_region ?_
  rw [List.range_eq_range', List.size_toArray]
  exact wpL_in l 0 (fun j _ => by rw [Nat.zero_add, List.getElem?_toArray]) (nd_of hd) a w (k a w ha hw)
theorem CG.seq {x y : Code} (k : CG r P W0 n ds x (Exit.then (y.wpIn (Fz r) 0 P Q) Q) e G) : CG r P W0 n ds (.seq x y) Q e G := fun a w ha hw => wpIn_seq (k a w ha hw)
theorem CG.skip (k : QG W0 n ds Q .normal e G) : CG r P W0 n ds .skip Q e G := fun a w ha hw => wpIn_skip (k a w ha hw)
theorem CG.exit {id : Nat} (k : QG W0 n ds Q (.exit id) e G) : CG r P W0 n ds (.exit id) Q e G := fun a w ha hw => wpIn_exit (k a w ha hw)
theorem CG.ret (k : QG W0 n ds Q .ret e G) : CG r P W0 n ds .ret Q e G := fun a w ha hw => wpIn_ret (k a w ha hw)
theorem CG.block {id : Nat} {c : Code} (k : CG r P W0 n ds c (Exit.inBlock id Q) e G) : CG r P W0 n ds (.block id c) Q e G := fun a w ha hw => wpIn_block (k a w ha hw)
theorem CG.cond {c : Operand} {x y : Code} {b : Bool} (hc : e.ev c = some (.bool b)) (kt : b = true → CG r P W0 n ds x Q e G) (kf : b = false → CG r P W0 n ds y Q e G) : CG r P W0 n ds (.cond c x y) Q e G := fun a w ha hw =>
  wpIn_cond_split (ha.agrees _ _ hc) (fun h => kt h a w ha hw) (fun h => kf h a w ha hw)
theorem CG.cond_t {c : Operand} {x y : Code} (hc : e.ev c = some (.bool true)) (kt : CG r P W0 n ds x Q e G) : CG r P W0 n ds (.cond c x y) Q e G := CG.cond hc (fun _ => kt) (fun h => by cases h)
theorem CG.cond_f {c : Operand} {x y : Code} (hc : e.ev c = some (.bool false)) (kf : CG r P W0 n ds y Q e G) : CG r P W0 n ds (.cond c x y) Q e G := CG.cond hc (fun h => by cases h) (fun _ => kf)

theorem QG.then {y : Code} (k : CG r P W0 n ds y Q e G) : QG W0 n ds (Exit.then (y.wpIn (Fz r) 0 P Q) Q) .normal e G := fun a w ha hw => k a w ha hw
theorem QG.pass {K : Act → World → Prop} {x : Exit} (hx : x ≠ .normal) (k : QG W0 n ds Q x e G) : QG W0 n ds (Exit.then K Q) x e G := fun a w ha hw => by
  cases x <;> first | exact absurd rfl hx | exact k a w ha hw
theorem QG.pass_ret {K : Act → World → Prop} (k : QG W0 n ds Q .ret e G) : QG W0 n ds (Exit.then K Q) .ret e G := fun a w ha hw => k a w ha hw
theorem QG.pass_exit {K : Act → World → Prop} {id : Nat} (k : QG W0 n ds Q (.exit id) e G) : QG W0 n ds (Exit.then K Q) (.exit id) e G := fun a w ha hw => k a w ha hw
theorem QG.block_normal {id : Nat} (k : QG W0 n ds Q .normal e G) : QG W0 n ds (Exit.inBlock id Q) .normal e G := fun a w ha hw => k a w ha hw
theorem QG.block_ret {id : Nat} (k : QG W0 n ds Q .ret e G) : QG W0 n ds (Exit.inBlock id Q) .ret e G := fun a w ha hw => k a w ha hw
theorem QG.block_exit {id : Nat} (k : QG W0 n ds Q .normal e G) : QG W0 n ds (Exit.inBlock id Q) (.exit id) e G := fun a w ha hw => by
  show (if id = id then Q .normal a w else Q (.exit id) a w); rw [if_pos rfl]; exact k a w ha hw
theorem QG.block_out {id id' : Nat} (hne : id' ≠ id) (k : QG W0 n ds Q (.exit id') e G) : QG W0 n ds (Exit.inBlock id Q) (.exit id') e G := fun a w ha hw => by
  show (if id' = id then Q .normal a w else Q (.exit id') a w); rw [if_neg hne]; exact k a w ha hw

theorem CG.imp {c : Code} {G' : List HProp} (hi : Imp G G') (k : CG r P W0 n ds c Q e G') : CG r P W0 n ds c Q e G := fun a w ha hw => k a w ha (hw.imp hi)
theorem OG.imp {l : List Oper} {G' : List HProp} (hi : Imp G G') (k : OG P W0 n ds ops Q l e G') : OG P W0 n ds ops Q l e G := fun a w ha hw => k a w ha (hw.imp hi)
theorem QG.imp {x : Exit} {G' : List HProp} (hi : Imp G G') (k : QG W0 n ds Q x e G') : QG W0 n ds Q x e G := fun a w ha hw => k a w ha (hw.imp hi)

/-- What holds at the head of a loop: for some i that meets φ the slots hold vals i and the memory bears Γ i. -/
def LoopAt (W0 : World) (n : Nat) (ds : List Deferred) {ι : Type} (φ : ι → Prop) (vals : ι → Env) (Γ : ι → List HProp) (μ : ι → Nat) (m : Nat) (a : Act) (w : World) : Prop :=
  ∃ i, φ i ∧ μ i < m ∧ At n ds (vals i) a ∧ Sat W0 (Γ i) w
theorem CG.loop {c : Code} {ι : Type} (φ : ι → Prop) (vals : ι → Env) (Γ : ι → List HProp) (μ : ι → Nat) (i0 : ι) (h0 : φ i0) (he : (vals i0).sub e) (hg : Imp G (Γ i0))
    (hr : ∀ i, φ i → CG r P W0 n ds c (Exit.then (LoopAt W0 n ds φ vals Γ μ (μ i)) Q) (vals i) (Γ i)) : CG r P W0 n ds (.loop c) Q e G := fun a w ha hw => by
  intro b k cs hro hF hrm
  have key : ∀ m i, μ i = m → ∀ a w, φ i → At n ds (vals i) a → Sat W0 (Γ i) w →
      ∃ x a' w', Q x a' w' ∧ ArrivesIn (Machine.fenced P (Fz r)) P (lone (b.atR a (.code c :: .inLoop c :: k)) cs w) b k cs x a' w' := by
    intro m
    induction m using Nat.strongRecOn with
    | _ m ih =>
      intro i hm a w hφ hat hsat
      obtain ⟨x, a1, w1, hq, harr⟩ := hr i hφ a w hat hsat b (.inLoop c :: k) cs hro hF hrm
      cases x with
      | normal =>
        obtain ⟨j, hj, hlt, hat', hsat'⟩ := hq
        obtain ⟨x2, a2, w2, hq2, harr2⟩ := ih (μ j) (by omega) j rfl a1 w1 hj hat' hsat'
        exact ⟨x2, a2, w2, hq2, .of_steps (StepsIn.trans harr (.one (fenced_calm hF hrm rfl) stepR_inLoop)) harr2⟩
      | exit id => exact ⟨_, a1, w1, hq, .pass (x := .inLoop c) rfl (fun _ _ => .inl (by simp)) harr⟩
      | goto l => exact ⟨_, a1, w1, hq, .pass (x := .inLoop c) rfl (fun _ _ => .inl (by simp)) harr⟩
      | ret => exact ⟨_, a1, w1, hq, .pass (x := .inLoop c) rfl (fun _ _ => .inl (by simp)) harr⟩
      | panic ch => exact ⟨_, a1, w1, hq, .pass (x := .inLoop c) rfl (fun _ _ => .inl (by simp)) harr⟩
      | outgrown => exact ⟨_, a1, w1, hq, .pass (x := .inLoop c) rfl (fun _ _ => .inl (by simp)) harr⟩
  obtain ⟨x, a', w', hq, harr⟩ := key _ i0 rfl a w h0 (ha.sub he) (hw.imp hg)
  exact ⟨x, a', w', hq, .of_steps (.one (fenced_calm hF hrm rfl) stepR_loop) harr⟩

/-- The function f has a body. -/
def CallOK (P : Program) (f : FuncId) : Prop := ∃ fn c, P.funcs[f]? = some fn ∧ fn.body = some c ∧ (fn.name == "runtime.NumGoroutine") = false
theorem OG.callo {d : Nat} {ty : TypeId} {pos : String} {af : Array Edge} {f : FuncId} {args : List Operand} {ats : Array TypeId} {vs : List Value} {G1 : List HProp} {α : Type} {φ : α → Prop} {v : α → Value} {G' : α → List HProp}
    (hc : CallOK P f) (ha : e.evs args = some vs) (hi : Imp G G1) (hs : Ctr P W0 f vs G1 φ v G') (hd : Nat.ble (d + 1) n = true)
    (k : ∀ x, φ x → OG P W0 n ds ops Q rest ((d, v x) :: e) (G' x)) :
    OG P W0 n ds ops Q (⟨some d, .call { callee := .value (.func f), args := args.toArray, argTypes := ats }, ty, pos, af, none⟩ :: rest) e G := by
  obtain ⟨fn, c, h1, h2, h3⟩ := hc
  exact OG.call hs h1 h2 h3 ha hi hd k

/-- What holds at a cut. -/
def Mid (W0 : World) (n : Nat) (ds : List Deferred) {ι : Type} (φ : ι → Prop) (vals : ι → Env) (Γ : ι → List HProp) (a : Act) (w : World) : Prop :=
  ∃ i, φ i ∧ At n ds (vals i) a ∧ Sat W0 (Γ i) w
theorem CG.cut {x y : Code} {ι : Type} (φ : ι → Prop) (vals : ι → Env) (Γ : ι → List HProp) (kx : CG r P W0 n ds x (Exit.then (Mid W0 n ds φ vals Γ) Q) e G) (ky : ∀ i, φ i → CG r P W0 n ds y Q (vals i) (Γ i)) :
    CG r P W0 n ds (.seq x y) Q e G := fun a w ha hw => by
  refine wpIn_seq (wpIn_mono (kx a w ha hw) fun ex a' w' h => ?_)
  cases ex with
  | normal => obtain ⟨i, hi, h1, h2⟩ := h; exact ky i hi a' w' h1 h2
  | _ => exact h
theorem QG.mid {ι : Type} {φ : ι → Prop} {vals : ι → Env} {Γ : ι → List HProp} (i : ι) (hi : φ i) (he : (vals i).sub e) (hg : Imp G (Γ i)) : QG W0 n ds (Exit.then (Mid W0 n ds φ vals Γ) Q) .normal e G := fun a w ha hw => ⟨i, hi, ha.sub he, hw.imp hg⟩
theorem Imp.pull {A : HProp} {G R G' : List HProp} (x : Ext G A R) (h : Imp R G') : Imp G (A :: G') := Imp.trans x.1 (Imp.cons h)
theorem Imp.none (G : List HProp) : Imp G [] := fun _ _ => trivial

theorem w64 {x : Int} (h1 : -9223372036854775808 ≤ x) (h2 : x ≤ 9223372036854775807) : IntKind.i64.wrap x = x := by rw [IntKind.wrap_i64]; omega
theorem tmod_pos {a b : Int} (h1 : 0 ≤ a) (_h2 : 0 < b) : a.tmod b = a % b := Int.tmod_eq_emod_of_nonneg h1
theorem tdiv_pos {a b : Int} (h1 : 0 ≤ a) (_h2 : 0 < b) (h3 : a ≤ 9223372036854775807) : IntKind.i64.wrap (a.tdiv b) = a / b := by
  rw [Int.tdiv_eq_ediv_of_nonneg h1, w64]
  · have := Int.ediv_nonneg h1 (by omega : 0 ≤ b); omega
  · have := Int.ediv_le_self b h1; omega
end
end Go.Sl
/-! Short words for what the walks say often. -/
namespace Go.Sl
theorem eX {G R : List HProp} {A : HProp} (h : Ext G A R := by repeat (first | exact Ext.here | apply Ext.there)) : Ext G A R := h
theorem fC {G : List HProp} {A : HProp} {put : HProp → List HProp} (h : Foc G A put := by repeat (first | exact Foc.here | apply Foc.there)) : Foc G A put := h
theorem iM {G G' : List HProp} (h : Imp G G' := by repeat (first | exact Imp.refl _ | exact Imp.none _ | apply Imp.pull (by repeat (first | exact Ext.here | apply Ext.there)) | apply Imp.trans Imp.drop)) : Imp G G' := h
theorem eS {e' e : Env} (h : e'.sub e := by repeat (first | exact Env.sub_nil _ | refine Env.sub_cons rfl ?_)) : e'.sub e := h
section
variable {P : Program} {W0 : World} {n : Nat} {ds : List Deferred} {ops : Array Oper} {Q : Exit → Act → World → Prop} {rest : List Oper} {e : Env} {G : List HProp}
theorem OG.gy {o : Oper} {j t : Nat} {want : Bool} (hg : o.guard = some (j, want)) (ht : (ops[j]?).bind (·.dst) = some t) (hv : e.get t = some (.bool want)) (k : OG P W0 n ds ops Q ({ o with guard := none } :: rest) e G) (hn : t < n := by decide) : OG P W0 n ds ops Q (o :: rest) e G := OG.guard_yes hg ht hv hn k
theorem OG.gn {o : Oper} {d j t : Nat} {want b : Bool} (hdst : o.dst = some d) (hg : o.guard = some (j, want)) (ht : (ops[j]?).bind (·.dst) = some t) (hv : e.get t = some (.bool b)) (hb : b = !want) (k : OG P W0 n ds ops Q rest ((d, undef) :: e) G) (hn : t < n := by decide) (hd : d < n := by decide) : OG P W0 n ds ops Q (o :: rest) e G := OG.guard_no hdst hg ht hv hb hn hd k
end
end Go.Sl
/- Blocks, slices and what may be read: assertions on the memory, and how stores and new blocks change them. No program in sight. -/
namespace Go.Sl
open Go Go.RowKit

/-- Block b has the cells cs, of elements of type t. -/
def blk (b : Nat) (cs : List Value) (t : TypeId) : HProp := fun h => h b = some (.cells cs.toArray t (0, 0))
/-- Block b is this object. -/
def obj (b : Nat) (o : Obj) : HProp := fun h => h b = some o
/-- All blocks that were there at first are as they were. -/
def old (W0 : World) : HProp := fun h => ∀ b, b < W0.heap.size → h b = W0.heap[b]?

def updH (h : Heaplet) (b : Nat) (o : Obj) : Heaplet := fun k => if k = b then some o else h k

/-- The world with another object at a block. -/
def setObjW (w : World) (b : Nat) (o : Obj) : World := { w with heap := w.heap.setIfInBounds b o }

theorem heapOf_set {w : World} {b : Nat} {o x : Obj} (h : w.heap[b]? = some x) : heapOf (setObjW w b o) = updH (heapOf w) b o := by
  funext k
  unfold heapOf setObjW updH
  have hlt : b < w.heap.size := by
    rcases Nat.lt_or_ge b w.heap.size with h1 | h1
    · exact h1
    · rw [Array.getElem?_eq_none h1] at h; cases h
  by_cases hk : k = b
  · subst hk; simp [hlt]
  · rw [if_neg hk]; simp only [Array.getElem?_setIfInBounds]; rw [if_neg (by omega)]

theorem Sep.write {A B : HProp} {R : List HProp} {h : Heaplet} {b : Nat} {o o' : Obj} (s : Sep (A :: R) h)
    (hA : ∀ f, hle f h → A f → f b = some o ∧ B (updH f b o')) : Sep (B :: R) (updH h b o') := by
  obtain ⟨f, hf, ha, hs⟩ := s
  obtain ⟨h1, h2⟩ := hA f hf ha
  refine ⟨updH f b o', fun k x e => ?_, h2, hs.mono fun k x e => ?_⟩
  · unfold updH at *
    split at e
    · rename_i h; rw [if_pos h]; exact e
    · rename_i h; rw [if_neg h]; exact hf k x e
  · obtain ⟨e1, e2⟩ := minus_some.1 e
    have hne : k ≠ b := fun q => by subst q; rw [h1] at e1; cases e1
    refine minus_some.2 ⟨by unfold updH; rw [if_neg hne]; exact e1, by unfold updH; rw [if_neg hne]; exact e2⟩

theorem Foc.write {G : List HProp} {A B : HProp} {put : HProp → List HProp} (fc : Foc G A put) {h : Heaplet} {b : Nat} {o o' : Obj} (s : Sep G h)
    (hA : ∀ f, hle f h → A f → f b = some o ∧ B (updH f b o')) : Sep (put B) (updH h b o') := by
  obtain ⟨R, e, hp⟩ := fc
  exact hp B _ (Sep.write (e.1 _ s) hA)

theorem Tr.set {W0 w : World} (t : Tr W0 w) (b : Nat) (o : Obj) : Tr W0 (setObjW w b o) := ⟨t.os, t.tape, t.output, by simpa [setObjW] using t.size⟩

theorem Sat.write {W0 w : World} {G : List HProp} {A B : HProp} {put : HProp → List HProp} (fc : Foc G A put) {b : Nat} {o o' : Obj} (s : Sat W0 G w) (hb : w.heap[b]? = some o)
    (hA : ∀ f, hle f (heapOf w) → A f → f b = some o ∧ B (updH f b o')) : Sat W0 (put B) (setObjW w b o') :=
  ⟨s.1.set b o', by rw [heapOf_set hb]; exact fc.write s.2 hA⟩

/-- A new block. -/
theorem Sat.new {W0 w : World} {G : List HProp} (s : Sat W0 G w) (o : Obj) : Sat W0 (obj w.heap.size o :: G) { w with heap := w.heap.push o } := by
  refine ⟨⟨s.1.os, s.1.tape, s.1.output, by have := s.1.size; simp; omega⟩, fun k => if k = w.heap.size then some o else none, fun k x e => ?_, by simp [obj], s.2.mono fun k x e => ?_⟩
  · dsimp only at e
    split at e
    · rename_i h; subst h; unfold heapOf; simp at e ⊢; exact e
    · cases e
  · unfold heapOf at *
    have hlt : k < w.heap.size := by
      rcases Nat.lt_or_ge k w.heap.size with h1 | h1
      · exact h1
      · rw [Array.getElem?_eq_none h1] at e; cases e
    refine minus_some.2 ⟨by rw [if_neg (by omega)], ?_⟩
    show (w.heap.push o)[k]? = _
    rw [Array.getElem?_push, if_neg (by omega)]; exact e

theorem Sat.draw {W0 w : World} {G : List HProp} (s : Sat W0 G w) (m : Nat) : Sat W0 G { w with drawn := m } := ⟨⟨s.1.os, s.1.tape, s.1.output, s.1.size⟩, s.2⟩

theorem Sat.ext {W0 w : World} {G R : List HProp} {A : HProp} (e : Ext G A R) (s : Sat W0 G w) : ∃ f, hle f (heapOf w) ∧ A f := Sep.sub e s.2

theorem Sat.get_blk {W0 w : World} {G R : List HProp} {b : Nat} {cs : List Value} {t : TypeId} (e : Ext G (blk b cs t) R) (s : Sat W0 G w) : w.heap[b]? = some (.cells cs.toArray t (0, 0)) :=
  let ⟨_, hf, hA⟩ := Sat.ext e s; hf _ _ hA
theorem Sat.get_obj {W0 w : World} {G R : List HProp} {b : Nat} {o : Obj} (e : Ext G (obj b o) R) (s : Sat W0 G w) : w.heap[b]? = some o :=
  let ⟨_, hf, hA⟩ := Sat.ext e s; hf _ _ hA
theorem Sat.get_old {W0 w : World} {G R : List HProp} (e : Ext G (old W0) R) (s : Sat W0 G w) (b : Nat) (hb : b < W0.heap.size) : w.heap[b]? = W0.heap[b]? := by
  obtain ⟨f, hf, hA⟩ := Sat.ext e s
  have h1 := hA b hb
  rw [Array.getElem?_eq_getElem hb] at h1 ⊢
  exact hf _ _ h1

theorem Sat.start (W0 : World) : Sat W0 [old W0] W0 := ⟨Tr.refl _, heapOf W0, hle_refl _, fun _ _ => rfl, trivial⟩
theorem Sat.below {W0 w : World} {G R : List HProp} (e : Ext G (old W0) R) (s : Sat W0 G w) : Below W0.heap.size W0 w :=
  ⟨s.1.os, s.1.tape, s.1.output, s.1.size, fun k hk => Sat.get_old e s k hk⟩

theorem foc_ext {G : List HProp} {A : HProp} {put : HProp → List HProp} (f : Foc G A put) : ∃ R, Ext G A R := let ⟨R, e, _⟩ := f; ⟨R, e⟩

/-! ### Cells that may be read -/
section
variable (W0 : World) (G : List HProp)
/-- The cell a holds v. -/
def Cel (a : Addr) (v : Value) : Prop := ∀ w, Sat W0 G w → w.cell? a = some v
/-- From offset o of block b on the cells are xs. -/
def Row (b o : Nat) (xs : List Value) : Prop := ∀ i v, xs[i]? = some v → Cel W0 G ⟨b, o + i, none⟩ v
end

theorem cell_of_heap {w : World} {b o : Nat} {cs : List Value} {t : TypeId} {fr : Nat × Nat} (h : w.heap[b]? = some (.cells cs.toArray t fr)) : w.cell? ⟨b, o, none⟩ = cs[o]? := by
  unfold World.cell?; rw [h]; simp

theorem Cel.of_blk {W0 : World} {G R : List HProp} {b o : Nat} {cs : List Value} {t : TypeId} {v : Value} (e : Ext G (blk b cs t) R) (h : cs[o]? = some v) : Cel W0 G ⟨b, o, none⟩ v := fun w s => by
  rw [cell_of_heap (Sat.get_blk e s)]; exact h
theorem Cel.of_old {W0 : World} {G R : List HProp} {a : Addr} {v : Value} (e : Ext G (old W0) R) (h : W0.cell? a = some v) : Cel W0 G a v := fun w s => by
  have hlt : a.block < W0.heap.size := by
    rcases Nat.lt_or_ge a.block W0.heap.size with h1 | h1
    · exact h1
    · unfold World.cell? at h; rw [Array.getElem?_eq_none h1] at h; cases h
  have := Sat.get_old e s a.block hlt
  unfold World.cell? at *; rw [this]; exact h
theorem Row.of_blk {W0 : World} {G R : List HProp} {b o : Nat} {cs xs : List Value} {t : TypeId} (e : Ext G (blk b cs t) R) (h : (cs.drop o).take xs.length = xs) : Row W0 G b o xs := fun i v hi =>
  Cel.of_blk e (by
    have hlt : i < xs.length := by
      rcases Nat.lt_or_ge i xs.length with h1 | h1
      · exact h1
      · rw [List.getElem?_eq_none h1] at hi; cases hi
    rw [← h, List.getElem?_take_of_lt hlt, List.getElem?_drop] at hi
    exact hi)
theorem Row.of_old {W0 : World} {G R : List HProp} {b o : Nat} {xs : List Value} (e : Ext G (old W0) R) (h : ∀ i v, xs[i]? = some v → W0.cell? ⟨b, o + i, none⟩ = some v) : Row W0 G b o xs := fun i v hi =>
  Cel.of_old e (h i v hi)
theorem Row.imp {W0 : World} {G G' : List HProp} {b o : Nat} {xs : List Value} (h : Row W0 G' b o xs) (hi : Imp G G') : Row W0 G b o xs := fun i v q w s => h i v q w (s.imp hi)
/-! ### Runs over rows -/
section
variable {P : Program}

theorem run_bind_ok {α β : Type} {x : Sem α} {f : α → Sem β} {w w' : World} {a : α} (h : x.run P w = .ok a w') : (x.bind f).run P w = (f a).run P w' := by
  induction x generalizing w with
  | pure b => simp [Sem.run] at h; obtain ⟨rfl, rfl⟩ := h; simp [Sem.bind]
  | load m ad k ih =>
    simp only [Sem.run, Sem.bind] at h ⊢
    split at h
    · exact ih _ h
    · split at h
      · exact ih _ h
      · cases h
  | store m ad v k ih =>
    cases v <;> simp only [Sem.run, Sem.bind] at h ⊢ <;> first
      | (cases h; done)
      | (split at h
         · split at h
           · cases h
           · rename_i h2; simp only [h2]; exact ih h
         · split at h
           · exact ih h
           · cases h)
  | new o k ih => simp only [Sem.run, Sem.bind] at h ⊢; exact ih _ h
  | shape r k ih => simp only [Sem.run, Sem.bind] at h ⊢; exact ih _ h
  | freeze a n k ih => simp only [Sem.run, Sem.bind] at h ⊢; exact ih h
  | frozen a k ih => simp only [Sem.run, Sem.bind] at h ⊢; exact ih _ h
  | getObj r k ih =>
    simp only [Sem.run, Sem.bind] at h ⊢
    split at h
    · cases h
    · exact ih _ h
    · cases h
  | setObj r o k ih =>
    simp only [Sem.run, Sem.bind] at h ⊢
    split at h
    · cases h
    · exact ih h
    · cases h
  | choose q k ih =>
    simp only [Sem.run, Sem.bind] at h ⊢
    split at h
    · rename_i h2; rw [if_pos h2]; exact ih _ h
    · rename_i h2; rw [if_neg h2]; exact ih _ h
  | sys c k ih => simp only [Sem.run, Sem.bind] at h ⊢; exact ih _ h
  | program k ih => simp only [Sem.run, Sem.bind] at h ⊢; exact ih _ h
  | mark m k ih => simp only [Sem.run, Sem.bind] at h ⊢; exact ih h
  | halt x => simp [Sem.run] at h

theorem add_at (b o i : Nat) : Addr.add ⟨b, o, none⟩ i = ⟨b, o + i, none⟩ := by
  unfold Addr.add; split
  · rename_i h; subst h; rfl
  · rfl

theorem run_loadCellsFrom {b o : Nat} {w : World} : ∀ (m i : Nat) (xs : List Value) (acc : Array Value), xs.length = m → (∀ j v, xs[j]? = some v → w.cell? ⟨b, o + (i + j), none⟩ = some v) →
    (loadCellsFrom ⟨b, o, none⟩ i m acc).run P w = .ok (acc ++ xs.toArray) w
  | 0, _, xs, acc, hl, _ => by
    have : xs = [] := List.length_eq_zero_iff.1 hl
    subst this; simp [loadCellsFrom, pure]
  | m + 1, i, [], acc, hl, _ => by simp at hl
  | m + 1, i, x :: xs, acc, hl, hc => by
    have h0 : w.cell? ⟨b, o + i, none⟩ = some x := by simpa using hc 0 x (by simp)
    have h1 : (load (Addr.add ⟨b, o, none⟩ i)).run P w = .ok x w := by rw [add_at]; simp [load, Sem.run, h0]
    show ((load (Addr.add ⟨b, o, none⟩ i)).bind fun v => loadCellsFrom ⟨b, o, none⟩ (i + 1) m (acc.push v)).run P w = _
    rw [run_bind_ok h1, run_loadCellsFrom m (i + 1) xs _ (by simpa using hl) (fun j v hj => by
      have := hc (j + 1) v (by simpa using hj)
      rw [show i + 1 + j = i + (j + 1) by omega]; exact this)]
    simp
theorem run_loadCells {b o : Nat} {w : World} {xs : List Value} {m : Nat} (hl : xs.length = m) (hc : ∀ j v, xs[j]? = some v → w.cell? ⟨b, o + j, none⟩ = some v) :
    (loadCells ⟨b, o, none⟩ m).run P w = .ok xs.toArray w := by
  unfold loadCells
  rw [run_loadCellsFrom m 0 xs #[] hl (fun j v hj => by rw [Nat.zero_add]; exact hc j v hj)]
  simp

/-- cs, with vs written over it from o on. -/
def over (cs : List Value) (o : Nat) (vs : List Value) : List Value := cs.take o ++ vs ++ cs.drop (o + vs.length)
theorem over_length {cs : List Value} {o : Nat} {vs : List Value} (h : o + vs.length ≤ cs.length) : (over cs o vs).length = cs.length := by
  unfold over; simp; omega
theorem over_nil (cs : List Value) (o : Nat) : over cs o [] = cs := by unfold over; simp
theorem over_one {cs : List Value} {o : Nat} {v : Value} (h : o < cs.length) : over cs o [v] = cs.set o v := by
  unfold over; rw [List.set_eq_take_append_cons_drop, if_pos h]; simp
theorem over_cons {cs : List Value} {o : Nat} {v : Value} {vs : List Value} (h : o + (v :: vs).length ≤ cs.length) : over (cs.set o v) (o + 1) vs = over cs o (v :: vs) := by
  simp only [List.length_cons] at h
  have ho : o < cs.length := by omega
  have h1 : (cs.set o v).take (o + 1) = cs.take o ++ [v] := by
    rw [List.set_eq_take_append_cons_drop, if_pos ho, List.take_append]
    simp [Nat.min_eq_left (Nat.le_of_lt ho), List.take_take, Nat.min_eq_right (Nat.le_succ o)]
  have h2 : (cs.set o v).drop (o + 1 + vs.length) = cs.drop (o + 1 + vs.length) := by
    rw [List.drop_set, if_pos (by omega)]
  unfold over
  rw [h1, h2]
  simp only [List.length_cons, List.append_assoc, List.cons_append, List.nil_append]
  rw [show o + 1 + vs.length = o + (vs.length + 1) by omega]

/-- No cell of the first m is frozen. -/
def NoFr (fr : Nat × Nat) (m : Nat) : Prop := fr.1 = fr.2 ∨ m ≤ fr.1
theorem NoFr.zero (m : Nat) : NoFr (0, 0) m := .inl rfl
theorem cells_frozen {w : World} {b o : Nat} {cs : Array Value} {t : TypeId} {fr : Nat × Nat} (h : w.heap[b]? = some (.cells cs t fr)) (hf : NoFr fr cs.size) (ho : o < cs.size) : w.frozen? ⟨b, o, none⟩ = false := by
  unfold World.frozen?; rw [h]
  unfold NoFr at hf
  simp; omega

/-- A value that fills one cell. -/
def one : Value → Bool
  | .agg _ | .tuple _ => false
  | _ => true

theorem setCell_eq {w : World} {b o : Nat} {cs : List Value} {t : TypeId} {fr : Nat × Nat} (h : w.heap[b]? = some (.cells cs.toArray t fr)) (v : Value) : w.setCell ⟨b, o, none⟩ v = setObjW w b (.cells (cs.set o v).toArray t fr) := by
  unfold World.setCell setObjW
  have hlt : b < w.heap.size := by
    rcases Nat.lt_or_ge b w.heap.size with h1 | h1
    · exact h1
    · rw [Array.getElem?_eq_none h1] at h; cases h
  congr 1
  apply Array.ext_getElem?
  intro i
  simp only [Array.getElem?_modify, Array.getElem?_setIfInBounds]
  by_cases hi : b = i
  · subst hi
    rw [if_pos rfl, h]; simp [hlt]
  · rw [if_neg hi, if_neg hi]

theorem setObjW_set (w : World) (b : Nat) (o o' : Obj) : setObjW (setObjW w b o) b o' = setObjW w b o' := by
  unfold setObjW; simp
theorem setObjW_get {w : World} {b : Nat} {o x : Obj} (h : w.heap[b]? = some x) : (setObjW w b o).heap[b]? = some o := by
  have := congrFun (heapOf_set (o := o) h) b
  unfold heapOf updH at this; simpa using this
theorem setObjW_same {w : World} {b : Nat} {o : Obj} (h : w.heap[b]? = some o) : setObjW w b o = w := by
  unfold setObjW
  have : w.heap.setIfInBounds b o = w.heap := by
    apply Array.ext_getElem?
    intro i
    simp only [Array.getElem?_setIfInBounds]
    by_cases hi : b = i
    · subst hi
      rw [if_pos rfl, h]
      have hlt : b < w.heap.size := by
        rcases Nat.lt_or_ge b w.heap.size with h1 | h1
        · exact h1
        · rw [Array.getElem?_eq_none h1] at h; cases h
      simp [hlt]
    · rw [if_neg hi]
  rw [this]

theorem run_store {w : World} {b o : Nat} {cs : List Value} {t : TypeId} {fr : Nat × Nat} {v : Value} (h : w.heap[b]? = some (.cells cs.toArray t fr)) (hf : NoFr fr cs.length) (ho : o < cs.length) (hv : one v = true) :
    (store ⟨b, o, none⟩ v).run P w = .ok () (setObjW w b (.cells (cs.set o v).toArray t fr)) := by
  have h1 : w.cell? ⟨b, o, none⟩ = some cs[o] := by rw [cell_of_heap h]; simp [ho]
  have h2 := cells_frozen (o := o) h (by simpa using hf) (by simpa using ho)
  have h3 := setCell_eq (o := o) h v
  cases v <;> simp [one] at hv <;> simp [store, Sem.run, h1, h2, h3]

theorem run_storeCells {b o : Nat} {t : TypeId} {fr : Nat × Nat} : ∀ (vs : List Value) (i : Nat) (w : World) (cs : List Value), w.heap[b]? = some (.cells cs.toArray t fr) → NoFr fr cs.length → o + i + vs.length ≤ cs.length → (∀ v ∈ vs, one v = true) →
    (storeCells ⟨b, o, none⟩ vs i).run P w = .ok () (setObjW w b (.cells (over cs (o + i) vs).toArray t fr))
  | [], i, w, cs, h, _, _, _ => by
    unfold storeCells; rw [over_nil, setObjW_same h]; simp [pure]
  | v :: vs, i, w, cs, h, hf, hl, hv => by
    simp only [List.length_cons] at hl
    have h1 := run_store (P := P) (o := o + i) h hf (show o + i < cs.length by omega) (hv v (by simp))
    show ((store (Addr.add ⟨b, o, none⟩ i) v).bind fun _ => storeCells ⟨b, o, none⟩ vs (i + 1)).run P w = _
    rw [add_at, run_bind_ok h1, run_storeCells vs (i + 1) _ (cs.set (o + i) v) (setObjW_get h) (by simpa using hf) (by simp; omega) (fun u hu => hv u (by simp [hu]))]
    rw [setObjW_set, show o + (i + 1) = o + i + 1 by omega, over_cons (by simp; omega)]

end
end Go.Sl
/- The operations, one by one: what each yields and how it changes what the memory bears. No program in sight. -/
namespace Go.Sl
open Go Go.RowKit

/-- What is asked of a type: its cells, its bytes, its zero value; is it a struct or an array? -/
def tyInfo (P : Program) (t : TypeId) : Option (Nat × Nat × Option Value × Bool) :=
  match P.info? t, P.underlying t with
  | some i, some d => some (i.size, i.bytes, i.zero, match d with | .struct _ => true | .array _ _ => true | _ => false)
  | _, _ => none
def TI (P : Program) (t : TypeId) (sz by' : Nat) (z : Value) (ag : Bool) : Prop := tyInfo P t = some (sz, by', some z, ag)

section
variable {P : Program} {W0 : World} {e : Env} {G : List HProp} {ty : TypeId}

theorem TI.info {t sz by' z ag} (h : TI P t sz by' z ag) : ∃ i, P.info? t = some i ∧ i.size = sz ∧ i.bytes = by' ∧ i.zero = some z := by
  unfold TI tyInfo at h
  split at h
  · rename_i i d h1 h2
    simp only [Option.some.injEq, Prod.mk.injEq] at h
    exact ⟨i, h1, h.1, h.2.1, h.2.2.1⟩
  · cases h
theorem TI.run_size {t sz by' z ag} (h : TI P t sz by' z ag) (w : World) : (sizeOf t).run P w = .ok sz w := by
  obtain ⟨i, hi, rfl, _, _⟩ := h.info
  simp [sizeOf, typeInfo, program, bind, Sem.bind, pure, hi, Sem.run]
theorem TI.run_zero {t sz by' z ag} (h : TI P t sz by' z ag) (w : World) : (zeroValue t).run P w = .ok z w := by
  obtain ⟨i, hi, _, _, hz⟩ := h.info
  simp [zeroValue, typeInfo, program, bind, Sem.bind, pure, hi, Sem.run, hz]
theorem TI.run_info {t sz by' z ag} (h : TI P t sz by' z ag) (w : World) : ∃ i, (typeInfo t).run P w = .ok i w ∧ i.size = sz ∧ i.bytes = by' ∧ i.zero = some z := by
  obtain ⟨i, hi, h1, h2, h3⟩ := h.info
  exact ⟨i, by simp [typeInfo, program, bind, Sem.bind, pure, hi, Sem.run], h1, h2, h3⟩
theorem TI.run_agg {t sz by' z ag} (h : TI P t sz by' z ag) (w : World) : (isAgg t).run P w = .ok ag w := by
  unfold TI tyInfo at h
  split at h
  · rename_i i d h1 h2
    simp only [Option.some.injEq, Prod.mk.injEq] at h
    have h3 := h.2.2.2
    cases d <;> simp [isAgg, underlying, program, bind, Sem.bind, pure, h2, Sem.run] <;> simpa using h3
  · cases h
theorem run_underlying {t : TypeId} {d : TypeDesc} (h : P.underlying t = some d) (w : World) : (underlying t).run P w = .ok d w := by
  simp [underlying, program, bind, Sem.bind, pure, h, Sem.run]

/-! ### without memory -/
theorem Yield.move {x : Operand} {v : Value} (h : e.ev x = some v) : Yield P W0 (.move x) ty e G v := fun ρ hρ w _ _ _ _ _ => by
  simp [execOp, hρ x v h, pure, Sem.run]
theorem Yield.assign {x : Operand} {v : Value} (h : e.ev x = some v) : Yield P W0 (.assign x) ty e G v := fun ρ hρ w _ _ _ _ _ => by
  simp [execOp, hρ x v h, pure, Sem.run]
theorem Yield.nilCheck {x : Operand} {a : Addr} (h : e.ev x = some (.pointer (some a))) : Yield P W0 (.nilCheck x) ty e G (.pointer (some a)) := fun ρ hρ w _ _ _ _ _ => by
  simp [execOp, hρ x _ h, pure, Sem.run]

/-- The field f of the struct type s lies at offset o. -/
def fieldAt? (P : Program) (s f : Nat) : Option Nat :=
  match P.underlying s with
  | some (.struct fs) =>
    match fs[f]? with
    | some d =>
      match P.info? d.type with
      | some i => if i.size = 0 then none else some d.offset
      | none => none
    | none => none
  | _ => none
def FieldAt (P : Program) (s f o : Nat) : Prop := fieldAt? P s f = some o
/-- The type and the offset of a field. -/
def fieldOf? (P : Program) (s f : Nat) : Option (Nat × Nat) :=
  match P.underlying s with
  | some (.struct fs) =>
    match fs[f]? with
    | some d => some (d.type, d.offset)
    | none => none
  | _ => none
theorem Yield.fieldAddr {s f o : Nat} {x : Operand} {b p : Nat} (hf : FieldAt P s f o) (h : e.ev x = some (.pointer (some ⟨b, p, none⟩))) : Yield P W0 (.fieldAddr s x f) ty e G (.pointer (some ⟨b, p + o, none⟩)) := fun ρ hρ w _ _ _ _ _ => by
  unfold FieldAt fieldAt? at hf
  split at hf
  · rename_i fs hu
    split at hf
    · rename_i d hd
      split at hf
      · rename_i i hi
        split at hf
        · cases hf
        · rename_i hs
          simp only [Option.some.injEq] at hf
          subst hf
          simp [execOp, hρ x _ h, pure, Sem.run, Instr.fieldAt, underlying, program, bind, Sem.bind, hu, hd, Instr.sureAddr, fieldPlace, sizeOf, typeInfo, hi, hs, add_at]
      · cases hf
    · cases hf
  · cases hf

theorem Yield.field {s f o : Nat} {x : Operand} {cs : List Value} {v : Value} {ft sz by' z} (hf : fieldOf? P s f = some (ft, o))
    (ht : TI P ft sz by' z false) (h : e.ev x = some (.agg cs.toArray)) (hv : cs[o]? = some v) : Yield P W0 (.field s x f) ty e G v := fun ρ hρ w _ _ _ _ _ => by
  unfold fieldOf? at hf
  split at hf
  · rename_i fs hu
    split at hf
    · rename_i d hd
      simp only [Option.some.injEq, Prod.mk.injEq] at hf
      obtain ⟨rfl, rfl⟩ := hf
      have h1 := ht.run_agg w
      have h2 : (part d.type cs.toArray d.offset).run P w = .ok v w := by
        unfold part
        show ((isAgg d.type).bind _).run P w = _
        rw [run_bind_ok h1]
        simp [hv, pure, Sem.run]
      have h3 : (Instr.field s (ρ x) f).run P w = .ok v w := by
        unfold Instr.field
        show ((underlying s).bind _).run P w = _
        rw [run_bind_ok (run_underlying hu w), hρ x _ h]
        simp [hd, asAgg, bind, Sem.bind, pure, h2]
      show (((Instr.field s (ρ x) f)).bind _).run P w = _
      rw [run_bind_ok h3]; rfl
    · cases hf
  · cases hf
theorem guard_int {op : BinOp} {t : TypeId} {x y : Operand} {k k' : IntKind} {a b : Int} (w : World) : (eqGuard op t x y (.int k a) (.int k' b)).run P w = .ok () w := by
  unfold eqGuard; split <;> simp [pure, Sem.run]
theorem Yield.arith {op : BinOp} {t t' : TypeId} {x y : Operand} {k : IntKind} {a b c : Int} (hx : e.ev x = some (.int k a)) (hy : e.ev y = some (.int k b))
    (ho : (match op with | .add => some (k.wrap (a + b)) | .sub => some (k.wrap (a - b)) | .mul => some (k.wrap (a * b)) | _ => none) = some c) : Yield P W0 (.binOp op t x y t') ty e G (.int k c) := fun ρ hρ w _ _ _ _ _ => by
  have h0 := guard_int (P := P) (op := op) (t := t) (x := x) (y := y) (k := k) (k' := k) (a := a) (b := b) w
  have h1 : (binOp op t (.int k a) (.int k b)).run P w = .ok (.int k c) w := by
    cases op <;> simp at ho <;> simp [binOp, Op.intArith, pure, Sem.run, ho]
  show (((eqGuard op t x y (ρ x) (ρ y)).bind fun _ => binOp op t (ρ x) (ρ y)).bind _).run P w = _
  rw [hρ x _ hx, hρ y _ hy]
  rw [run_bind_ok (show ((eqGuard op t x y (.int k a) (.int k b)).bind fun _ => binOp op t (.int k a) (.int k b)).run P w = .ok (.int k c) w by rw [run_bind_ok h0, h1])]
  rfl
theorem Yield.add {t t' : TypeId} {x y : Operand} {k : IntKind} {a b c : Int} (hx : e.ev x = some (.int k a)) (hy : e.ev y = some (.int k b)) (hc : k.wrap (a + b) = c) : Yield P W0 (.binOp .add t x y t') ty e G (.int k c) := Yield.arith hx hy (by simp [hc])
theorem Yield.sub {t t' : TypeId} {x y : Operand} {k : IntKind} {a b c : Int} (hx : e.ev x = some (.int k a)) (hy : e.ev y = some (.int k b)) (hc : k.wrap (a - b) = c) : Yield P W0 (.binOp .sub t x y t') ty e G (.int k c) := Yield.arith hx hy (by simp [hc])
theorem Yield.mul {t t' : TypeId} {x y : Operand} {k : IntKind} {a b c : Int} (hx : e.ev x = some (.int k a)) (hy : e.ev y = some (.int k b)) (hc : k.wrap (a * b) = c) : Yield P W0 (.binOp .mul t x y t') ty e G (.int k c) := Yield.arith hx hy (by simp [hc])

/-- The comparisons. -/
def cmpB : BinOp → Int → Int → Option Bool
  | .eql, a, b => some (decide (a = b))
  | .neq, a, b => some (decide (a ≠ b))
  | .lss, a, b => some (decide (a < b))
  | .leq, a, b => some (decide (a ≤ b))
  | .gtr, a, b => some (decide (b < a))
  | .geq, a, b => some (decide (b ≤ a))
  | _, _, _ => none
theorem Yield.cmp {op : BinOp} {t t' : TypeId} {x y : Operand} {k : IntKind} {a b : Int} {c : Bool} (hx : e.ev x = some (.int k a)) (hy : e.ev y = some (.int k b)) (hc : cmpB op a b = some c) : Yield P W0 (.binOp op t x y t') ty e G (.bool c) := fun ρ hρ w _ _ _ _ _ => by
  have h0 := guard_int (P := P) (op := op) (t := t) (x := x) (y := y) (k := k) (k' := k) (a := a) (b := b) w
  have h1 : (binOp op t (.int k a) (.int k b)).run P w = .ok (.bool c) w := by
    cases op <;> simp only [cmpB, Option.some.injEq, reduceCtorEq] at hc <;> subst hc <;> simp [binOp, Op.intCmp, pure, Sem.run]
    all_goals (by_cases h : a = b <;> simp [h])
  show (((eqGuard op t x y (ρ x) (ρ y)).bind fun _ => binOp op t (ρ x) (ρ y)).bind _).run P w = _
  rw [hρ x _ hx, hρ y _ hy]
  rw [run_bind_ok (show ((eqGuard op t x y (.int k a) (.int k b)).bind fun _ => binOp op t (.int k a) (.int k b)).run P w = .ok (.bool c) w by rw [run_bind_ok h0, h1])]
  rfl
theorem Yield.lss {t t' : TypeId} {x y : Operand} {k : IntKind} {a b : Int} (hx : e.ev x = some (.int k a)) (hy : e.ev y = some (.int k b)) : Yield P W0 (.binOp .lss t x y t') ty e G (.bool (decide (a < b))) := Yield.cmp hx hy rfl
theorem Yield.leq {t t' : TypeId} {x y : Operand} {k : IntKind} {a b : Int} (hx : e.ev x = some (.int k a)) (hy : e.ev y = some (.int k b)) : Yield P W0 (.binOp .leq t x y t') ty e G (.bool (decide (a ≤ b))) := Yield.cmp hx hy rfl
theorem Yield.gtr {t t' : TypeId} {x y : Operand} {k : IntKind} {a b : Int} (hx : e.ev x = some (.int k a)) (hy : e.ev y = some (.int k b)) : Yield P W0 (.binOp .gtr t x y t') ty e G (.bool (decide (b < a))) := Yield.cmp hx hy rfl
theorem Yield.geq {t t' : TypeId} {x y : Operand} {k : IntKind} {a b : Int} (hx : e.ev x = some (.int k a)) (hy : e.ev y = some (.int k b)) : Yield P W0 (.binOp .geq t x y t') ty e G (.bool (decide (b ≤ a))) := Yield.cmp hx hy rfl
theorem Yield.eql {t t' : TypeId} {x y : Operand} {k : IntKind} {a b : Int} (hx : e.ev x = some (.int k a)) (hy : e.ev y = some (.int k b)) : Yield P W0 (.binOp .eql t x y t') ty e G (.bool (decide (a = b))) := Yield.cmp hx hy rfl
theorem Yield.neq {t t' : TypeId} {x y : Operand} {k : IntKind} {a b : Int} (hx : e.ev x = some (.int k a)) (hy : e.ev y = some (.int k b)) : Yield P W0 (.binOp .neq t x y t') ty e G (.bool (decide (a ≠ b))) := Yield.cmp hx hy rfl

theorem Yield.rem {t t' : TypeId} {x y : Operand} {k : IntKind} {a b c : Int} (hx : e.ev x = some (.int k a)) (hy : e.ev y = some (.int k b)) (hb : b ≠ 0) (hc : a.tmod b = c) : Yield P W0 (.binOp .rem t x y t') ty e G (.int k c) := fun ρ hρ w _ _ _ _ _ => by
  simp [execOp, hρ x _ hx, hρ y _ hy, eqGuard, binOp, Op.intDiv, hb, hc, bind, Sem.bind, pure, Sem.run]
theorem Yield.quo {t t' : TypeId} {x y : Operand} {k : IntKind} {a b c : Int} (hx : e.ev x = some (.int k a)) (hy : e.ev y = some (.int k b)) (hb : b ≠ 0) (hc : k.wrap (a.tdiv b) = c) : Yield P W0 (.binOp .quo t x y t') ty e G (.int k c) := fun ρ hρ w _ _ _ _ _ => by
  simp [execOp, hρ x _ hx, hρ y _ hy, eqGuard, binOp, Op.intDiv, hb, hc, bind, Sem.bind, pure, Sem.run]
theorem Yield.bitop {op : BinOp} {t t' : TypeId} {x y : Operand} {k : IntKind} {a b c : Int} (hx : e.ev x = some (.int k a)) (hy : e.ev y = some (.int k b)) (hop : (match op with | .and | .or | .xor | .andNot => true | _ => false) = true) (hc : Go.bits op k a b = c) : Yield P W0 (.binOp op t x y t') ty e G (.int k c) := fun ρ hρ w _ _ _ _ _ => by
  have h0 := guard_int (P := P) (op := op) (t := t) (x := x) (y := y) (k := k) (k' := k) (a := a) (b := b) w
  have h1 : (binOp op t (.int k a) (.int k b)).run P w = .ok (.int k c) w := by
    subst hc
    cases op <;> simp at hop <;> simp [binOp, Op.intBits, Go.bits, pure, Sem.run]
  show (((eqGuard op t x y (ρ x) (ρ y)).bind fun _ => binOp op t (ρ x) (ρ y)).bind _).run P w = _
  rw [hρ x _ hx, hρ y _ hy]
  rw [run_bind_ok (show ((eqGuard op t x y (.int k a) (.int k b)).bind fun _ => binOp op t (.int k a) (.int k b)).run P w = .ok (.int k c) w by rw [run_bind_ok h0, h1])]
  rfl
theorem Yield.shl {t t' : TypeId} {x y : Operand} {k k' : IntKind} {a c b : Int} {m : Nat} (hx : e.ev x = some (.int k a)) (hy : e.ev y = some (.int k' b)) (hb : b = (m : Int)) (hm : m ≤ k.bits) (hc : k.wrap (a * 2 ^ m) = c) : Yield P W0 (.binOp .shl t x y t') ty e G (.int k c) := fun ρ hρ w _ _ _ _ _ => by
  have hb0 : ¬ b < 0 := by omega
  have hb1 : min b.toNat k.bits = m := by omega
  simp [execOp, hρ x _ hx, hρ y _ hy, eqGuard, binOp, Op.shift, hb0, hb1, hc, bind, Sem.bind, pure, Sem.run]
theorem Yield.shr {t t' : TypeId} {x y : Operand} {k k' : IntKind} {a c b : Int} {m : Nat} (hx : e.ev x = some (.int k a)) (hy : e.ev y = some (.int k' b)) (hb : b = (m : Int)) (hm : m ≤ k.bits) (hc : a / 2 ^ m = c) : Yield P W0 (.binOp .shr t x y t') ty e G (.int k c) := fun ρ hρ w _ _ _ _ _ => by
  have hb0 : ¬ b < 0 := by omega
  have hb1 : min b.toNat k.bits = m := by omega
  have hc' : a.fdiv (2 ^ m) = c := by rw [Int.fdiv_eq_ediv_of_nonneg _ (Int.pow_nonneg (by decide))]; exact hc
  simp [execOp, hρ x _ hx, hρ y _ hy, eqGuard, binOp, Op.shift, hb0, hb1, hc', bind, Sem.bind, pure, Sem.run]
theorem Yield.conv {src dst : TypeId} {x : Operand} {k k' : IntKind} {a c : Int} (hd : P.underlying dst = some (.int k')) (hs : (P.underlying src).isSome = true) (hx : e.ev x = some (.int k a)) (hc : k'.wrap a = c) : Yield P W0 (.convert src dst x) ty e G (.int k' c) := fun ρ hρ w _ _ _ _ _ => by
  obtain ⟨d, hs⟩ := Option.isSome_iff_exists.1 hs
  have h1 : (convert src dst (.int k a)).run P w = .ok (.int k' c) w := by
    unfold convert
    show ((underlying src).bind _).run P w = _
    rw [run_bind_ok (run_underlying hs w)]
    show ((underlying dst).bind _).run P w = _
    rw [run_bind_ok (run_underlying hd w)]
    simp [Conv.intToInt, pure, Sem.run, hc]
  show ((convert src dst (ρ x)).bind _).run P w = _
  rw [hρ x _ hx, run_bind_ok h1]; rfl
theorem Yield.not {t : TypeId} {x : Operand} {b : Bool} (hx : e.ev x = some (.bool b)) : Yield P W0 (.unOp .not t x) ty e G (.bool (!b)) := fun ρ hρ w _ _ _ _ _ => by
  simp [execOp, hρ x _ hx, Op.unary, bind, Sem.bind, pure, Sem.run]
theorem Yield.pick {c a b : Operand} {q : Bool} {u v : Value} (hc : e.ev c = some (.bool q)) (ha : q = true → e.ev a = some u) (hb : q = false → e.ev b = some v) : Yield P W0 (.pick c a b) ty e G (if q then u else v) := fun ρ hρ w _ _ _ _ _ => by
  cases q
  · simp [execOp, hρ c _ hc, hρ b _ (hb rfl), asBool, bind, Sem.bind, pure, Sem.run]
  · simp [execOp, hρ c _ hc, hρ a _ (ha rfl), asBool, bind, Sem.bind, pure, Sem.run]
theorem Yield.pick_t {c a b : Operand} {u : Value} (hc : e.ev c = some (.bool true)) (ha : e.ev a = some u) : Yield P W0 (.pick c a b) ty e G u :=
  Yield.pick (q := true) (u := u) (v := u) hc (fun _ => ha) (fun h => by cases h)
theorem Yield.pick_f {c a b : Operand} {v : Value} (hc : e.ev c = some (.bool false)) (hb : e.ev b = some v) : Yield P W0 (.pick c a b) ty e G v :=
  Yield.pick (q := false) (u := v) (v := v) hc (fun h => by cases h) (fun _ => hb)
theorem Yield.extract {x : Operand} {i : Nat} {vs : Array Value} {v : Value} (hx : e.ev x = some (.tuple vs)) (hv : vs[i]? = some v) : Yield P W0 (.extract x i) ty e G v := fun ρ hρ w _ _ _ _ _ => by
  simp [execOp, hρ x _ hx, Instr.extract, hv, bind, Sem.bind, pure, Sem.run]

theorem Yield.as {op : Op} {v v' : Value} (h : Yield P W0 op ty e G v) (q : v = v') : Yield P W0 op ty e G v' := q ▸ h
theorem bT {p : Prop} [Decidable p] (h : p) : Value.bool (decide p) = .bool true := by rw [decide_eq_true h]
theorem bF {p : Prop} [Decidable p] (h : ¬ p) : Value.bool (decide p) = .bool false := by rw [decide_eq_false h]
theorem run_equal_ptr_nil {t el : TypeId} {a : Addr} (hu : P.underlying t = some (.pointer el)) (w : World) : (Op.equal t (.pointer (some a)) (.pointer none)).run P w = .ok false w := by
  show (Op.equalIn (9999 + 1) t (.pointer (some a)) (.pointer none)).run P w = _
  rw [Op.equalIn]
  show ((underlying t).bind _).run P w = _
  rw [run_bind_ok (run_underlying hu w)]
  rfl
theorem run_equal_nil_nil {t el : TypeId} (hu : P.underlying t = some (.pointer el)) (w : World) : (Op.equal t (.pointer none) (.pointer none)).run P w = .ok true w := by
  show (Op.equalIn (9999 + 1) t (.pointer none) (.pointer none)).run P w = _
  rw [Op.equalIn]
  show ((underlying t).bind _).run P w = _
  rw [run_bind_ok (run_underlying hu w)]
  rfl
theorem run_eqOf {op : BinOp} {t t' : TypeId} {x y : Operand} {u v : Value} {q : Bool} {ρ : Operand → Value} {w : World} (hx : ρ x = u) (hy : ρ y = v) (hg : (eqGuard op t x y u v).run P w = .ok () w) (hb : (binOp op t u v).run P w = .ok (.bool q) w) {dst pos after guard} :
    (execOp ρ ⟨dst, .binOp op t x y t', ty, pos, after, guard⟩).run P w = .ok (.value (.bool q)) w := by
  show (((eqGuard op t x y (ρ x) (ρ y)).bind fun _ => binOp op t (ρ x) (ρ y)).bind _).run P w = _
  rw [hx, hy]
  rw [run_bind_ok (show ((eqGuard op t x y u v).bind fun _ => binOp op t u v).run P w = .ok (.bool q) w by rw [run_bind_ok hg, hb])]
  rfl
theorem Yield.ptr_nil {t t' el : TypeId} {x y : Operand} {a : Addr} (hu : P.underlying t = some (.pointer el)) (hx : e.ev x = some (.pointer (some a))) (hy : e.ev y = some (.pointer none)) : Yield P W0 (.binOp .eql t x y t') ty e G (.bool false) := fun ρ hρ w _ _ _ _ _ => by
  refine run_eqOf (hρ x _ hx) (hρ y _ hy) rfl ?_
  show ((Op.equal t (.pointer (some a)) (.pointer none)).bind _).run P w = _
  rw [run_bind_ok (run_equal_ptr_nil hu w)]; rfl
theorem Yield.ptr_nonnil {t t' el : TypeId} {x y : Operand} {a : Addr} (hu : P.underlying t = some (.pointer el)) (hx : e.ev x = some (.pointer (some a))) (hy : e.ev y = some (.pointer none)) : Yield P W0 (.binOp .neq t x y t') ty e G (.bool true) := fun ρ hρ w _ _ _ _ _ => by
  refine run_eqOf (hρ x _ hx) (hρ y _ hy) rfl ?_
  show ((Op.equal t (.pointer (some a)) (.pointer none)).bind _).run P w = _
  rw [run_bind_ok (run_equal_ptr_nil hu w)]; rfl
theorem Yield.nil_nil {t t' el : TypeId} {x y : Operand} (hu : P.underlying t = some (.pointer el)) (hx : e.ev x = some (.pointer none)) (hy : e.ev y = some (.pointer none)) : Yield P W0 (.binOp .eql t x y t') ty e G (.bool true) := fun ρ hρ w _ _ _ _ _ => by
  refine run_eqOf (hρ x _ hx) (hρ y _ hy) rfl ?_
  show ((Op.equal t (.pointer none) (.pointer none)).bind _).run P w = _
  rw [run_bind_ok (run_equal_nil_nil hu w)]; rfl
theorem run_equal_bool {t : TypeId} {a b : Bool} (hu : P.underlying t = some .bool) (w : World) : (Op.equal t (.bool a) (.bool b)).run P w = .ok (a == b) w := by
  show (Op.equalIn (9999 + 1) t (.bool a) (.bool b)).run P w = _
  rw [Op.equalIn]
  show ((underlying t).bind _).run P w = _
  rw [run_bind_ok (run_underlying hu w)]
  rfl
theorem Yield.bool_neq {t t' : TypeId} {x y : Operand} {a b : Bool} (hu : P.underlying t = some .bool) (hx : e.ev x = some (.bool a)) (hy : e.ev y = some (.bool b)) : Yield P W0 (.binOp .neq t x y t') ty e G (.bool (!(a == b))) := fun ρ hρ w _ _ _ _ _ => by
  refine run_eqOf (hρ x _ hx) (hρ y _ hy) rfl ?_
  show ((Op.equal t (.bool a) (.bool b)).bind _).run P w = _
  rw [run_bind_ok (run_equal_bool hu w)]; rfl
theorem Yield.bool_samen {t t' : TypeId} {x y : Operand} {a : Bool} (hu : P.underlying t = some .bool) (hx : e.ev x = some (.bool a)) (hy : e.ev y = some (.bool a)) : Yield P W0 (.binOp .neq t x y t') ty e G (.bool false) :=
  (Yield.bool_neq hu hx hy).as (by simp)

/-! ### builtins that only look -/
theorem run_builtin {b : Builtin} {args : List Operand} {vs : List Value} {ats : Array TypeId} {ρ : Operand → Value} (hρ : Agrees e ρ) (ha : e.evs args = some vs) {w : World} {dst pos after guard} {nx : Result Next}
    (h : (builtin b ats ty (args.toArray.map fun | .const _ => true | _ => false) vs.toArray).run P w = nx) :
    (execOp ρ ⟨dst, .call { callee := .builtin b, args := args.toArray, argTypes := ats }, ty, pos, after, guard⟩).run P w = nx := by
  have h2 : args.map ρ = vs := hρ.evs ha
  simp only [execOp, resolve, bind, Sem.bind, pure, invoke, List.map_toArray, h2]
  rw [List.map_toArray] at h
  exact h
theorem Yield.len_slice {x : Operand} {t el : TypeId} {a : Option Addr} {m c : Nat} {ats : Array TypeId} (hu : P.underlying t = some (.slice el)) (hx : e.ev x = some (.slice a m c)) (ht : ats = #[t]) :
    Yield P W0 (.call { callee := .builtin .len, args := #[x], argTypes := ats }) ty e G (.int .i64 m) := fun ρ hρ w _ _ _ _ _ => by
  subst ht
  refine run_builtin (args := [x]) (vs := [_]) hρ (by simp only [Env.evs, hx]; rfl) ?_
  simp [builtin, Builtin.len_, underlying, program, hu, goInt, bind, Sem.bind, pure, Sem.run]
theorem Yield.len_string {x : Operand} {t : TypeId} {s : ByteArray} {ats : Array TypeId} (hu : P.underlying t = some .string) (hx : e.ev x = some (.string s)) (ht : ats = #[t]) :
    Yield P W0 (.call { callee := .builtin .len, args := #[x], argTypes := ats }) ty e G (.int .i64 s.size) := fun ρ hρ w _ _ _ _ _ => by
  subst ht
  refine run_builtin (args := [x]) (vs := [_]) hρ (by simp only [Env.evs, hx]; rfl) ?_
  simp [builtin, Builtin.len_, underlying, program, hu, goInt, bind, Sem.bind, pure, Sem.run]
theorem Yield.min2 {x y : Operand} {k : IntKind} {a b : Int} {ats : Array TypeId} (hx : e.ev x = some (.int k a)) (hy : e.ev y = some (.int k b)) :
    Yield P W0 (.call { callee := .builtin .min, args := #[x, y], argTypes := ats }) ty e G (.int k (min a b)) := fun ρ hρ w _ _ _ _ _ => by
  refine run_builtin (args := [x, y]) (vs := [_, _]) hρ (by simp only [Env.evs, hx, hy]; rfl) ?_
  have : (if b < a then b else a) = min a b := by rw [Int.min_def]; split <;> split <;> omega
  simp [builtin, Builtin.min_, Builtin.min2, bind, Sem.bind, pure, Sem.run, this]
theorem Yield.max2 {x y : Operand} {k : IntKind} {a b : Int} {ats : Array TypeId} (hx : e.ev x = some (.int k a)) (hy : e.ev y = some (.int k b)) :
    Yield P W0 (.call { callee := .builtin .max, args := #[x, y], argTypes := ats }) ty e G (.int k (max a b)) := fun ρ hρ w _ _ _ _ _ => by
  refine run_builtin (args := [x, y]) (vs := [_, _]) hρ (by simp only [Env.evs, hx, hy]; rfl) ?_
  have : (if a < b then b else a) = max a b := by rw [Int.max_def]; split <;> split <;> omega
  simp [builtin, Builtin.max_, Builtin.max2, bind, Sem.bind, pure, Sem.run, this]

/-! ### addresses and slices -/
theorem Yield.index_slice {t el : TypeId} {x i : Operand} {b o m c sz by' z ag k} {j : Int} (hu : P.underlying t = some (.slice el)) (ht : TI P el sz by' z ag) (hx : e.ev x = some (.slice (some ⟨b, o, none⟩) m c)) (hi : e.ev i = some (.int k j))
    (h0 : 0 ≤ j) (h1 : j < m) : Yield P W0 (.indexAddr t x i) ty e G (.pointer (some ⟨b, o + j.toNat * sz, none⟩)) := fun ρ hρ w _ _ _ _ _ => by
  have h2 : (Instr.indexAt t (.slice (some ⟨b, o, none⟩) m c) (.int k j)).run P w = .ok (.pointer (some ⟨b, o + j.toNat * sz, none⟩)) w := by
    unfold Instr.indexAt
    obtain ⟨i', hi', rfl, _, _⟩ := ht.info
    simp [asIntOf, underlying, program, hu, h0, h1, sizeOf, typeInfo, hi', bind, Sem.bind, pure, Sem.run, add_at]
  show ((Instr.indexAt t (ρ x) (ρ i)).bind _).run P w = _
  rw [hρ x _ hx, hρ i _ hi, run_bind_ok h2]; rfl
theorem Yield.index_array {t el : TypeId} {len : Nat} {x i : Operand} {b o sz by' z ag k} {j : Int} (hu : P.underlying t = some (.array len el)) (ht : TI P el sz by' z ag) (hx : e.ev x = some (.pointer (some ⟨b, o, none⟩))) (hi : e.ev i = some (.int k j))
    (h0 : 0 ≤ j) (h1 : j < len) : Yield P W0 (.indexAddr t x i) ty e G (.pointer (some ⟨b, o + j.toNat * sz, none⟩)) := fun ρ hρ w _ _ _ _ _ => by
  have h2 : (Instr.indexAt t (.pointer (some ⟨b, o, none⟩)) (.int k j)).run P w = .ok (.pointer (some ⟨b, o + j.toNat * sz, none⟩)) w := by
    unfold Instr.indexAt
    obtain ⟨i', hi', rfl, _, _⟩ := ht.info
    simp [asIntOf, underlying, program, hu, h0, h1, sizeOf, typeInfo, hi', bind, Sem.bind, pure, Sem.run, add_at, Instr.sureAddr]
  show ((Instr.indexAt t (ρ x) (ρ i)).bind _).run P w = _
  rw [hρ x _ hx, hρ i _ hi, run_bind_ok h2]; rfl

/-- The value of a bound that may be left out. -/
def Bound (e : Env) (x : Option Operand) (dflt : Int) (v : Int) : Prop := match x with | none => v = dflt | some x => ∃ k, e.ev x = some (.int k v)
theorem Bound.none {e : Env} {d : Int} : Bound e none d d := rfl
theorem Bound.some {e : Env} {x : Operand} {d v : Int} {k : IntKind} (h : e.ev x = some (.int k v)) : Bound e (some x) d v := ⟨k, h⟩

theorem run_sliceBounds {isSl : Bool} {len cap : Nat} {lo hi : Option Operand} {l h : Int} {ρ : Operand → Value} (hρ : Agrees e ρ) (hl : Bound e lo 0 l) (hh : Bound e hi len h) (h0 : 0 ≤ l) (h1 : l ≤ h) (h2 : h ≤ cap) (w : World) :
    (Instr.sliceBounds isSl len cap (lo.map ρ) (hi.map ρ) none).run P w = .ok (l.toNat, h.toNat, cap) w := by
  unfold Instr.sliceBounds
  have hh0 : 0 ≤ h := by omega
  have e1 : ((h.toNat : Nat) : Int) = h := by omega
  cases lo with
  | none =>
    simp only [Bound] at hl; subst hl
    cases hi with
    | none => simp only [Bound] at hh; subst hh; simp [pure, bind, Sem.bind, Sem.run]
    | some x => obtain ⟨k, hx⟩ := hh; simp [hρ x _ hx, Instr.sliceBound, asIntOf, hh0, h2, pure, bind, Sem.bind, Sem.run]
  | some y =>
    obtain ⟨k', hy⟩ := hl
    cases hi with
    | none => simp only [Bound] at hh; subst hh; simp [hρ y _ hy, Instr.sliceBound, asIntOf, h0, h1, pure, bind, Sem.bind, Sem.run]
    | some x => obtain ⟨k, hx⟩ := hh; simp [hρ x _ hx, hρ y _ hy, Instr.sliceBound, asIntOf, hh0, h2, h0, h1, e1, pure, bind, Sem.bind, Sem.run]

/-- The address at which a cut begins: the old one where nothing is left behind it. -/
def cutAt (a : Addr) (l c sz : Nat) : Addr := if c = l then a else a.add (l * sz)
theorem Yield.slice {t el : TypeId} {x : Operand} {lo hi : Option Operand} {a : Option Addr} {m c sz by' z ag} {l h : Int} (hu : P.underlying t = some (.slice el)) (ht : TI P el sz by' z ag) (hx : e.ev x = some (.slice a m c))
    (hl : Bound e lo 0 l) (hh : Bound e hi m h) (h0 : 0 ≤ l) (h1 : l ≤ h) (h2 : h ≤ c) : Yield P W0 (.slice t x lo hi none) ty e G (.slice (a.map fun a => cutAt a l.toNat c sz) (h.toNat - l.toNat) (c - l.toNat)) := fun ρ hρ w _ _ _ _ _ => by
  have hs : (Instr.sliceAt t (.slice a m c) (lo.map ρ) (hi.map ρ) none).run P w = .ok (.slice (a.map fun a => cutAt a l.toNat c sz) (h.toNat - l.toNat) (c - l.toNat)) w := by
    unfold Instr.sliceAt
    show ((underlying t).bind _).run P w = _
    rw [run_bind_ok (run_underlying hu w)]
    simp only []
    unfold Instr.slice
    show ((underlying t).bind _).run P w = _
    rw [run_bind_ok (run_underlying hu w)]
    simp only []
    show ((Instr.sliceBounds _ _ _ _ _ _).bind _).run P w = _
    rw [run_bind_ok (run_sliceBounds hρ hl hh h0 h1 h2 w)]
    simp only []
    show ((sizeOf el).bind _).run P w = _
    rw [run_bind_ok (ht.run_size w)]
    simp only [pure, Sem.run]
    congr 2
    unfold cutAt
    cases a <;> simp <;> split <;> rfl
  show ((Instr.sliceAt t (ρ x) (lo.map ρ) (hi.map ρ) ((Option.none : Option Operand).map ρ)).bind _).run P w = _
  rw [hρ x _ hx, Option.map_none, run_bind_ok hs]; rfl

/-- A cut whose lower bound is left out keeps its address. -/
theorem Yield.slice_hi {t el : TypeId} {x : Operand} {hi : Option Operand} {a : Option Addr} {m c sz by' z ag} {h : Int} (hu : P.underlying t = some (.slice el)) (ht : TI P el sz by' z ag) (hx : e.ev x = some (.slice a m c))
    (hh : Bound e hi m h) (h1 : 0 ≤ h) (h2 : h ≤ c) : Yield P W0 (.slice t x none hi none) ty e G (.slice a h.toNat c) := by
  have := Yield.slice (W0 := W0) (G := G) (ty := ty) (lo := none) hu ht hx Bound.none hh (by omega) h1 h2
  have e1 : (a.map fun a => cutAt a (0 : Int).toNat c sz) = a := by
    cases a with
    | none => rfl
    | some a => simp [cutAt, Addr.add]
  rw [e1] at this
  simpa using this

/-! ### loads and stores -/
theorem Yield.load {t : TypeId} {x : Operand} {a : Addr} {v : Value} {sz by' z} (ht : TI P t sz by' z false) (hx : e.ev x = some (.pointer (some a))) (hc : Cel W0 G a v) : Yield P W0 (.load t x) ty e G v := fun ρ hρ w hw _ _ _ _ => by
  have h1 : (loadVar t a).run P w = .ok v w := by
    unfold loadVar
    show ((isAgg t).bind _).run P w = _
    rw [run_bind_ok (ht.run_agg w)]
    simp [Go.load, Sem.run, hc w hw]
  show (((Instr.loadAt t (ρ x))).bind _).run P w = _
  rw [hρ x _ hx]
  rw [run_bind_ok (show (Instr.loadAt t (.pointer (some a))).run P w = .ok v w by simp [Instr.loadAt, Instr.sureAddr, bind, Sem.bind, pure, h1])]
  rfl
theorem Yield.load_agg {t : TypeId} {x : Operand} {b o : Nat} {vs : List Value} {sz by' z} (ht : TI P t sz by' z true) (hx : e.ev x = some (.pointer (some ⟨b, o, none⟩))) (hl : vs.length = sz) (hc : Row W0 G b o vs) : Yield P W0 (.load t x) ty e G (.agg vs.toArray) := fun ρ hρ w hw _ _ _ _ => by
  have h1 : (loadVar t ⟨b, o, none⟩).run P w = .ok (.agg vs.toArray) w := by
    unfold loadVar
    show ((isAgg t).bind _).run P w = _
    rw [run_bind_ok (ht.run_agg w)]
    simp only [if_true]
    show ((sizeOf t).bind _).run P w = _
    rw [run_bind_ok (ht.run_size w)]
    show ((loadCells _ _).bind _).run P w = _
    rw [run_bind_ok (run_loadCells hl (fun j v hj => hc j v hj w hw))]
    rfl
  show (((Instr.loadAt t (ρ x))).bind _).run P w = _
  rw [hρ x _ hx]
  rw [run_bind_ok (show (Instr.loadAt t (.pointer (some ⟨b, o, none⟩))).run P w = .ok (.agg vs.toArray) w by simp [Instr.loadAt, Instr.sureAddr, bind, Sem.bind, pure, h1])]
  rfl

theorem run_storeVar {t : TypeId} {b o : Nat} {v : Value} {w : World} {cs : List Value} {bt : TypeId} {sz by' z ag} (ht : TI P t sz by' z ag) (hv : v.cells.size = sz) (h1 : ∀ c ∈ v.cells.toList, one c = true)
    {fr : Nat × Nat} (hb : w.heap[b]? = some (.cells cs.toArray bt fr)) (hf : NoFr fr cs.length) (ho : o + sz ≤ cs.length) :
    (storeVar t ⟨b, o, none⟩ v).run P w = .ok () (setObjW w b (.cells (over cs o v.cells.toList).toArray bt fr)) := by
  unfold storeVar
  show ((sizeOf t).bind _).run P w = _
  rw [run_bind_ok (ht.run_size w)]
  simp only [hv, ne_eq, not_true, if_false]
  have := run_storeCells (P := P) (o := o) v.cells.toList 0 w cs hb hf (by simp [hv]; omega) h1
  simpa [pure, bind, Sem.bind] using this

/-- A store into a block. -/
theorem Eff.store {t : TypeId} {x y : Operand} {b o : Nat} {v : Value} {cs cs' : List Value} {bt : TypeId} {put : HProp → List HProp} {sz by' z ag} (ht : TI P t sz by' z ag) (hx : e.ev x = some (.pointer (some ⟨b, o, none⟩))) (hy : e.ev y = some v)
    (fc : Foc G (blk b cs bt) put) (hv : v.cells.size = sz) (h1 : ∀ c ∈ v.cells.toList, one c = true) (ho : o + sz ≤ cs.length) (hcs : over cs o v.cells.toList = cs') :
    Eff P W0 (.store t x y) ty e G (fun _ : Unit => True) (fun _ => undef) (fun _ => put (blk b cs' bt)) := fun ρ hρ w hw _ _ _ _ => by
  obtain ⟨R, hR⟩ := foc_ext fc
  have hb := Sat.get_blk hR hw
  subst hcs
  refine ⟨(), setObjW w b (.cells (over cs o v.cells.toList).toArray bt (0, 0)), trivial, Sat.write (B := blk b (over cs o v.cells.toList) bt) fc hw hb (fun f _ hf => ⟨hf, by show updH f b _ b = _; simp [updH]⟩), .inr ⟨?_, rfl⟩⟩
  show (((Instr.storeAt t (ρ x) (ρ y))).bind _).run P w = _
  rw [hρ x _ hx, hρ y _ hy]
  rw [run_bind_ok (show (Instr.storeAt t (.pointer (some ⟨b, o, none⟩)) v).run P w = _ by
    show ((Instr.sureAddr _).bind _).run P w = _
    simp only [Instr.sureAddr, pure, Sem.bind]
    exact run_storeVar ht hv h1 hb (NoFr.zero _) ho)]
  rfl

theorem ones {v : Value} (h : one v = true) : v.cells = #[v] := by cases v <;> first | rfl | cases h
/-- A store of one cell. -/
theorem Eff.store1 {t : TypeId} {x y : Operand} {b o : Nat} {v : Value} {cs : List Value} {bt : TypeId} {put : HProp → List HProp} {by' z ag} (ht : TI P t 1 by' z ag) (hx : e.ev x = some (.pointer (some ⟨b, o, none⟩))) (hy : e.ev y = some v)
    (fc : Foc G (blk b cs bt) put) (h1 : one v = true) (ho : o < cs.length) : Eff P W0 (.store t x y) ty e G (fun _ : Unit => True) (fun _ => undef) (fun _ => put (blk b (cs.set o v) bt)) :=
  Eff.store ht hx hy fc (by rw [ones h1]; rfl) (by rw [ones h1]; intro c hc; simp at hc; subst hc; exact h1) (by omega) (by rw [ones h1]; exact over_one ho)

/-- A store of a whole struct over a block. -/
theorem Eff.storeAll {t : TypeId} {x y : Operand} {b : Nat} {vs cs : List Value} {bt : TypeId} {put : HProp → List HProp} {sz by' z ag} (ht : TI P t sz by' z ag) (hx : e.ev x = some (.pointer (some ⟨b, 0, none⟩))) (hy : e.ev y = some (.agg vs.toArray))
    (fc : Foc G (blk b cs bt) put) (hv : vs.length = sz) (h1 : ∀ c ∈ vs, one c = true) (ho : cs.length = sz) :
    Eff P W0 (.store t x y) ty e G (fun _ : Unit => True) (fun _ => undef) (fun _ => put (blk b vs bt)) :=
  Eff.store ht hx hy fc (by simpa [Value.cells] using hv) (by simpa [Value.cells] using h1) (by omega) (by
    unfold over; simp only [Value.cells, List.take_zero, List.nil_append, Nat.zero_add]
    rw [List.drop_eq_nil_of_le (by omega), List.append_nil])
/-! ### new blocks -/
theorem Eff.box {t : TypeId} {x : Operand} {v : Value} (hx : e.ev x = some v) :
    Eff P W0 (.box t x) ty e G (fun _ : Nat => True) (fun b => .pointer (some ⟨b, 0, none⟩)) (fun b => blk b v.cells.toList t :: G) := fun ρ hρ w hw _ _ _ _ => by
  refine ⟨w.heap.size, { w with heap := w.heap.push (.cells v.cells t (0, 0)) }, trivial, ?_, .inl ?_⟩
  rotate_left
  · simp only [execOp, hρ x _ hx, Instr.box, newVar, newRow, newObj, bind, Sem.bind, pure, Sem.run]
  · have := Sat.new hw (.cells v.cells t (0, 0))
    unfold obj at this; unfold blk; simpa using this
theorem Eff.alloc {t : TypeId} {v : Value} {sz by' ag} (ht : TI P t sz by' v ag) :
    Eff P W0 (.alloc t) ty e G (fun _ : Nat => True) (fun b => .pointer (some ⟨b, 0, none⟩)) (fun b => blk b v.cells.toList t :: G) := fun ρ hρ w hw _ _ _ _ => by
  refine ⟨w.heap.size, { w with heap := w.heap.push (.cells v.cells t (0, 0)) }, trivial, ?_, .inl ?_⟩
  rotate_left
  · have h1 : (Instr.alloc t true (.tuple #[])).run P w = .ok (.pointer (some ⟨w.heap.size, 0, none⟩)) { w with heap := w.heap.push (.cells v.cells t (0, 0)) } := by
      unfold Instr.alloc
      show ((zeroValue t).bind _).run P w = _
      rw [run_bind_ok (ht.run_zero w)]
      simp only [newVar, newRow, newObj, bind, Sem.bind, pure, Sem.run]
    show ((Instr.alloc t true (.tuple #[])).bind _).run P w = _
    rw [run_bind_ok h1]; rfl
  · have := Sat.new hw (.cells v.cells t (0, 0))
    unfold obj at this; unfold blk; simpa using this

end
end Go.Sl
namespace Go.Sl
section
variable {P : Program} {W0 : World} {n : Nat} {ds : List Deferred} {ops : Array Oper} {Q : Exit → Act → World → Prop} {rest : List Oper} {e : Env} {G : List HProp} {ty : TypeId}
theorem OG.mv {d : Nat} {x : Operand} {ty : TypeId} {pos : String} {af : Array Edge} {v : Value} (h : e.ev x = some v) (hd : Nat.ble (d + 1) n = true) (k : OG P W0 n ds ops Q rest ((d, v) :: e) G) : OG P W0 n ds ops Q (⟨some d, .move x, ty, pos, af, none⟩ :: rest) e G := OG.yield (Yield.move h) hd k
theorem OG.sg {d : Nat} {x : Operand} {ty : TypeId} {pos : String} {af : Array Edge} {v : Value} (h : e.ev x = some v) (hd : Nat.ble (d + 1) n = true) (k : OG P W0 n ds ops Q rest ((d, v) :: e) G) : OG P W0 n ds ops Q (⟨some d, .assign x, ty, pos, af, none⟩ :: rest) e G := OG.yield (Yield.assign h) hd k
theorem Yield.lssA {t t' : TypeId} {x y : Operand} {v : Value} (h : Yield P W0 (.binOp .lss t x y t') ty e G v := by first | exact Yield.as (Yield.lss rfl rfl) (bT (by omega)) | exact Yield.as (Yield.lss rfl rfl) (bF (by omega)) | exact Yield.lss rfl rfl) : Yield P W0 (.binOp .lss t x y t') ty e G v := h
theorem Yield.leqA {t t' : TypeId} {x y : Operand} {v : Value} (h : Yield P W0 (.binOp .leq t x y t') ty e G v := by first | exact Yield.as (Yield.leq rfl rfl) (bT (by omega)) | exact Yield.as (Yield.leq rfl rfl) (bF (by omega)) | exact Yield.leq rfl rfl) : Yield P W0 (.binOp .leq t x y t') ty e G v := h
theorem Yield.gtrA {t t' : TypeId} {x y : Operand} {v : Value} (h : Yield P W0 (.binOp .gtr t x y t') ty e G v := by first | exact Yield.as (Yield.gtr rfl rfl) (bT (by omega)) | exact Yield.as (Yield.gtr rfl rfl) (bF (by omega)) | exact Yield.gtr rfl rfl) : Yield P W0 (.binOp .gtr t x y t') ty e G v := h
theorem Yield.geqA {t t' : TypeId} {x y : Operand} {v : Value} (h : Yield P W0 (.binOp .geq t x y t') ty e G v := by first | exact Yield.as (Yield.geq rfl rfl) (bT (by omega)) | exact Yield.as (Yield.geq rfl rfl) (bF (by omega)) | exact Yield.geq rfl rfl) : Yield P W0 (.binOp .geq t x y t') ty e G v := h
theorem Yield.eqlA {t t' : TypeId} {x y : Operand} {v : Value} (h : Yield P W0 (.binOp .eql t x y t') ty e G v := by first | exact Yield.as (Yield.eql rfl rfl) (bT (by omega)) | exact Yield.as (Yield.eql rfl rfl) (bF (by omega)) | exact Yield.eql rfl rfl) : Yield P W0 (.binOp .eql t x y t') ty e G v := h
theorem Yield.neqA {t t' : TypeId} {x y : Operand} {v : Value} (h : Yield P W0 (.binOp .neq t x y t') ty e G v := by first | exact Yield.as (Yield.neq rfl rfl) (bT (by omega)) | exact Yield.as (Yield.neq rfl rfl) (bF (by omega)) | exact Yield.neq rfl rfl) : Yield P W0 (.binOp .neq t x y t') ty e G v := h
theorem Yield.pickA {c x y : Operand} {v : Value} (h : Yield P W0 (.pick c x y) ty e G v := by first | exact Yield.pick_t rfl rfl | exact Yield.pick_f rfl rfl | exact Yield.pick rfl (fun _ => rfl) (fun _ => rfl)) : Yield P W0 (.pick c x y) ty e G v := h
theorem Yield.loadA {t by' : Nat} {z v : Value} {x : Operand} {a : Addr} (ht : TI P t 1 by' z false) (hx : e.ev x = some (.pointer (some a))) (hc : Cel W0 G a v := by exact Cel.of_blk (by repeat (first | exact Ext.here | apply Ext.there)) rfl) : Yield P W0 (.load t x) ty e G v := Yield.load ht hx hc
end
end Go.Sl
/- Regions whose order the tape draws: one walk along a plan serves every order. A plan says which operation comes next; an operation that only reads may be taken ahead of others if what it reads is kept (K), or if no operation that changes something can come up before it (pinned). No program in sight. -/
namespace Go.Sl
open Go Go.RowKit

/-- The exits that a change may take: a panic, whatever the slots hold. -/
def QP (Q : Exit → Act → World → Prop) : Exit → Act → World → Prop
  | .panic ch, a, w => ∀ a' : Act, a'.defers = a.defers → a'.tmps.size = a.tmps.size → Q (.panic ch) a' w
  | _, _, _ => False
theorem QP.put {Q : Exit → Act → World → Prop} {ch : List PanicEntry} {a : Act} {d : Option Nat} {v : Value} {w : World} (h : QP Q (.panic ch) (a.put d v) w) : QP Q (.panic ch) a w := fun a' h1 h2 =>
  h a' (by cases d <;> exact h1) (by cases d with | none => exact h2 | some d => simpa [Act.put] using h2)

section
variable {P : Program} {ops : Array Oper}

theorem wp_monoQ {o : Oper} {a : Act} {w : World} {K : Act → World → Prop} {Q : Exit → Act → World → Prop} (h : o.wp P a w K (QP Q)) : o.wp P a w K Q := by
  unfold Oper.wp at *
  generalize (execOp a.eval o).run P w = r at *
  cases r with
  | ok n w' =>
    cases n <;> simp only [Oper.upon] at h ⊢ <;>
      first
        | exact h
        | exact Calls.mono h (fun e w'' he => by cases e <;> first | exact he | exact he a rfl rfl | exact he.elim | (obtain ⟨_, _, h⟩ := he; exact h.elim))
  | halt x w' => cases x <;> simp only [Oper.upon] at h ⊢ <;> first | exact h | exact h a rfl rfl | exact h.elim
theorem wpOp_monoQ {i : Nat} {a : Act} {w : World} {K : Act → World → Prop} {Q : Exit → Act → World → Prop} (h : wpOp P ops (QP Q) i K a w) : wpOp P ops Q i K a w := by
  unfold wpOp at *
  split
  · rename_i ho; simp only [ho] at h; exact h
  · rename_i o ho
    simp only [ho] at h
    split
    · rename_i hw; simp only [hw, if_true] at h
      rcases h with h | ⟨_, _, _, h⟩
      · exact .inl (wp_monoQ h)
      · exact h.elim
    · rename_i hw; simp only [hw] at h; exact h

theorem wpOp_in {r : Option Nat} {i : Nat} {a : Act} {w : World} {K : Act → World → Prop} {Q : Exit → Act → World → Prop} (hn : ∀ o ∈ ops.toList, r = none ∨ ndOp o = true) (h : wpOp P ops (QP Q) i K a w) : wpOpIn (Fz r) 0 P ops Q i K a w := by
  unfold wpOp at h
  unfold wpOpIn
  split
  · rename_i ho; simp only [ho] at h; exact h
  · rename_i o ho
    simp only [ho] at h
    have hm : o ∈ ops.toList := by rw [← Array.getElem?_toList] at ho; exact List.mem_of_getElem? ho
    split
    · rename_i hw; simp only [hw, if_true] at h
      rcases h with h | ⟨_, _, _, h⟩
      · exact wp_in (hn o hm) (wp_monoQ h)
      · exact h.elim
    · rename_i hw; simp only [hw] at h; exact ⟨fun _ _ => trivial, h⟩
/-- In every world of the class C the operation leaves v in its slot, and the world as it is. -/
def YldC (P : Program) (ops : Array Oper) (C : World → Prop) (o : Oper) (v : Value) (a : Act) : Prop :=
  (Region.wanted o (yielded ops a.tmps) = true ∧ ∀ w, C w → (execOp a.eval o).run P w = .ok (.value v) w) ∨ (Region.wanted o (yielded ops a.tmps) = false ∧ v = undef)
theorem YldC.sub {C C' : World → Prop} {o : Oper} {v : Value} {a : Act} (h : YldC P ops C o v a) (hc : ∀ w, C' w → C w) : YldC P ops C' o v a := by
  rcases h with ⟨h1, h2⟩ | h
  · exact .inl ⟨h1, fun w hw => h2 w (hc w hw)⟩
  · exact .inr h
theorem YldC.of_same {C : World → Prop} {o : Oper} {v : Value} {a a' : Act} (hy : YldC P ops C o v a) (he : execOp a'.eval o = execOp a.eval o)
    (hw : Region.wanted o (yielded ops a'.tmps) = Region.wanted o (yielded ops a.tmps)) : YldC P ops C o v a' := by
  unfold YldC at *; rw [he, hw]; exact hy
theorem YldC.wpOp {C : World → Prop} {i : Nat} {o : Oper} {v : Value} {a : Act} (hi : ops[i]? = some o) (hy : YldC P ops C o v a) {Q : Exit → Act → World → Prop}
    {K : Act → World → Prop} {w : World} (hw : C w) (h : K (a.put o.dst v) w) : wpOp P ops Q i K a w := by
  unfold Go.wpOp
  simp only [hi]
  rcases hy with ⟨h1, hv⟩ | ⟨h1, rfl⟩
  · simp only [h1, if_true, Oper.wp, hv w hw, Oper.upon]; exact .inl h
  · simp only [h1, Bool.false_eq_true, if_false]; exact h

/-! ### what must come before -/
/-- All that a listed operation waits for is listed. -/
def Closed (ops : Array Oper) (listed : Array Bool) : Prop := ∀ j oj, ops[j]? = some oj → listed.getD j false = true → ∀ e ∈ oj.after, Region.binds .any e = true → listed.getD e.on false = true
theorem Closed.set {listed : Array Bool} {i : Nat} (h : Closed ops listed) (hi : i ∈ Region.ready .any ops listed) : Closed ops (listed.setIfInBounds i true) := fun j oj hj hl e he hb => by
  obtain ⟨_, oi, hoi, hall⟩ := mem_ready.1 hi
  by_cases hij : i = j
  · subst hij
    have : oj = oi := Option.some.inj (hj.symm.trans hoi)
    subst this
    exact getD_set_true (hall e he hb)
  · rw [getD_set_ne false hij] at hl
    exact getD_set_true (h j oj hj hl e he hb)
/-- j waits, by a chain of links, for i. -/
inductive Waits (ops : Array Oper) (i : Nat) : Nat → Prop
  | direct {j : Nat} {oj : Oper} {e : Edge} (hj : ops[j]? = some oj) (he : e ∈ oj.after) (hb : Region.binds .any e = true) (hi : e.on = i) : Waits ops i j
  | step {j : Nat} {oj : Oper} {e : Edge} (hj : ops[j]? = some oj) (he : e ∈ oj.after) (hb : Region.binds .any e = true) (h : Waits ops i e.on) : Waits ops i j
theorem Waits.late {listed : Array Bool} {i : Nat} (hc : Closed ops listed) (hi : listed.getD i false = false) {j : Nat} (h : Waits ops i j) : j ∉ Region.ready .any ops listed ∧ listed.getD j false = false := by
  induction h with
  | @direct j oj e hj he hb hon =>
    have hno : listed.getD e.on false = false := by rw [hon]; exact hi
    constructor
    · intro hr
      obtain ⟨_, o', ho', hall⟩ := mem_ready.1 hr
      have : o' = oj := Option.some.inj (ho'.symm.trans hj)
      subst this
      have := hall e he hb
      rw [hno] at this; cases this
    · cases hl : listed.getD j false with
      | false => rfl
      | true => have := hc j oj hj hl e he hb; rw [hno] at this; cases this
  | @step j oj e hj he hb _ ih =>
    have hno := ih.2
    constructor
    · intro hr
      obtain ⟨_, o', ho', hall⟩ := mem_ready.1 hr
      have : o' = oj := Option.some.inj (ho'.symm.trans hj)
      subst this
      have := hall e he hb
      rw [hno] at this; cases this
    · cases hl : listed.getD j false with
      | false => rfl
      | true => have := hc j oj hj hl e he hb; rw [hno] at this; cases this

abbrev Cls := World → Prop
/-- What may come next: a look (in every world of C the same value), or a change (in each world of C; behind it the classes are within S). -/
def StepC (P : Program) (ops : Array Oper) (eff : Nat → Bool) (Q : Exit → Act → World → Prop) (i : Nat) (K : Act → (Nat → Cls) → Cls → Prop) (a : Act) (S : Nat → Cls) (C : Cls) : Prop :=
  ∃ o, ops[i]? = some o ∧
    ((eff i = false ∧ ∃ v, YldC P ops C o v a ∧ K (a.put o.dst v) S C) ∨
     (eff i = true ∧ ∀ w, C w → wpOp P ops (QP Q) i (fun a' w' => ∃ (S' : Nat → Cls) (C' : Cls), C' w' ∧ (∀ k x, C' x → S' k x) ∧ (∀ k, ¬ Waits ops k i → ∀ x, S' k x → S k x) ∧ K a' S' C') a w))
theorem StepC.mono {eff : Nat → Bool} {Q : Exit → Act → World → Prop} {i : Nat} {K K' : Act → (Nat → Cls) → Cls → Prop} {a : Act} {S : Nat → Cls} {C : Cls} (h : StepC P ops eff Q i K a S C) (hk : ∀ a S' C', K a S' C' → K' a S' C') : StepC P ops eff Q i K' a S C := by
  obtain ⟨o, ho, ⟨h1, v, h2, h3⟩ | ⟨h1, h2⟩⟩ := h
  · exact ⟨o, ho, .inl ⟨h1, v, h2, hk _ _ _ h3⟩⟩
  · exact ⟨o, ho, .inr ⟨h1, fun w hw => wpOp_mono (fun a' w' ⟨S', C', q1, q2, q3, q4⟩ => ⟨S', C', q1, q2, q3, hk _ _ _ q4⟩) (h2 w hw)⟩⟩

def AnyC (P : Program) (ops : Array Oper) (eff : Nat → Bool) (Q : Exit → Act → World → Prop) : Nat → Array Bool → Act → (Nat → Cls) → Cls → Prop
  | 0, listed, a, _, C => Region.ready .any ops listed = [] ∧ ∀ w, C w → Q .normal a w
  | f + 1, listed, a, S, C => (Region.ready .any ops listed = [] → ∀ w, C w → Q .normal a w) ∧
    ∀ i ∈ Region.ready .any ops listed, StepC P ops eff Q i (AnyC P ops eff Q f (listed.setIfInBounds i true)) a S C

theorem AnyC.any {eff : Nat → Bool} {Q : Exit → Act → World → Prop} : ∀ (f : Nat) (listed : Array Bool) (a : Act) (S : Nat → Cls) (C : Cls) (w : World), C w → AnyC P ops eff Q f listed a S C → wpAny P .any ops Q f listed a w
  | 0, _, _, _, _, w, hw, h => ⟨h.1, h.2 w hw⟩
  | f + 1, listed, a, S, C, w, hw, h => by
    refine ⟨fun h0 => h.1 h0 w hw, fun i hi => ?_⟩
    obtain ⟨o, ho, ⟨_, v, h2, h3⟩ | ⟨_, h2⟩⟩ := h.2 i hi
    · exact h2.wpOp ho hw (AnyC.any f _ _ _ _ w hw h3)
    · exact wpOp_monoQ (wpOp_mono (fun a' w' ⟨S', C', q1, _, _, q4⟩ => AnyC.any f _ _ _ _ w' q1 q4) (h2 w hw))

theorem AnyC.anyIn {r : Option Nat} {eff : Nat → Bool} {Q : Exit → Act → World → Prop} (hn : ∀ o ∈ ops.toList, r = none ∨ ndOp o = true) : ∀ (f : Nat) (listed : Array Bool) (a : Act) (S : Nat → Cls) (C : Cls) (w : World), C w → AnyC P ops eff Q f listed a S C → wpAnyIn (Fz r) 0 P .any ops Q f listed a w
  | 0, _, _, _, _, w, hw, h => ⟨h.1, h.2 w hw⟩
  | f + 1, listed, a, S, C, w, hw, h => by
    refine ⟨fun h0 => h.1 h0 w hw, fun i hi => ?_⟩
    obtain ⟨o, ho, ⟨_, v, h2, h3⟩ | ⟨_, h2⟩⟩ := h.2 i hi
    · exact wpOp_in hn (h2.wpOp (Q := QP Q) ho hw (AnyC.anyIn hn f _ _ _ _ w hw h3))
    · exact wpOp_in hn (wpOp_mono (fun a' w' ⟨S', C', q1, _, _, q4⟩ => AnyC.anyIn hn f _ _ _ _ w' q1 q4) (h2 w hw))
/-- For what each of the first n operations waits, as bits. -/
def maskOf (ms : List Nat) (es : List Edge) : Nat := es.foldl (fun s e => if Region.binds .any e then s ||| 2 ^ e.on ||| ms.getD e.on 0 else s) 0
def masks (ops : Array Oper) : Nat → List Nat
  | 0 => []
  | k + 1 => masks ops k ++ [match ops[k]? with | some o => maskOf (masks ops k) o.after.toList | none => 0]
theorem masks_length : ∀ k, (masks ops k).length = k
  | 0 => rfl
  | k + 1 => by simp [masks, masks_length k]
theorem maskOf_bit (ms : List Nat) (i : Nat) : ∀ (es : List Edge) (s : Nat), (es.foldl (fun s e => if Region.binds .any e then s ||| 2 ^ e.on ||| ms.getD e.on 0 else s) s).testBit i = true →
    s.testBit i = true ∨ ∃ e ∈ es, Region.binds .any e = true ∧ (e.on = i ∨ (ms.getD e.on 0).testBit i = true)
  | [], _, h => .inl h
  | e :: es, s, h => by
    rcases maskOf_bit ms i es _ h with h1 | ⟨x, hx, h1⟩
    · dsimp only at h1
      by_cases hb : Region.binds .any e = true
      · rw [if_pos hb] at h1
        rw [Nat.testBit_or, Nat.testBit_or] at h1
        simp only [Bool.or_eq_true] at h1
        rcases h1 with (h1 | h1) | h1
        · exact .inl h1
        · refine .inr ⟨e, by simp, hb, .inl ?_⟩
          rw [Nat.testBit_two_pow] at h1
          simpa using h1
        · exact .inr ⟨e, by simp, hb, .inr h1⟩
      · rw [if_neg hb] at h1; exact .inl h1
    · exact .inr ⟨x, by simp [hx], h1⟩
theorem masks_waits {i : Nat} : ∀ (k j : Nat), ((masks ops k).getD j 0).testBit i = true → Waits ops i j
  | 0, j, h => by simp [masks] at h
  | k + 1, j, h => by
    simp only [masks, List.getD_eq_getElem?_getD] at h
    rcases Nat.lt_trichotomy j k with hj | hj | hj
    · rw [List.getElem?_append_left (by rw [masks_length]; exact hj)] at h
      exact masks_waits k j (by rw [List.getD_eq_getElem?_getD]; exact h)
    · subst hj
      rw [List.getElem?_append_right (by rw [masks_length]; omega), masks_length] at h
      simp only [Nat.sub_self, List.getElem?_cons_zero, Option.getD_some] at h
      split at h
      · rename_i o ho
        rcases maskOf_bit _ i _ _ h with h1 | ⟨e, he, hb, h1⟩
        · simp at h1
        · rcases h1 with h1 | h1
          · exact .direct ho (by simpa using he) hb h1
          · exact .step ho (by simpa using he) hb (masks_waits j e.on h1)
      · simp at h
    · rw [List.getElem?_eq_none (by simp [masks_length]; omega)] at h
      simp at h

theorem getD_tf {listed : Array Bool} {i : Nat} (h : listed.getD i true = false) : listed.getD i false = false := by
  rcases Nat.lt_or_ge i listed.size with h' | h'
  · simp [h'] at h ⊢; exact h
  · simp [Array.getElem?_eq_none h'] at h

/-- An operation that looks may be taken first: if what it sees is the same in all worlds of S, or if no change can come up ahead of it. -/
theorem AnyC.first {eff : Nat → Bool} {Q : Exit → Act → World → Prop} {i : Nat} {oi : Oper} {v : Value} (hi : ops[i]? = some oi) (hei : eff i = false) (hsel : ∀ (j : Nat) (o : Oper) cs b, ops[j]? = some o → o.op ≠ .select cs b) :
    ∀ (f : Nat) (listed : Array Bool) (a : Act) (S : Nat → Cls) (C : Cls), (∀ k w, C w → S k w) → Closed ops listed →
      (∀ j oj, ops[j]? = some oj → j ≠ i → listed.getD j true = false → (∀ e ∈ oj.after, Region.binds .any e = true → e.on ≠ i) → oi.apart ops oj = true) →
      i ∈ Region.ready .any ops listed →
      (YldC P ops (S i) oi v a ∨ (YldC P ops C oi v a ∧ ∀ j, eff j = true → listed.getD j true = false → Waits ops i j)) →
      AnyC P ops eff Q f (listed.setIfInBounds i true) (a.put oi.dst v) S C → AnyC P ops eff Q (f + 1) listed a S C := by
  intro f
  induction f with
  | zero =>
    intro listed a S C hcs _ _ hr hy H
    refine ⟨fun h => (by rw [h] at hr; cases hr), fun j hj => ?_⟩
    by_cases hji : j = i
    · subst hji
      exact ⟨oi, hi, .inl ⟨hei, v, hy.elim (fun h => h.sub (hcs _)) (fun h => h.1), H⟩⟩
    · have := ready_mono hj hji
      rw [H.1] at this; cases this
  | succ f ih =>
    intro listed a S C hcs hcl hfree hr hy H
    refine ⟨fun h => (by rw [h] at hr; cases hr), fun j hj => ?_⟩
    by_cases hji : j = i
    · subst hji
      exact ⟨oi, hi, .inl ⟨hei, v, hy.elim (fun h => h.sub (hcs _)) (fun h => h.1), H⟩⟩
    · obtain ⟨o', ho', hstep⟩ := H.2 j (ready_mono hj hji)
      obtain ⟨hjun, oj, hoj, hall⟩ := mem_ready.1 hj
      have hoe : o' = oj := Option.some.inj (ho'.symm.trans hoj)
      subst hoe
      have hiun := (mem_ready.1 hr).1
      have hnot : ∀ e ∈ o'.after, Region.binds .any e = true → e.on ≠ i := fun e he hb heq => by
        have h1 := hall e he hb
        rw [heq, getD_tf hiun] at h1; cases h1
      have hap := hfree j o' hoj hji hjun hnot
      obtain ⟨h1, h2, h3⟩ := Oper.apart_spec hap
      have hsi := fun cs b => hsel i oi cs b hi
      have hsj := fun cs b => hsel j o' cs b hoj
      have hfree' : ∀ k ok, ops[k]? = some ok → k ≠ i → (listed.setIfInBounds j true).getD k true = false →
          (∀ e ∈ ok.after, Region.binds .any e = true → e.on ≠ i) → oi.apart ops ok = true := fun k ok hk hki hun hno => by
        refine hfree k ok hk hki ?_ hno
        by_cases hjk : j = k
        · subst hjk; exact hjun
        · rw [getD_set_ne true hjk] at hun; exact hun
      have hcl' := hcl.set hj
      have hr' := ready_mono hr (Ne.symm hji)
      have keep : ∀ {C' : Cls} (a' : Act) (u : Value), YldC P ops C' oi v a' → YldC P ops C' oi v (a'.put o'.dst u) := fun a' u hy => hy.of_same (execOp_put oi hsi a' o'.dst u h3) (wanted_put oi a' o'.dst u h3)
      have hpin' : ∀ (q : ∀ k, eff k = true → listed.getD k true = false → Waits ops i k), ∀ k, eff k = true → (listed.setIfInBounds j true).getD k true = false → Waits ops i k := fun q k hk hun => by
        refine q k hk ?_
        by_cases hjk : j = k
        · subst hjk; exact hjun
        · rw [getD_set_ne true hjk] at hun; exact hun
      refine ⟨o', hoj, ?_⟩
      rcases hstep with ⟨hej, u, hu, hK⟩ | ⟨hej, hE⟩
      · refine .inl ⟨hej, u, ?_, ?_⟩
        · exact hu.of_same (execOp_put o' hsj a oi.dst v h1).symm (wanted_put o' a oi.dst v h1).symm
        · refine ih (listed.setIfInBounds j true) (a.put o'.dst u) S C hcs hcl' hfree' hr' ?_ ?_
          · rcases hy with hy | ⟨hy, hp⟩
            · exact .inl (keep a u hy)
            · exact .inr ⟨keep a u hy, hpin' hp⟩
          · rw [Array.setIfInBounds_comm _ _ hji, ← Act.put_comm a v u h2]; exact hK
      · rcases hy with hy | ⟨_, hp⟩
        · refine .inr ⟨hej, fun w hw => ?_⟩
          have hE' := hE w hw
          -- the change, with i's value not yet in its slot
          have key : wpOp P ops (QP Q) j (fun a' w' => YldC P ops (S i) oi v a' ∧ ∃ (S' : Nat → Cls) (C' : Cls), C' w' ∧ (∀ k x, C' x → S' k x) ∧ (∀ k, ¬ Waits ops k j → ∀ x, S' k x → S k x) ∧ AnyC P ops eff Q f ((listed.setIfInBounds i true).setIfInBounds j true) (a'.put oi.dst v) S' C') a w := by
            unfold wpOp at hE' ⊢
            simp only [hoj] at hE' ⊢
            rw [wanted_put o' a oi.dst v h1] at hE'
            split
            · rename_i hwt
              simp only [hwt, if_true] at hE'
              rcases hE' with hE' | ⟨_, _, _, h⟩
              case inr => exact h.elim
              refine .inl ?_
              unfold Oper.wp at *
              rw [execOp_put o' hsj a oi.dst v h1] at hE'
              generalize (execOp a.eval o').run P w = r at *
              cases r with
              | ok nx w' =>
                cases nx <;> simp only [Oper.upon] at hE' ⊢
                case value u => exact ⟨keep a u hy, by rw [← Act.put_comm a v u h2]; exact hE'⟩
                case skip => exact ⟨keep a _ hy, by rw [← Act.put_comm a v undef h2]; exact hE'⟩
                case defer d =>
                  refine ⟨keep _ _ (hy.of_same rfl rfl), ?_⟩
                  rw [← Act.put_comm _ v undef h2, ← Act.put_defers]; exact hE'
                case enter g args =>
                  refine Calls.mono hE' fun x w'' he => ?_
                  cases x with
                  | returned u => exact ⟨keep a u hy, by rw [← Act.put_comm a v u h2]; exact he⟩
                  | panicked c => exact QP.put he
                  | outgrown => exact he
                case row row args => exact Rows.mono hE' fun u w'' he => ⟨keep a u hy, by rw [← Act.put_comm a v u h2]; exact he⟩
              | halt x w' =>
                cases x <;> simp only [Oper.upon] at hE' ⊢
                case panic u => exact QP.put hE'
            · rename_i hwt
              simp only [hwt] at hE'
              exact ⟨keep a _ hy, by rw [← Act.put_comm a v undef h2]; exact hE'⟩
          refine wpOp_mono (fun a' w' ⟨hy', S', C', q1, q2, q3, q4⟩ => ⟨S', C', q1, q2, q3, ?_⟩) key
          refine ih (listed.setIfInBounds j true) a' S' C' q2 hcl' hfree' hr' (.inl (hy'.sub (q3 i fun hw => (hw.late hcl (getD_tf hiun)).1 hj))) ?_
          rw [Array.setIfInBounds_comm _ _ hji]; exact q4
        · exact absurd hj ((hp j hej hjun).late hcl (getD_tf hiun)).1

/-! ### plans -/
inductive Plan where
  | done
  | look (i : Nat) (pin : Nat) (p : Plan)
  | eff1 (i : Nat) (rel : Bool) (p : Plan)
  | eff2 (i : Nat) (rel : Bool) (p : Plan) (j : Nat) (rel' : Bool) (q : Plan)
def Plan.len : Plan → Nat
  | .done => 0
  | .look _ _ p => p.len + 1
  | .eff1 _ _ p => p.len + 1
  | .eff2 _ _ p _ _ _ => p.len + 1
/-- A change that releases waits for all late looks. -/
def relB (ms : List Nat) (lt : List Nat) (i : Nat) (rel : Bool) : Bool := !rel || lt.all fun k => (ms.getD i 0).testBit k
def planB (ops : Array Oper) (ms : List Nat) (effs lt : List Nat) : Plan → Array Bool → Bool
  | .done, l => (Region.ready .any ops l).isEmpty
  | .look i pin p, l => !effs.contains i && (Region.ready .any ops l).contains i && Region.free .any ops l i &&
      (match pin with | 0 => !lt.contains i | 1 => effs.all fun j => l.getD j true || (ms.getD j 0).testBit i | _ => lt.contains i) && planB ops ms effs lt p (l.setIfInBounds i true)
  | .eff1 i rel p, l => effs.contains i && decide (Region.ready .any ops l = [i]) && relB ms lt i rel && planB ops ms effs lt p (l.setIfInBounds i true)
  | .eff2 i rel p j rel' q, l => effs.contains i && effs.contains j && decide (Region.ready .any ops l = [i, j]) && decide (q.len = p.len) && relB ms lt i rel && relB ms lt j rel' &&
      planB ops ms effs lt p (l.setIfInBounds i true) && planB ops ms effs lt q (l.setIfInBounds j true)
def planTop (ops : Array Oper) (effs lt : List Nat) (p : Plan) : Bool :=
  Region.noSelect ops && decide (p.len = ops.size) && planB ops (masks ops ops.size) effs lt p (Array.replicate ops.size false)
/-- What a change keeps for the late looks. -/
def relL (rel : Bool) (L : List HProp) : List HProp := match rel with | true => [] | false => L
/-- What is kept for a look. -/
def KL (W0 : World) (lt : List Nat) (K L : List HProp) (i : Nat) : Cls := fun w => match lt.contains i with | true => Sat W0 L w | false => Sat W0 K w
end

section
variable (P : Program) (W0 : World) (n : Nat) (ds : List Deferred) (ops : Array Oper) (effs lt : List Nat) (Q : Exit → Act → World → Prop)
/-- Along the plan p: from the slots e, with K kept (and L, for the late looks) and G at hand, the region comes to Q. -/
def DG (p : Plan) (e : Env) (K L G : List HProp) : Prop := ∀ (l : Array Bool) (a : Act) (f : Nat), Region.noSelect ops = true → planB ops (masks ops ops.size) effs lt p l = true → Closed ops l → At n ds e a → Imp G K → Imp G L →
  AnyC P ops (fun i => effs.contains i) Q (f + p.len) l a (KL W0 lt K L) (Sat W0 G)
end

section
variable {P : Program} {W0 : World} {n : Nat} {ds : List Deferred} {ops : Array Oper} {effs lt : List Nat} {Q : Exit → Act → World → Prop} {e : Env} {K L G : List HProp}

theorem KL.of {w : World} (h : Sat W0 G w) (hK : Imp G K) (hL : Imp G L) (i : Nat) : KL W0 lt K L i w := by
  unfold KL; split
  · exact h.imp hL
  · exact h.imp hK

/-- Is the operation wanted, as far as is known? -/
def guardS (ops : Array Oper) (e : Env) (o : Oper) : Option Bool :=
  match o.guard with
  | none => some true
  | some (j, want) => match (ops[j]?).bind (·.dst) with
    | some t => match e.get t with
      | some (.bool b) => some (b == want)
      | some _ => some false
      | none => none
    | none => none
theorem guardS_spec {o : Oper} {b : Bool} {a : Act} (h : guardS ops e o = some b) (ha : At n ds e a) : Region.wanted o (yielded ops a.tmps) = b := by
  unfold guardS at h
  split at h
  · rename_i hg; simp only [Option.some.injEq] at h; subst h; simp [Region.wanted, hg]
  · rename_i j want hg
    split at h
    · rename_i t ht
      split at h
      · rename_i b' hv
        simp only [Option.some.injEq] at h
        subst h
        have h2 := ha.slot t _ hv
        have hy : yielded ops a.tmps j = some b' := by
          unfold yielded
          rw [ht]
          simp only [Option.bind_some]
          by_cases hlt : t < a.tmps.size
          · simp only [Array.getD, hlt, dif_pos] at h2
            rw [Array.getElem?_eq_getElem hlt]
            have : a.tmps[t] = .bool b' := h2
            rw [this]
          · simp only [Array.getD, hlt, dif_neg, not_false_eq_true] at h2; cases h2
        simp only [Region.wanted, hg, hy]
        cases b' <;> cases want <;> rfl
      · rename_i v hne hv
        simp only [Option.some.injEq] at h
        subst h
        have h2 := ha.slot t _ hv
        have hy : yielded ops a.tmps j = none := by
          unfold yielded
          rw [ht]
          simp only [Option.bind_some]
          by_cases hlt : t < a.tmps.size
          · simp only [Array.getD, hlt, dif_pos] at h2
            rw [Array.getElem?_eq_getElem hlt]
            have : a.tmps[t] = v := h2
            rw [this]
            cases v <;> first | rfl | (rename_i b; exact absurd rfl (hne b))
          · rw [Array.getElem?_eq_none (Nat.le_of_not_lt hlt)]
        simp [Region.wanted, hg, hy]
      · cases h
    · cases h

theorem DG.done (k : QG W0 n ds Q .normal e G) : DG P W0 n ds ops effs lt Q .done e K L G := fun l a f _ hB _ ha _ _ => by
  have hr : Region.ready .any ops l = [] := by simpa [planB] using hB
  cases f with
  | zero => exact ⟨hr, fun w hw => k a w ha hw⟩
  | succ f => exact ⟨fun _ w hw => k a w ha hw, fun i hi => by rw [hr] at hi; cases hi⟩

/-- In which worlds a look must yield its value. -/
def pinG (pin : Nat) (K L G : List HProp) : List HProp := match pin with | 0 => K | 1 => G | _ => L
theorem look_ok {i pin : Nat} {p : Plan} {l : Array Bool} (hB : planB ops (masks ops ops.size) effs lt (.look i pin p) l = true) {o : Oper} {v : Value} {a : Act} (h : YldC P ops (Sat W0 (pinG pin K L G)) o v a) :
    YldC P ops (KL W0 lt K L i) o v a ∨ (YldC P ops (Sat W0 G) o v a ∧ ∀ j, effs.contains j = true → l.getD j true = false → Waits ops i j) := by
  simp only [planB, Bool.and_eq_true] at hB
  have h4 := hB.1.2
  match pin, h, h4 with
  | 0, h, h4 =>
    refine .inl (h.sub fun w hw => ?_)
    have h5 : lt.contains i = false := by simpa using h4
    unfold KL at hw; rw [h5] at hw; exact hw
  | 1, h, h4 =>
    refine .inr ⟨h, fun j hj hun => ?_⟩
    simp only [List.all_eq_true, Bool.or_eq_true] at h4
    rcases h4 j (by simpa using hj) with h | h
    · rw [hun] at h; cases h
    · exact masks_waits _ j h
  | m + 2, h, h4 =>
    refine .inl (h.sub fun w hw => ?_)
    have h5 : lt.contains i = true := by simpa using h4
    unfold KL at hw; rw [h5] at hw; exact hw
theorem DG.look {i : Nat} {pin : Nat} {p : Plan} {d : Nat} {op : Op} {ty : TypeId} {pos : String} {af : Array Edge} {g : Option (Nat × Bool)} {v : Value} (ho : ops[i]? = some ⟨some d, op, ty, pos, af, g⟩)
    (hg : guardS ops e ⟨some d, op, ty, pos, af, g⟩ = some true) (hy : Yield P W0 op ty e (pinG pin K L G) v) (hd : Nat.ble (d + 1) n = true) (k : DG P W0 n ds ops effs lt Q p ((d, v) :: e) K L G) : DG P W0 n ds ops effs lt Q (.look i pin p) e K L G := fun l a f hs hB hcl ha hGK hGL => by
  have hB' := hB
  simp only [planB, Bool.and_eq_true, Bool.not_eq_true'] at hB
  obtain ⟨⟨⟨⟨h1, h2⟩, h3⟩, _⟩, h5⟩ := hB
  have hr : i ∈ Region.ready .any ops l := by simpa using h2
  have hw := guardS_spec hg ha
  have hwd : Region.wanted ⟨some d, op, ty, pos, af, g⟩ (yielded ops a.tmps) = true := hw
  refine AnyC.first ho (by simpa using h1) (Region.noSelect_spec hs) (f + p.len) l a _ _ (fun k w hw => KL.of hw hGK hGL k) hcl (Region.free_spec ho h3) hr (v := v) ?_ ?_
  · exact look_ok hB' (.inl ⟨hwd, fun w hw' => hy a.eval ha.agrees w hw' _ _ _ _⟩)
  · exact k _ _ f hs h5 (hcl.set hr) (ha.put (Nat.le_of_ble_eq_true hd)) hGK hGL
/-- An operation whose guard says no. -/
theorem DG.pass {i : Nat} {pin : Nat} {p : Plan} {d : Nat} {op : Op} {ty : TypeId} {pos : String} {af : Array Edge} {g : Option (Nat × Bool)} (ho : ops[i]? = some ⟨some d, op, ty, pos, af, g⟩)
    (hg : guardS ops e ⟨some d, op, ty, pos, af, g⟩ = some false) (hd : Nat.ble (d + 1) n = true) (k : DG P W0 n ds ops effs lt Q p ((d, undef) :: e) K L G) : DG P W0 n ds ops effs lt Q (.look i pin p) e K L G := fun l a f hs hB hcl ha hGK hGL => by
  simp only [planB, Bool.and_eq_true, Bool.not_eq_true'] at hB
  obtain ⟨⟨⟨⟨h1, h2⟩, h3⟩, h4⟩, h5⟩ := hB
  have hr : i ∈ Region.ready .any ops l := by simpa using h2
  have hw : Region.wanted ⟨some d, op, ty, pos, af, g⟩ (yielded ops a.tmps) = false := guardS_spec hg ha
  refine AnyC.first ho (by simpa using h1) (Region.noSelect_spec hs) (f + p.len) l a _ _ (fun k w hw => KL.of hw hGK hGL k) hcl (Region.free_spec ho h3) hr (v := undef) (.inl (.inr ⟨hw, rfl⟩)) ?_
  exact k _ _ f hs h5 (hcl.set hr) (ha.put (Nat.le_of_ble_eq_true hd)) hGK hGL

/-- The slots behind an operation. -/
def putE (e : Env) : Option Nat → Value → Env
  | some d, v => (d, v) :: e
  | none, _ => e
def fitsE (n : Nat) : Option Nat → Bool
  | some d => Nat.ble (d + 1) n
  | none => true
theorem At.putE {a : Act} (h : At n ds e a) {dst : Option Nat} {v : Value} (hd : fitsE n dst = true) : At n ds (Sl.putE e dst v) (a.put dst v) := by
  cases dst with
  | none => exact h
  | some d => exact h.put (Nat.le_of_ble_eq_true hd)

/-- A change, at its place in a region: behind it K' x is kept, which says no less than K. -/
def Chg (P : Program) (W0 : World) (n : Nat) (ds : List Deferred) (ops : Array Oper) (effs lt : List Nat) (Q : Exit → Act → World → Prop) (i : Nat) (rel : Bool) (p : Plan) (e : Env) (K L G : List HProp) : Prop :=
  ∃ o, ops[i]? = some o ∧ ∀ a, At n ds e a → ∀ w, Sat W0 G w → wpOp P ops (QP Q) i (fun a' w' => ∃ (e' : Env) (K' G' : List HProp), At n ds e' a' ∧ Sat W0 G' w' ∧ Imp G' K' ∧ Imp K' K ∧ Imp G' (relL rel L) ∧ DG P W0 n ds ops effs lt Q p e' K' (relL rel L) G') a w

theorem Chg.eff {i : Nat} {rel : Bool} {p : Plan} {dst : Option Nat} {op : Op} {ty : TypeId} {pos : String} {af : Array Edge} {g : Option (Nat × Bool)} {α : Type} {φ : α → Prop} {v : α → Value} {G' : α → List HProp} {K' : α → List HProp} (ho : ops[i]? = some ⟨dst, op, ty, pos, af, g⟩)
    (hg : guardS ops e ⟨dst, op, ty, pos, af, g⟩ = some true) (hy : Eff P W0 op ty e G φ v G') (hd : fitsE n dst = true) (hk : ∀ x, Imp (G' x) (K' x)) (hk' : ∀ x, Imp (K' x) K) (hl : ∀ x, Imp (G' x) (relL rel L))
    (k : ∀ x, φ x → DG P W0 n ds ops effs lt Q p (putE e dst (v x)) (K' x) (relL rel L) (G' x)) : Chg P W0 n ds ops effs lt Q i rel p e K L G := by
  refine ⟨_, ho, fun a ha w hw => ?_⟩
  unfold wpOp
  simp only [ho]
  rw [if_pos (guardS_spec hg ha)]
  refine .inl ?_
  unfold Oper.wp
  obtain ⟨x, w', hx, hs, hr | ⟨hr, hu⟩⟩ := hy a.eval ha.agrees w hw dst pos af g
  · rw [hr, Oper.upon_value]; exact ⟨_, _, _, ha.putE hd, hs, hk x, hk' x, hl x, k x hx⟩
  · rw [hr, Oper.upon_skip, ← hu]; exact ⟨_, _, _, ha.putE hd, hs, hk x, hk' x, hl x, k x hx⟩
theorem Chg.callo {i : Nat} {rel : Bool} {p : Plan} {dst : Option Nat} {ty : TypeId} {pos : String} {af : Array Edge} {g : Option (Nat × Bool)} {f : FuncId} {args : List Operand} {ats : Array TypeId} {vs : List Value} {G1 : List HProp} {α : Type} {φ : α → Prop} {v : α → Value} {G' K' : α → List HProp}
    (ho : ops[i]? = some ⟨dst, .call { callee := .value (.func f), args := args.toArray, argTypes := ats }, ty, pos, af, g⟩) (hg : guardS ops e ⟨dst, .call { callee := .value (.func f), args := args.toArray, argTypes := ats }, ty, pos, af, g⟩ = some true)
    (hc : CallOK P f) (ha : e.evs args = some vs) (hi : Imp G G1) (hs : Ctr P W0 f vs G1 φ v G') (hd : fitsE n dst = true) (hk : ∀ x, Imp (G' x) (K' x)) (hk' : ∀ x, Imp (K' x) K) (hl : ∀ x, Imp (G' x) (relL rel L))
    (k : ∀ x, φ x → DG P W0 n ds ops effs lt Q p (putE e dst (v x)) (K' x) (relL rel L) (G' x)) : Chg P W0 n ds ops effs lt Q i rel p e K L G := by
  obtain ⟨fn, c, hf, hb, hn⟩ := hc
  refine ⟨_, ho, fun a hat w hw => ?_⟩
  unfold wpOp
  simp only [ho]
  rw [if_pos (guardS_spec hg hat)]
  refine .inl ?_
  unfold Oper.wp
  rw [run_call hf hb hn hat.agrees ha w, Oper.upon_enter]
  refine (hs w (hw.imp hi)).mono ?_
  rintro r w' ⟨x, hx, rfl, hs'⟩
  exact ⟨_, _, _, hat.putE hd, hs', hk x, hk' x, hl x, k x hx⟩
theorem Chg.pass {i : Nat} {rel : Bool} {p : Plan} {o : Oper} (ho : ops[i]? = some o) (hg : guardS ops e o = some false) (hd : fitsE n o.dst = true) (k : DG P W0 n ds ops effs lt Q p (putE e o.dst undef) K (relL rel L) G) (hGK : Imp G K) (hl : Imp G (relL rel L)) : Chg P W0 n ds ops effs lt Q i rel p e K L G := by
  refine ⟨_, ho, fun a hat w hw => ?_⟩
  unfold wpOp
  simp only [ho]
  rw [if_neg (by rw [guardS_spec hg hat]; simp)]
  exact ⟨_, _, _, hat.putE hd, hw, hGK, Imp.refl _, hl, k⟩

theorem rel_keep {i : Nat} {rel : Bool} {K' : List HProp} (h : relB (masks ops ops.size) lt i rel = true) (hK : Imp K' K) : ∀ k, ¬ Waits ops k i → ∀ x, KL W0 lt K' (relL rel L) k x → KL W0 lt K L k x := fun k hk x hx => by
  unfold KL at *
  cases hc : lt.contains k with
  | false => rw [hc] at hx; exact hx.imp hK
  | true =>
    rw [hc] at hx
    cases rel with
    | false => exact hx
    | true =>
      exfalso
      simp only [relB, Bool.not_true, Bool.false_or, List.all_eq_true] at h
      exact hk (masks_waits _ _ (h k (by simpa using hc)))
theorem DG.eff1 {i : Nat} {rel : Bool} {p : Plan} (h : Chg P W0 n ds ops effs lt Q i rel p e K L G) : DG P W0 n ds ops effs lt Q (.eff1 i rel p) e K L G := fun l a f hs hB hcl ha hGK hGL => by
  simp only [planB, Bool.and_eq_true, decide_eq_true_eq] at hB
  obtain ⟨⟨⟨h1, h2⟩, hrel⟩, h3⟩ := hB
  obtain ⟨o, ho, hE⟩ := h
  show AnyC P ops _ Q ((f + p.len) + 1) l a _ _
  refine ⟨fun h0 => (by rw [h2] at h0; cases h0), fun j hj => ?_⟩
  rw [h2] at hj
  obtain rfl : j = i := by simpa using hj
  have hr : j ∈ Region.ready .any ops l := by rw [h2]; simp
  refine ⟨o, ho, .inr ⟨h1, fun w hw => wpOp_mono (fun a' w' ⟨e', K', G', q1, q2, q3, q4, q6, q5⟩ => ?_) (hE a ha w hw)⟩⟩
  exact ⟨KL W0 lt K' (relL rel L), Sat W0 G', q2, fun k x hx => KL.of hx q3 q6 k, rel_keep hrel q4, q5 _ _ f hs h3 (hcl.set hr) q1 q3 q6⟩
theorem DG.eff2 {i j : Nat} {rel rel' : Bool} {p q : Plan} (h : Chg P W0 n ds ops effs lt Q i rel p e K L G) (h' : Chg P W0 n ds ops effs lt Q j rel' q e K L G) : DG P W0 n ds ops effs lt Q (.eff2 i rel p j rel' q) e K L G := fun l a f hs hB hcl ha hGK hGL => by
  simp only [planB, Bool.and_eq_true, decide_eq_true_eq] at hB
  obtain ⟨⟨⟨⟨⟨⟨⟨h1, h1'⟩, h2⟩, h4⟩, hrel⟩, hrel'⟩, h3⟩, h3'⟩ := hB
  show AnyC P ops _ Q ((f + p.len) + 1) l a _ _
  refine ⟨fun h0 => (by rw [h2] at h0; cases h0), fun m hm => ?_⟩
  have hr := hm
  rw [h2] at hm
  simp only [List.mem_cons, List.not_mem_nil, or_false] at hm
  rcases hm with rfl | rfl
  · obtain ⟨o, ho, hE⟩ := h
    refine ⟨o, ho, .inr ⟨h1, fun w hw => wpOp_mono (fun a' w' ⟨e', K', G', q1, q2, q3, q4, q6, q5⟩ => ?_) (hE a ha w hw)⟩⟩
    exact ⟨KL W0 lt K' (relL rel L), Sat W0 G', q2, fun k x hx => KL.of hx q3 q6 k, rel_keep hrel q4, q5 _ _ f hs h3 (hcl.set hr) q1 q3 q6⟩
  · obtain ⟨o, ho, hE⟩ := h'
    refine ⟨o, ho, .inr ⟨h1', fun w hw => wpOp_mono (fun a' w' ⟨e', K', G', q1, q2, q3, q4, q6, q5⟩ => ?_) (hE a ha w hw)⟩⟩
    exact ⟨KL W0 lt K' (relL rel' L), Sat W0 G', q2, fun k x hx => KL.of hx q3 q6 k, rel_keep hrel' q4, by have := q5 _ _ f hs h3' (hcl.set hr) q1 q3 q6; rw [h4] at this; exact this⟩

/-- A region that draws its order, by a plan. -/
theorem CG.draw {r : Option Nat} {id : Nat} {l : List Oper} (p : Plan) (effs lt : List Nat) (K L : List HProp) (hm : P.follows .mixedOrders = true) (hB : planTop l.toArray effs lt p = true) (hK : Imp G K) (hL : Imp G L) (k : DG P W0 n ds l.toArray effs lt Q p e K L G) (hd : ndB r l = true := by rfl) :
    CG r P W0 n ds (.region id l.toArray true) Q e G := fun a w ha hw => by
  simp only [planTop, Bool.and_eq_true, decide_eq_true_eq] at hB
  obtain ⟨⟨h1, h2⟩, h3⟩ := hB
  refine wpIn_region_any hm ?_
  have := k _ a 0 h1 h3 (fun j oj _ hl => by
    rw [show (Array.replicate l.toArray.size false).getD j false = false by
      rcases Nat.lt_or_ge j l.length with h | h <;> simp [h]] at hl
    cases hl) ha hK hL
  rw [Nat.zero_add, h2] at this
  exact AnyC.anyIn (by rw [List.toList_toArray]; exact nd_of hd) _ _ _ _ _ _ (hw.draw _) this
end
end Go.Sl
/- Functions: from the body to a contract, and what stands at its end. No program in sight. -/
namespace Go.Sl
open Go Go.RowKit

/-- The arguments in their slots. -/
def env0 : Nat → List Value → Env
  | _, [] => []
  | i, v :: l => (i, v) :: env0 (i + 1) l
theorem env0_get : ∀ (l : List Value) (i t : Nat) (v : Value), (env0 i l).get t = some v → i ≤ t ∧ l[t - i]? = some v
  | [], _, _, _, h => by cases h
  | u :: l, i, t, v, h => by
    simp only [env0, Env.get] at h
    cases hb : Nat.beq t i with
    | true =>
      rw [hb] at h
      have := Nat.eq_of_beq_eq_true hb
      subst this
      simp only [cond_true, Option.some.injEq] at h
      subst h; simp
    | false =>
      rw [hb] at h
      obtain ⟨h1, h2⟩ := env0_get l (i + 1) t v h
      refine ⟨by omega, ?_⟩
      rw [show t - i = (t - (i + 1)) + 1 by omega]; simpa using h2

section
variable {P : Program} {W0 : World} {n : Nat} {e : Env} {G : List HProp}

theorem At.start {args : List Value} (h : args.length ≤ n) : At n [] (env0 0 args) { tmps := args.toArray ++ Array.replicate (n - args.toArray.size) undef, defers := [] } := by
  refine ⟨by simp; omega, fun t v ht => ?_, rfl⟩
  obtain ⟨_, h2⟩ := env0_get args 0 t v ht
  simp only [Nat.sub_zero] at h2
  have hlt : t < args.length := by
    rcases Nat.lt_or_ge t args.length with h1 | h1
    · exact h1
    · rw [List.getElem?_eq_none h1] at h2; cases h2
  simp only [Array.getD_eq_getD_getElem?]
  rw [Array.getElem?_append_left (by simpa using hlt)]
  simp [h2]

/-- What a contract's body owes at its end. -/
def RetP (W0 : World) {α : Type} (φ : α → Prop) (v : α → Value) (G' : α → List HProp) : Ending → World → Prop := fun r w' => ∃ x, φ x ∧ r = .returned (v x) ∧ Sat W0 (G' x) w'

theorem Ctr.of_body {f : FuncId} {fn : Func} {c : Code} {args : List Value} {α : Type} {φ : α → Prop} {v : α → Value} {G' : α → List HProp} (hf : P.funcs[f]? = some fn) (hb : fn.body = some c) (hn : fn.ntmps = n)
    (hl : Nat.ble args.length n = true) (k : CG none P W0 n [] c (bodyPost P fn (RetP W0 φ v G')) (env0 0 args) G) : Ctr P W0 f args G φ v G' := fun w hw => by
  subst hn
  exact calls_of_wp hf hb ((wpIn_wide (n := 0)).1 (k _ w (At.start (Nat.le_of_ble_eq_true hl)) hw))

theorem QG.ret0 {fn : Func} {α : Type} {φ : α → Prop} {v : α → Value} {G' : α → List HProp} (hr : fn.results = #[]) (x : α) (hx : φ x) (hv : v x = .tuple #[]) (hi : Imp G (G' x)) : QG W0 n [] (bodyPost P fn (RetP W0 φ v G')) .ret e G := fun a w ha hw =>
  ⟨ha.defers, _, results_none hr a.tmps P w, x, hx, by rw [hv], hw.imp hi⟩
theorem QG.end0 {fn : Func} {α : Type} {φ : α → Prop} {v : α → Value} {G' : α → List HProp} (hr : fn.results = #[]) (x : α) (hx : φ x) (hv : v x = .tuple #[]) (hi : Imp G (G' x)) : QG W0 n [] (bodyPost P fn (RetP W0 φ v G')) .normal e G := fun a w ha hw =>
  ⟨ha.defers, _, results_none hr a.tmps P w, x, hx, by rw [hv], hw.imp hi⟩
theorem QG.ret1 {fn : Func} {t : Nat} {u : Value} {α : Type} {φ : α → Prop} {v : α → Value} {G' : α → List HProp} (hr : fn.results = #[.tmp t]) (ht : e.get t = some u) (x : α) (hx : φ x) (hv : u = v x) (hi : Imp G (G' x)) : QG W0 n [] (bodyPost P fn (RetP W0 φ v G')) .ret e G := fun a w ha hw =>
  ⟨ha.defers, _, results_tmp hr a.tmps P w, x, hx, by rw [ha.slot t u ht, hv], hw.imp hi⟩
theorem QG.ret2 {fn : Func} {t1 t2 : Nat} {u1 u2 : Value} {α : Type} {φ : α → Prop} {v : α → Value} {G' : α → List HProp} (hr : fn.results = #[.tmp t1, .tmp t2]) (h1 : e.get t1 = some u1) (h2 : e.get t2 = some u2) (x : α) (hx : φ x) (hv : v x = .tuple #[u1, u2]) (hi : Imp G (G' x)) : QG W0 n [] (bodyPost P fn (RetP W0 φ v G')) .ret e G := fun a w ha hw =>
  ⟨ha.defers, _, results_tmp2 hr a.tmps P w, x, hx, by rw [ha.slot t1 u1 h1, ha.slot t2 u2 h2, hv], hw.imp hi⟩
theorem QG.ret3 {fn : Func} {t1 t2 t3 : Nat} {u1 u2 u3 : Value} {α : Type} {φ : α → Prop} {v : α → Value} {G' : α → List HProp} (hr : fn.results = #[.tmp t1, .tmp t2, .tmp t3]) (h1 : e.get t1 = some u1) (h2 : e.get t2 = some u2) (h3 : e.get t3 = some u3) (x : α) (hx : φ x) (hv : v x = .tuple #[u1, u2, u3]) (hi : Imp G (G' x)) : QG W0 n [] (bodyPost P fn (RetP W0 φ v G')) .ret e G := fun a w ha hw =>
  ⟨ha.defers, .tuple #[u1, u2, u3], by
    have q1 := ha.slot t1 u1 h1; have q2 := ha.slot t2 u2 h2; have q3 := ha.slot t3 u3 h3
    simp only [Array.getD_eq_getD_getElem?] at q1 q2 q3
    simp [results, hr, q1, q2, q3, pure, Sem.run], x, hx, by rw [hv], hw.imp hi⟩

theorem OG.pure {ds : List Deferred} {ops : Array Oper} {Q : Exit → Act → World → Prop} {l : List Oper} {φ : Prop} (h : ∀ w, Sat W0 G w → φ) (k : φ → OG P W0 n ds ops Q l e G) : OG P W0 n ds ops Q l e G := fun a w ha hw => k (h w hw) a w ha hw
theorem CG.pure {r : Option Nat} {ds : List Deferred} {Q : Exit → Act → World → Prop} {c : Code} {φ : Prop} (h : ∀ w, Sat W0 G w → φ) (k : φ → CG r P W0 n ds c Q e G) : CG r P W0 n ds c Q e G := fun a w ha hw => k (h w hw) a w ha hw
theorem Ctr.pure {f : FuncId} {args : List Value} {α : Type} {φ : α → Prop} {v : α → Value} {G' : α → List HProp} {ψ : Prop} (h : ∀ w, Sat W0 G w → ψ) (k : ψ → Ctr P W0 f args G φ v G') : Ctr P W0 f args G φ v G' := fun w hw => k (h w hw) w hw
theorem Ctr.imp {f : FuncId} {args : List Value} {α : Type} {φ : α → Prop} {v : α → Value} {G' : α → List HProp} {G1 : List HProp} (h : Imp G G1) (k : Ctr P W0 f args G1 φ v G') : Ctr P W0 f args G φ v G' := fun w hw => k w (hw.imp h)

/-- The round's end of a loop. -/
theorem QG.next {ds : List Deferred} {Q : Exit → Act → World → Prop} {ι : Type} {φ : ι → Prop} {vals : ι → Env} {Γ : ι → List HProp} {μ : ι → Nat} {m : Nat} (j : ι) (hj : φ j) (hm : μ j < m) (he : (vals j).sub e) (hi : Imp G (Γ j)) :
    QG W0 n ds (Exit.then (LoopAt W0 n ds φ vals Γ μ m) Q) .normal e G := fun _ _ ha hw => ⟨j, hj, hm, ha.sub he, hw.imp hi⟩
end
theorem wrap_u64_range (x : Int) : 0 ≤ IntKind.u64.wrap x ∧ IntKind.u64.wrap x ≤ 18446744073709551615 := by rw [IntKind.wrap_u64]; omega
theorem wu64 {x : Int} (h1 : 0 ≤ x) (h2 : x ≤ 18446744073709551615) : IntKind.u64.wrap x = x := by rw [IntKind.wrap_u64]; omega
theorem wu32 {x : Int} (h1 : 0 ≤ x) (h2 : x ≤ 4294967295) : IntKind.u32.wrap x = x := by rw [IntKind.wrap_u32]; omega
end Go.Sl
/- Slices: what is read through one, what is owned, append, copy, make, strings and bytes. No program in sight. -/
namespace Go.Sl
open Go Go.RowKit

/-- In the world w the slice (a, m elements of sz cells) reads as the cells xs. -/
def SlAt (w : World) (sz : Nat) (a : Option Addr) (m : Nat) (xs : List Value) : Prop :=
  xs.length = m * sz ∧ (xs = [] ∨ ∃ b o, a = some ⟨b, o, none⟩ ∧ ∀ i v, xs[i]? = some v → w.cell? ⟨b, o + i, none⟩ = some v)
/-- .. in every world that bears G. -/
def SlR (W0 : World) (G : List HProp) (sz : Nat) (a : Option Addr) (m : Nat) (xs : List Value) : Prop := ∀ w, Sat W0 G w → SlAt w sz a m xs
/-- The slice with address a, m elements of sz cells, capacity c owns its array; its elements' cells are xs. -/
def osl (E sz : Nat) (a : Option Addr) (c m : Nat) (xs : List Value) : HProp := fun h => xs.length = m * sz ∧ m ≤ c ∧ ((a = none ∧ c = 0 ∧ xs = []) ∨
  ∃ (b o : Nat) (cs : List Value) (fr : Nat × Nat), a = some ⟨b, o, none⟩ ∧ h b = some (.cells cs.toArray E fr) ∧ NoFr fr cs.length ∧ o + c * sz ≤ cs.length ∧ (cs.drop o).take (m * sz) = xs)

theorem take_get {cs xs : List Value} {o k i : Nat} {v : Value} (h : (cs.drop o).take k = xs) (hi : xs[i]? = some v) : cs[o + i]? = some v := by
  subst h
  rw [List.getElem?_take] at hi
  split at hi
  · rw [List.getElem?_drop] at hi; exact hi
  · cases hi
theorem le_of_get {xs : List Value} {i : Nat} {v : Value} (hi : xs[i]? = some v) : i < xs.length := by
  rcases Nat.lt_or_ge i xs.length with h1 | h1
  · exact h1
  · rw [List.getElem?_eq_none h1] at hi; cases hi

section
variable {P : Program} {W0 : World} {e : Env} {G R : List HProp} {ty : TypeId} {E sz : Nat} {a : Option Addr} {c m : Nat} {xs : List Value}

theorem SlR.imp {G' : List HProp} (h : SlR W0 G' sz a m xs) (hi : Imp G G') : SlR W0 G sz a m xs := fun w hw => h w (hw.imp hi)
theorem SlR.of_osl (x : Ext G (osl E sz a c m xs) R) : SlR W0 G sz a m xs := fun w hw => by
  obtain ⟨f, hf, h1, _, h3⟩ := Sat.ext x hw
  refine ⟨h1, ?_⟩
  rcases h3 with ⟨_, _, h⟩ | ⟨b, o, cs, fr, ha, hb, _, _, ht⟩
  · exact .inl h
  · exact .inr ⟨b, o, ha, fun i v hi => by rw [cell_of_heap (hf _ _ hb)]; exact take_get ht hi⟩
theorem SlR.of_osl_eq {m' : Nat} {xs' : List Value} (x : Ext G (osl E sz a c m xs) R) (h1 : m = m') (h2 : xs = xs') : SlR W0 G sz a m' xs' := by
  subst h1 h2; exact SlR.of_osl x
theorem SlR.of_row {b o : Nat} (h : Row W0 G b o xs) (hl : xs.length = m * sz) : SlR W0 G sz (some ⟨b, o, none⟩) m xs := fun w hw => ⟨hl, .inr ⟨b, o, rfl, fun i v hi => h i v hi w hw⟩⟩
theorem SlR.nil : SlR W0 G sz none 0 [] := fun _ _ => ⟨by simp, .inl rfl⟩
theorem SlAt.len {w : World} (h : SlAt w sz a m xs) : xs.length = m * sz := h.1

theorem SlR.cel {b o i : Nat} {v : Value} (h : SlR W0 G sz (some ⟨b, o, none⟩) m xs) (hi : xs[i]? = some v) : Cel W0 G ⟨b, o + i, none⟩ v := fun w hw => by
  obtain ⟨_, h2 | ⟨b', o', ha, h2⟩⟩ := h w hw
  · subst h2; simp at hi
  · cases ha; exact h2 i v hi
theorem SlR.row {b o : Nat} (h : SlR W0 G sz (some ⟨b, o, none⟩) m xs) (i k : Nat) {ys : List Value} (hy : (xs.drop i).take k = ys) : Row W0 G b (o + i) ys := fun j v hj => by
  rw [Nat.add_assoc]; exact h.cel (take_get hy hj)
/-- A slice that is not empty has an address. -/
theorem SlR.shape (h : SlR W0 G sz a m xs) (h0 : xs ≠ []) (w : World) (hw : Sat W0 G w) : ∃ b o, a = some ⟨b, o, none⟩ := by
  obtain ⟨_, h2 | ⟨b', o', ha, _⟩⟩ := h w hw
  · exact absurd h2 h0
  · exact ⟨b', o', ha⟩
theorem osl_facts (x : Ext G (osl E sz a c m xs) R) (w : World) (hw : Sat W0 G w) : xs.length = m * sz ∧ m ≤ c := by
  obtain ⟨f, hf, h1, h2, _⟩ := Sat.ext x hw
  exact ⟨h1, h2⟩

/-- A piece of what is read. -/
theorem SlR.cut {l h cc : Nat} {ys : List Value} (s : SlR W0 G sz a m xs) (hlh : l ≤ h) (hh : h ≤ m) (hc : m ≤ cc) (hy : (xs.drop (l * sz)).take ((h - l) * sz) = ys) : SlR W0 G sz (a.map fun a => cutAt a l cc sz) (h - l) ys := fun w hw => by
  obtain ⟨h1, h2⟩ := s w hw
  have hle : h * sz ≤ m * sz := Nat.mul_le_mul_right _ hh
  have hlen : ys.length = (h - l) * sz := by
    subst hy; simp only [List.length_take, List.length_drop, h1, Nat.sub_mul]; omega
  refine ⟨hlen, ?_⟩
  rcases h2 with h2 | ⟨b, o, rfl, h2⟩
  · subst h2; exact .inl (by simpa using hy.symm)
  · by_cases hq : cc = l
    · have : h - l = 0 := by omega
      rw [this] at hlen; simp at hlen; exact .inl hlen
    · refine .inr ⟨b, o + l * sz, by simp [cutAt, hq, add_at], fun i v hi => ?_⟩
      rw [Nat.add_assoc]; exact h2 _ v (take_get hy hi)

/-! ### append -/
theorem growBy_le (need : Nat) : ∀ (r c : Nat), c ≤ 2 * need + 768 → Builtin.growBy need r c ≤ 2 * need + 768
  | 0, c, h => h
  | r + 1, c, h => by
    unfold Builtin.growBy
    split
    · exact h
    · exact growBy_le need r _ (by omega)
theorem nextslicecap_le {need c : Nat} (h : c < need) : Builtin.nextslicecap need c ≤ 2 * need + 768 := by
  unfold Builtin.nextslicecap
  split
  · omega
  · split
    · omega
    · exact growBy_le need 4 c (by omega)

theorem run_firstCells {w : World} {cc : Nat} (h : SlAt w sz a m xs) : (Builtin.firstCells sz m (.slice a m cc)).run P w = .ok xs.toArray w := by
  obtain ⟨h1, h2⟩ := h
  cases a with
  | none =>
    rcases h2 with h2 | ⟨_, _, h2, _⟩
    · subst h2; simp [Builtin.firstCells, pure, Sem.run]
    · cases h2
  | some ad =>
    rcases h2 with h2 | ⟨b, o, h2, h3⟩
    · subst h2
      have : m * sz = 0 := by simpa using h1.symm
      simp [Builtin.firstCells, this, loadCells, loadCellsFrom, pure, Sem.run]
    · cases h2; exact run_loadCells h1 h3
theorem run_firstCells_le {w : World} {cc k : Nat} (h : SlAt w sz a m xs) (hk : k ≤ m) : (Builtin.firstCells sz k (.slice a m cc)).run P w = .ok (xs.take (k * sz)).toArray w := by
  have h1 := h.1
  have hle : k * sz ≤ m * sz := Nat.mul_le_mul_right _ hk
  have : SlAt w sz a k (xs.take (k * sz)) := by
    refine ⟨by rw [List.length_take, h1]; omega, ?_⟩
    rcases h.2 with h2 | ⟨b, o, h2, h3⟩
    · subst h2; simp
    · exact .inr ⟨b, o, h2, fun i v hi => h3 i v (by rw [List.getElem?_take] at hi; split at hi; exact hi; cases hi)⟩
  have h2 := run_firstCells (P := P) (cc := cc) this
  cases a <;> exact h2

theorem osl_over {o : Nat} {cs ys : List Value} (h : (cs.drop o).take (m * sz) = xs) (hl : xs.length = m * sz) (ho : o + (m * sz + ys.length) ≤ cs.length) :
    ((over cs (o + m * sz) ys).drop o).take (m * sz + ys.length) = xs ++ ys := by
  unfold over
  have h0 : o + m * sz ≤ cs.length := by omega
  have e1 : cs.take (o + m * sz) = cs.take o ++ xs := by rw [List.take_add, h]
  rw [e1]
  simp only [List.append_assoc]
  rw [List.drop_append, List.drop_eq_nil_of_le (by simp; omega)]
  have : o - (List.take o cs).length = 0 := by simp; omega
  rw [this]
  simp only [List.drop_zero, List.nil_append]
  rw [← List.append_assoc, List.take_append_of_le_length (by simp [hl])]
  rw [List.take_of_length_le (by simp [hl])]

theorem run_built {b : Builtin} {args : List Operand} {vs : List Value} {ats : Array TypeId} {ρ : Operand → Value} {s : Sem Value} (hρ : Agrees e ρ) (ha : e.evs args = some vs) {w w' : World} {u : Value} {dst pos after guard}
    (hb : ∀ cb, builtin b ats ty cb vs.toArray = s.bind fun v => .pure (.value v)) (h : s.run P w = .ok u w') :
    (execOp ρ ⟨dst, .call { callee := .builtin b, args := args.toArray, argTypes := ats }, ty, pos, after, guard⟩).run P w = .ok (.value u) w' := by
  refine run_builtin hρ ha ?_
  rw [hb, run_bind_ok h]; rfl

theorem run_append_room {st st2 el el2 : TypeId} {a2 : Option Addr} {k c2 by' : Nat} {z : Value} {ag : Bool} {ys cs : List Value} {w : World} {b o : Nat} {fr : Nat × Nat}
    (hu : P.underlying st = some (.slice el)) (hu2 : P.underlying st2 = some (.slice el2)) (ht : TI P el sz by' z ag) (hcap : m + k ≤ c) (hs2 : SlAt w sz a2 k ys)
    (hb : w.heap[b]? = some (.cells cs.toArray E fr)) (hf : NoFr fr cs.length) (ho : o + c * sz ≤ cs.length) (hone : ∀ v ∈ ys, one v = true) :
    (Builtin.append_ #[st, st2] ty #[.slice (some ⟨b, o, none⟩) m c, .slice a2 k c2]).run P w = .ok (.slice (some ⟨b, o, none⟩) (m + k) c) (setObjW w b (.cells (over cs (o + m * sz) ys).toArray E fr)) := by
  unfold Builtin.append_
  simp only [List.getElem?_toArray, List.getElem?_cons_zero, List.getElem?_cons_succ]
  show ((underlying st).bind _).run P w = _
  rw [run_bind_ok (run_underlying hu w)]
  simp only []
  show ((sizeOf el).bind _).run P w = _
  rw [run_bind_ok (ht.run_size w)]
  simp only [bind]
  rw [run_bind_ok (run_underlying hu2 w)]
  simp only []
  rw [run_bind_ok (show (Pure.pure false : Sem Bool).run P w = .ok false w from rfl)]
  simp only [Bool.false_eq_true, if_false]
  rw [run_bind_ok (show (Builtin.lenOf (.slice a2 k c2)).run P w = .ok k w by rfl)]
  simp only [Bool.not_false, if_true]
  rw [if_pos hcap, run_bind_ok (run_firstCells hs2)]
  simp only []
  have hle : (m + k) * sz ≤ c * sz := Nat.mul_le_mul_right _ hcap
  rw [Nat.add_mul] at hle
  have hl := hs2.1
  have h1 := run_storeCells (P := P) (b := b) (o := o + m * sz) (t := E) ys 0 w cs hb hf (by rw [hl]; omega) hone
  rw [add_at, run_bind_ok h1]
  rfl

theorem run_append_grow {st st2 el el2 : TypeId} {a2 : Option Addr} {k c2 by' : Nat} {z : Value} {ag : Bool} {ys : List Value} {w : World}
    (hu : P.underlying st = some (.slice el)) (hu2 : P.underlying st2 = some (.slice el2)) (ht : TI P el sz by' z ag) (hz : z.cells.size = sz) (hcap : ¬ m + k ≤ c) (hs : SlAt w sz a m xs) (hs2 : SlAt w sz a2 k ys)
    (hb : (2 * (m + k) + 768) * by' ≤ 2 ^ 48) (hb2 : m + k < 2 ^ 62) (hby : 0 < by') :
    ∃ (nc : Nat) (cs : List Value), m + k ≤ nc ∧ nc * sz = cs.length ∧ cs.take ((m + k) * sz) = xs ++ ys ∧
    (Builtin.append_ #[st, st2] ty #[.slice a m c, .slice a2 k c2]).run P w = .ok (.slice (some ⟨w.heap.size, 0, none⟩) (m + k) nc) { w with heap := w.heap.push (.cells cs.toArray el (0, 0)), drawn := w.drawn + 1 } := by
  obtain ⟨i, hi, hi1, hi2, hi3⟩ := ht.run_info w
  have hnc := nextslicecap_le (need := m + k) (c := c) (by omega)
  have hnc2 : Builtin.nextslicecap (m + k) c * by' ≤ 2 ^ 48 := Nat.le_trans (Nat.mul_le_mul_right _ hnc) hb
  let nc := (m + k) + w.tape w.drawn (.appendCap (m + k) c el) % (2 ^ 63 - (m + k))
  have hge : m + k ≤ nc := Nat.le_add_right _ _
  refine ⟨nc, xs ++ ys ++ (Builtin.zeroCells z.cells (nc - (m + k))).toList, hge, ?_, ?_, ?_⟩
  · simp only [List.length_append, hs.1, hs2.1, Builtin.zeroCells, Array.length_toList, Array.size_map, Array.size_range, hz, Nat.sub_mul, Nat.add_mul]
    have : m * sz + k * sz ≤ nc * sz := by rw [← Nat.add_mul]; exact Nat.mul_le_mul_right _ hge
    omega
  · rw [List.take_append_of_le_length (by simp [hs.1, hs2.1, Nat.add_mul]), List.take_of_length_le (by simp [hs.1, hs2.1, Nat.add_mul])]
  · unfold Builtin.append_
    simp only [List.getElem?_toArray, List.getElem?_cons_zero, List.getElem?_cons_succ]
    show ((underlying st).bind _).run P w = _
    rw [run_bind_ok (run_underlying hu w)]
    simp only []
    show ((sizeOf el).bind _).run P w = _
    rw [run_bind_ok (ht.run_size w)]
    simp only [bind]
    rw [run_bind_ok (run_underlying hu2 w)]
    simp only []
    rw [run_bind_ok (show (Pure.pure false : Sem Bool).run P w = .ok false w from rfl)]
    simp only [Bool.false_eq_true, if_false]
    rw [run_bind_ok (show (Builtin.lenOf (.slice a2 k c2)).run P w = .ok k w by rfl)]
    simp only [Bool.not_false, if_true]
    rw [if_neg hcap, run_bind_ok hi]
    rw [if_neg (by rw [hi2]; rintro ⟨_, h | h⟩ <;> first | omega | cases h)]
    rw [run_bind_ok hi, if_neg (by rw [hi2]; omega)]
    have hch : (choose (.appendCap (m + k) c el)).run P w = .ok nc { w with drawn := w.drawn + 1 } := by
      simp [choose, Sem.run, Question.forced, Question.cut, nc]
    rw [run_bind_ok hch]
    let w1 : World := { w with drawn := w.drawn + 1 }
    have hw1 : ∀ ad, w1.cell? ad = w.cell? ad := fun _ => rfl
    have hs' : SlAt w1 sz a m xs := hs
    have hs2' : SlAt w1 sz a2 k ys := hs2
    obtain ⟨i', hi', hj1, hj2, hj3⟩ := ht.run_info w1
    rw [run_bind_ok hi']
    rw [run_bind_ok (show (askRoom (nc * i'.bytes)).run P w1 = .ok () w1 by unfold askRoom; split <;> simp [mark, pure, Sem.run])]
    rw [run_bind_ok (run_firstCells hs'), run_bind_ok (run_firstCells hs2')]
    rw [run_bind_ok (ht.run_zero w1)]
    simp only [newRow, newObj, bind, Sem.bind, pure, Sem.run]
    have : (Array.mk (xs ++ ys ++ (Builtin.zeroCells z.cells (nc - (m + k))).toList)) = xs.toArray ++ ys.toArray ++ Builtin.zeroCells z.cells (nc - (m + k)) := by
      apply Array.ext'; simp
    rw [← this]

/-- append onto a slice of one's own. -/
theorem Eff.append {x y : Operand} {st st2 el el2 : TypeId} {a2 : Option Addr} {k c2 by' : Nat} {z : Value} {ag : Bool} {ys : List Value} {put : HProp → List HProp} {ats : Array TypeId}
    (hx : e.ev x = some (.slice a m c)) (hy : e.ev y = some (.slice a2 k c2)) (hats : ats = #[st, st2]) (hu : P.underlying st = some (.slice el)) (hu2 : P.underlying st2 = some (.slice el2)) (ht : TI P el sz by' z ag) (hz : z.cells.size = sz) (hby : 0 < by')
    (fc : Foc G (osl el sz a c m xs) put) (hr : SlR W0 G sz a2 k ys) (hone : ∀ v ∈ ys, one v = true) (hb : (2 * (m + k) + 768) * by' ≤ 2 ^ 48) :
    Eff P W0 (.call { callee := .builtin .append, args := #[x, y], argTypes := ats }) ty e G (fun _ : Option Addr × Nat => True) (fun p => .slice p.1 (m + k) p.2) (fun p => put (osl el sz p.1 p.2 (m + k) (xs ++ ys))) := fun ρ hρ w hw _ _ _ _ => by
  subst hats
  obtain ⟨R, hR⟩ := foc_ext fc
  have hs0 := SlR.of_osl (W0 := W0) hR w hw
  have hy0 := hr w hw
  have hevs : e.evs [x, y] = some [.slice a m c, .slice a2 k c2] := by simp only [Env.evs, hx, hy]
  have hb2 : m + k < 2 ^ 62 := by
    have : (2 * (m + k) + 768) * 1 ≤ (2 * (m + k) + 768) * by' := Nat.mul_le_mul_left _ hby
    omega
  by_cases hcap : m + k ≤ c
  · obtain ⟨f, hf, hA⟩ := Sat.ext hR hw
    obtain ⟨h1, h2, h3⟩ := hA
    rcases h3 with ⟨rfl, rfl, rfl⟩ | ⟨b, o, cs, fr, rfl, hbk, hfr, ho, htk⟩
    · -- a nil slice, and nothing to append
      have hm : m = 0 := by omega
      have hk : k = 0 := by omega
      subst hm hk
      have hys : ys = [] := List.length_eq_zero_iff.1 (by rw [hy0.1]; simp)
      subst hys
      refine ⟨(none, 0), w, trivial, ?_, .inl ?_⟩
      · simp only [List.append_nil]
        obtain ⟨R', e', hp⟩ := fc
        exact hw.imp (Imp.trans e'.1 (hp _))
      · refine run_built (s := Builtin.append_ #[st, st2] ty #[.slice none 0 0, .slice a2 0 c2]) hρ hevs (fun _ => rfl) ?_
        unfold Builtin.append_
        simp only [List.getElem?_toArray, List.getElem?_cons_zero, List.getElem?_cons_succ]
        show ((underlying st).bind _).run P w = _
        rw [run_bind_ok (run_underlying hu w)]
        simp only []
        show ((sizeOf el).bind _).run P w = _
        rw [run_bind_ok (ht.run_size w)]
        simp only [bind]
        rw [run_bind_ok (run_underlying hu2 w)]
        simp only []
        rw [run_bind_ok (show (Pure.pure false : Sem Bool).run P w = .ok false w from rfl)]
        simp only [Bool.false_eq_true, if_false]
        rw [run_bind_ok (show (Builtin.lenOf (.slice a2 0 c2)).run P w = .ok 0 w by rfl)]
        simp only [Bool.not_false, if_true]
        rw [if_pos hcap, run_bind_ok (run_firstCells hy0)]
        rfl
    · have hwb := hf _ _ hbk
      have hle : (m + k) * sz ≤ c * sz := Nat.mul_le_mul_right _ hcap
      have hle' := hle
      rw [Nat.add_mul] at hle'
      refine ⟨(some ⟨b, o, none⟩, c), setObjW w b (.cells (over cs (o + m * sz) ys).toArray el fr), trivial, ?_, .inl ?_⟩
      · refine Sat.write (b := b) (o := .cells cs.toArray el fr) fc hw hwb ?_
        intro f' hle' hf'
        obtain ⟨h1', _, h3'⟩ := hf'
        rcases h3' with ⟨h, _⟩ | ⟨b', o', cs', fr', hq, hbk', _, _, htk'⟩
        · cases h
        · cases hq
          have hsame : some (Obj.cells cs'.toArray el fr') = some (Obj.cells cs.toArray el fr) := (hle' _ _ hbk').symm.trans hwb
          have hcs : cs' = cs := by
            simp only [Option.some.injEq, Obj.cells.injEq] at hsame
            exact List.toArray_inj hsame.1
          have hfr' : fr' = fr := by
            simp only [Option.some.injEq, Obj.cells.injEq] at hsame
            exact hsame.2.2
          subst hcs hfr'
          have hl2 := hy0.1
          refine ⟨hbk', by simp [h1, hl2, Nat.add_mul], hcap, .inr ⟨b, o, over cs' (o + m * sz) ys, fr', rfl, by simp [updH], ?_, ?_, ?_⟩⟩
          · rw [over_length (by omega)]; exact hfr
          · rw [over_length (by omega)]; exact ho
          · have := osl_over htk' h1 (ys := ys) (by omega)
            rw [Nat.add_mul, ← hl2]; exact this
      · exact run_built (s := Builtin.append_ #[st, st2] ty #[.slice (some ⟨b, o, none⟩) m c, .slice a2 k c2]) hρ hevs (fun _ => rfl) (run_append_room hu hu2 ht hcap hy0 hwb hfr ho hone)
  · obtain ⟨nc, cs, h1, h2, h3, h4⟩ := run_append_grow (P := P) (ty := ty) (c := c) (c2 := c2) hu hu2 ht hz hcap hs0 hy0 hb hb2 hby
    refine ⟨(some ⟨w.heap.size, 0, none⟩, nc), _, trivial, ?_, .inl (run_built (s := Builtin.append_ #[st, st2] ty #[.slice a m c, .slice a2 k c2]) hρ hevs (fun _ => rfl) h4)⟩
    have hnew := Sat.draw (Sat.new hw (.cells cs.toArray el (0, 0))) (w.drawn + 1)
    obtain ⟨R', e', hp⟩ := fc
    refine (hnew.imp (Imp.trans (Imp.cons (Imp.trans e'.1 Imp.drop)) (Imp.trans (Imp.head (fun f hf => ?_)) (hp _))))
    refine ⟨by simp [hs0.1, hy0.1, Nat.add_mul], h1, .inr ⟨w.heap.size, 0, cs, (0, 0), rfl, hf, NoFr.zero _, by show 0 + nc * sz ≤ _; omega, by simpa using h3⟩⟩
/-- append onto an empty slice of one's own. -/
theorem Eff.append0 {x y : Operand} {st st2 el el2 : TypeId} {a2 : Option Addr} {k c2 by' : Nat} {z : Value} {ag : Bool} {ys : List Value} {put : HProp → List HProp} {ats : Array TypeId}
    (hx : e.ev x = some (.slice a 0 c)) (hy : e.ev y = some (.slice a2 k c2)) (hats : ats = #[st, st2]) (hu : P.underlying st = some (.slice el)) (hu2 : P.underlying st2 = some (.slice el2)) (ht : TI P el sz by' z ag) (hz : z.cells.size = sz) (hby : 0 < by')
    (fc : Foc G (osl el sz a c 0 []) put) (hr : SlR W0 G sz a2 k ys) (hone : ∀ v ∈ ys, one v = true) (hb : (2 * k + 768) * by' ≤ 2 ^ 48) :
    Eff P W0 (.call { callee := .builtin .append, args := #[x, y], argTypes := ats }) ty e G (fun _ : Option Addr × Nat => True) (fun p => .slice p.1 k p.2) (fun p => put (osl el sz p.1 p.2 k ys)) := by
  have := Eff.append (ty := ty) hx hy hats hu hu2 ht hz hby fc hr hone (by rw [Nat.zero_add]; exact hb)
  simpa only [Nat.zero_add, List.nil_append] using this
end
end Go.Sl
/- Slices that are made, copied, turned into strings. No program in sight. -/
namespace Go.Sl
open Go Go.RowKit

/-- A byte, as a cell; bytes, as cells. -/
def byteV (b : UInt8) : Value := .int .u8 b.toNat
def bytesV (bs : List UInt8) : List Value := bs.map byteV
theorem bytesV_length (bs : List UInt8) : (bytesV bs).length = bs.length := by simp [bytesV]
theorem bytesV_append (a b : List UInt8) : bytesV (a ++ b) = bytesV a ++ bytesV b := by simp [bytesV]
theorem bytesV_one {bs : List UInt8} : ∀ v ∈ bytesV bs, one v = true := by
  intro v hv; simp only [bytesV, List.mem_map] at hv; obtain ⟨b, _, rfl⟩ := hv; rfl
theorem bytesV_get {bs : List UInt8} {i : Nat} {b : UInt8} (h : bs[i]? = some b) : (bytesV bs)[i]? = some (byteV b) := by simp [bytesV, h]
theorem bytesV_take (bs : List UInt8) (k : Nat) : (bytesV bs).take k = bytesV (bs.take k) := by simp [bytesV]
theorem bytesV_drop (bs : List UInt8) (k : Nat) : (bytesV bs).drop k = bytesV (bs.drop k) := by simp [bytesV]
theorem bytesV_inj {a b : List UInt8} (h : bytesV a = bytesV b) : a = b := by
  induction a generalizing b with
  | nil => cases b with
    | nil => rfl
    | cons y b => simp [bytesV] at h
  | cons x a ih => cases b with
    | nil => simp [bytesV] at h
    | cons y b =>
      simp only [bytesV, List.map_cons, List.cons.injEq, byteV, Value.int.injEq, true_and] at h
      obtain ⟨h1, h2⟩ := h
      rw [ih h2, UInt8.toNat_inj.1 (by omega : x.toNat = y.toNat)]
/-- Bytes, as a string. -/
def strOf (bs : List UInt8) : ByteArray := ⟨bs.toArray⟩

section
variable {P : Program} {W0 : World} {e : Env} {G R : List HProp} {ty : TypeId} {E sz : Nat} {a : Option Addr} {c m : Nat} {xs : List Value}

def Env.evps (e : Env) : List (Nat × Operand) → Option (List (Nat × Value))
  | [] => some []
  | (i, x) :: l => match e.ev x, e.evps l with
    | some v, some vs => some ((i, v) :: vs)
    | _, _ => none
theorem Agrees.evps {ρ : Operand → Value} (h : Agrees e ρ) : ∀ {l : List (Nat × Operand)} {vs : List (Nat × Value)}, e.evps l = some vs → (l.map fun (i, x) => (i, ρ x)) = vs
  | [], vs, q => by simpa [Env.evps] using q
  | (i, x) :: l, vs, q => by
    simp only [Env.evps] at q
    split at q
    · rename_i v us h1 h2
      simp only [Option.some.injEq] at q
      subst q
      simp [h x v h1, h.evps h2]
    · cases q

theorem Sat.new_osl {w : World} {cs : List Value} {el : TypeId} (hw : Sat W0 G w) (hl : cs.length = m * sz) (k : Nat) :
    Sat W0 (osl el sz (some ⟨w.heap.size, 0, none⟩) m m cs :: G) { w with heap := w.heap.push (.cells cs.toArray el (0, 0)), drawn := k } := by
  refine (Sat.draw (Sat.new hw (.cells cs.toArray el (0, 0))) k).imp (Imp.head fun f hf => ?_)
  exact ⟨hl, Nat.le_refl _, .inr ⟨w.heap.size, 0, cs, (0, 0), rfl, hf, NoFr.zero _, by omega, by rw [List.drop_zero, ← hl, List.take_length]⟩⟩

/-- A slice literal. -/
theorem Eff.buildSlice {t el : TypeId} {len : Nat} {parts : List (Nat × Operand)} {pvs : List (Nat × Value)} {by' : Nat} {z : Value} {ag : Bool} {cells : List Value}
    (hu : P.underlying t = some (.slice el)) (ht : TI P el sz by' z ag) (hp : e.evps parts = some pvs) (hsz : len * sz ≤ 2 ^ 24)
    (hf : Instr.fill (fun i => some (i * sz, sz)) ((Array.range (len * sz)).map ((if len * sz = 0 then #[] else z.cells)[· % (if len * sz = 0 then #[] else z.cells).size]!)) pvs = some cells.toArray) (hl : cells.length = len * sz) :
    Eff P W0 (.buildSlice t len parts.toArray) ty e G (fun _ : Nat => True) (fun b => .slice (some ⟨b, 0, none⟩) len len) (fun b => osl el sz (some ⟨b, 0, none⟩) len len cells :: G) := fun ρ hρ w hw _ _ _ _ => by
  have h1 : (Instr.buildSlice t len (parts.toArray.map fun (i, x) => (i, ρ x))).run P w = .ok (.slice (some ⟨w.heap.size, 0, none⟩) len len) { w with heap := w.heap.push (.cells cells.toArray el (0, 0)) } := by
    unfold Instr.buildSlice
    have hq : (parts.toArray.map fun (i, x) => (i, ρ x)) = pvs.toArray := by
      rw [List.map_toArray, hρ.evps hp]
    rw [hq]
    show ((underlying t).bind _).run P w = _
    rw [run_bind_ok (run_underlying hu w)]
    simp only []
    show ((sizeOf el).bind _).run P w = _
    rw [run_bind_ok (ht.run_size w)]
    simp only [bind]
    rw [if_neg (by omega)]
    have hz : ((if len * sz = 0 then Pure.pure #[] else (zeroValue el).bind fun v => Pure.pure v.cells : Sem (Array Value))).run P w = .ok (if len * sz = 0 then #[] else z.cells) w := by
      split
      · rfl
      · rw [run_bind_ok (ht.run_zero w)]; rfl
    have hz' : ∀ (f : Array Value → Sem Value), (if len * sz = 0 then (Pure.pure #[] : Sem (Array Value)).bind f else (zeroValue el).bind fun v => (Pure.pure v.cells : Sem (Array Value)).bind f).run P w = (f (if len * sz = 0 then #[] else z.cells)).run P w := by
      intro f
      split
      · rfl
      · rw [run_bind_ok (ht.run_zero w)]; rfl
    first
      | rw [hz']
      | rw [run_bind_ok hz]
    rw [hf]
    simp only [newRow, newObj, bind, Sem.bind, pure, Sem.run]
  refine ⟨w.heap.size, _, trivial, Sat.new_osl hw hl w.drawn, .inl ?_⟩
  show ((Instr.buildSlice t len (parts.toArray.map fun (i, x) => (i, ρ x))).bind _).run P w = _
  rw [run_bind_ok h1]; rfl

/-- make([]T, n). -/
theorem Eff.makeSlice {t el : TypeId} {x : Operand} {n : Int} {by' : Nat} {z : Value} {ag : Bool}
    (hu : P.underlying t = some (.slice el)) (ht : TI P el sz by' z ag) (hz : z.cells.size = sz) (hsz : 0 < sz) (hx : e.ev x = some (.int .i64 n)) (h0 : 0 ≤ n) (hb : by' * n ≤ 2 ^ 48) (hn : n ≤ 9223372036854775807) :
    Eff P W0 (.makeSlice t x x) ty e G (fun _ : Nat => True) (fun b => .slice (some ⟨b, 0, none⟩) n.toNat n.toNat) (fun b => osl el sz (some ⟨b, 0, none⟩) n.toNat n.toNat ((List.replicate n.toNat z.cells.toList).flatten) :: G) := fun ρ hρ w hw _ _ _ _ => by
  have hcells : ∀ (q : Nat), ((Array.range (q * sz)).map (z.cells[· % z.cells.size]!)) = ((List.replicate q z.cells.toList).flatten).toArray := by
    intro q
    apply Array.ext'
    simp only [Array.toList_map, Array.toList_range]
    induction q with
    | zero => simp
    | succ q ih =>
      rw [List.replicate_succ', List.flatten_append, ← ih, Nat.succ_mul, List.range_add, List.map_append]
      congr 1
      simp only [List.map_map, List.flatten_cons, List.flatten_nil, List.append_nil]
      apply List.ext_getElem
      · simp [hz]
      · intro i h1 h2
        simp only [List.length_map, List.length_range] at h1
        simp only [List.getElem_map, List.getElem_range, Function.comp, hz, Array.getElem_toList]
        have : (q * sz + i) % sz = i := by rw [Nat.mul_comm, Nat.mul_add_mod]; exact Nat.mod_eq_of_lt h1
        rw [this, getElem!_pos z.cells i (by rw [hz]; exact h1)]
  have h1 : (Instr.makeSlice t (.int .i64 n) (.int .i64 n)).run P w = .ok (.slice (some ⟨w.heap.size, 0, none⟩) n.toNat n.toNat) { w with heap := w.heap.push (.cells ((List.replicate n.toNat z.cells.toList).flatten).toArray el (0, 0)) } := by
    unfold Instr.makeSlice
    show ((underlying t).bind _).run P w = _
    rw [run_bind_ok (run_underlying hu w)]
    simp only [asInt, asIntOf, bind, pure, Sem.bind]
    obtain ⟨i, hi, hi1, hi2, hi3⟩ := ht.run_info w
    rw [run_bind_ok hi]
    have hw64 : IntKind.i64.wrap n = n := w64 (by omega) hn
    simp only [hw64, hi2]
    rw [if_neg (by simp; omega)]
    rw [run_bind_ok (show (askRoom (n.toNat * by')).run P w = .ok () w by unfold askRoom; split <;> simp [mark, pure, Sem.run])]
    rw [run_bind_ok (ht.run_size w)]
    by_cases hq : n.toNat * sz = 0
    · have hn0 : n.toNat = 0 := by
        rcases Nat.mul_eq_zero.1 hq with h | h
        · exact h
        · omega
      rw [if_pos hq]
      have hr0 : Array.range 0 = #[] := rfl
      simp [hn0, hr0, newRow, newObj, bind, Sem.bind, pure, Sem.run]
    · rw [if_neg hq, run_bind_ok (ht.run_zero w)]
      simp only [newRow, newObj, bind, Sem.bind, pure, Sem.run, hcells]
  refine ⟨w.heap.size, _, trivial, Sat.new_osl hw ?_ w.drawn, .inl ?_⟩
  · simp [hz]
  · show ((Instr.makeSlice t (ρ x) (ρ x)).bind _).run P w = _
    rw [hρ x _ hx, run_bind_ok h1]; rfl

/-- copy into a slice of one's own. -/
theorem Eff.copy {x y : Operand} {st st2 el : TypeId} {a2 : Option Addr} {k c2 by' : Nat} {z : Value} {ag : Bool} {ys : List Value} {put : HProp → List HProp} {ats : Array TypeId}
    (hx : e.ev x = some (.slice a m c)) (hy : e.ev y = some (.slice a2 k c2)) (hats : ats = #[st, st2]) (hu : P.underlying st = some (.slice el)) (ht : TI P el sz by' z ag)
    (fc : Foc G (osl el sz a c m xs) put) (hr : SlR W0 G sz a2 k ys) (hone : ∀ v ∈ ys, one v = true) :
    Eff P W0 (.call { callee := .builtin .copy, args := #[x, y], argTypes := ats }) ty e G (fun _ : Unit => True) (fun _ => .int .i64 (min k m : Nat)) (fun _ => put (osl el sz a c m (over xs 0 (ys.take (min k m * sz))))) := fun ρ hρ w hw _ _ _ _ => by
  subst hats
  obtain ⟨R, hR⟩ := foc_ext fc
  have hy0 := hr w hw
  have hevs : e.evs [x, y] = some [.slice a m c, .slice a2 k c2] := by simp only [Env.evs, hx, hy]
  obtain ⟨f, hf, hA⟩ := Sat.ext hR hw
  obtain ⟨h1, h2, h3⟩ := hA
  have hpre : ∀ (w' : World) , (match a with | some ad => (storeCells ad (ys.take (min k m * sz))).run P w = .ok () w' | none => w' = w) →
      (Builtin.copy_ #[st, st2] ty #[.slice a m c, .slice a2 k c2]).run P w = .ok (.int .i64 (min k m : Nat)) w' := by
    intro w' hst
    unfold Builtin.copy_
    simp only [List.getElem?_toArray, List.getElem?_cons_zero, List.getElem?_cons_succ]
    show ((underlying st).bind _).run P w = _
    rw [run_bind_ok (run_underlying hu w)]
    simp only [bind]
    rw [run_bind_ok (show (Builtin.lenOf (.slice a2 k c2)).run P w = .ok k w by rfl)]
    rw [run_bind_ok (ht.run_size w)]
    rw [run_bind_ok (run_firstCells_le hy0 (Nat.min_le_left k m))]
    cases a with
    | none => simp only at hst; subst hst; rfl
    | some ad => simp only at hst; simp only []; rw [run_bind_ok hst]; rfl
  have hlen : (ys.take (min k m * sz)).length = min k m * sz := by
    rw [List.length_take, hy0.1]
    exact Nat.min_eq_left (Nat.mul_le_mul_right _ (Nat.min_le_left k m))
  have hle : min k m * sz ≤ m * sz := Nat.mul_le_mul_right _ (Nat.min_le_right k m)
  have hcm : m * sz ≤ c * sz := Nat.mul_le_mul_right _ h2
  rcases h3 with ⟨rfl, rfl, rfl⟩ | ⟨b, o, cs, fr, rfl, hbk, hfr, ho, htk⟩
  · have hm : m = 0 := by omega
    subst hm
    refine ⟨(), w, trivial, ?_, .inl (run_built (s := Builtin.copy_ #[st, st2] ty #[.slice none 0 0, .slice a2 k c2]) hρ hevs (fun _ => rfl) (hpre w rfl))⟩
    have : over [] 0 (ys.take (min k 0 * sz)) = [] := by simp [over]
    rw [this]
    obtain ⟨R', e', hp⟩ := fc
    exact hw.imp (Imp.trans e'.1 (hp _))
  · have hwb := hf _ _ hbk
    refine ⟨(), setObjW w b (.cells (over cs o (ys.take (min k m * sz))).toArray el fr), trivial, ?_, .inl (run_built (s := Builtin.copy_ #[st, st2] ty #[.slice (some ⟨b, o, none⟩) m c, .slice a2 k c2]) hρ hevs (fun _ => rfl) (hpre _ ?_))⟩
    · refine Sat.write (b := b) (o := .cells cs.toArray el fr) fc hw hwb ?_
      intro f' hle' hf'
      obtain ⟨h1', _, h3'⟩ := hf'
      rcases h3' with ⟨h, _⟩ | ⟨b', o', cs', fr', hq, hbk', _, _, htk'⟩
      · cases h
      · cases hq
        have hsame : some (Obj.cells cs'.toArray el fr') = some (Obj.cells cs.toArray el fr) := (hle' _ _ hbk').symm.trans hwb
        simp only [Option.some.injEq, Obj.cells.injEq] at hsame
        obtain ⟨q1, _, q3⟩ := hsame
        have q1 := List.toArray_inj q1
        subst q1 q3
        have hol : (over cs' o (ys.take (min k m * sz))).length = cs'.length := over_length (by omega)
        refine ⟨hbk', ?_, h2, .inr ⟨b, o, over cs' o (ys.take (min k m * sz)), fr', rfl, by simp [updH], by rw [hol]; exact hfr, by rw [hol]; exact ho, ?_⟩⟩
        · rw [over_length (by omega)]; exact h1
        · subst htk
          unfold over
          have e1 : o - (List.take o cs').length = 0 := by simp; omega
          simp only [List.append_assoc, List.drop_append, e1, List.drop_zero, List.take_zero, List.nil_append, Nat.zero_add]
          rw [List.drop_eq_nil_of_le (by simp; omega : (List.take o cs').length ≤ o)]
          simp only [List.nil_append]
          generalize hY : ys.take (min k m * sz) = Y at *
          rw [List.take_append, List.take_of_length_le (by omega : Y.length ≤ m * sz)]
          congr 1
          rw [List.drop_take, List.drop_drop, Nat.zero_sub, Nat.add_zero]
          try rw [List.drop_drop]
    · have := run_storeCells (P := P) (b := b) (o := o) (t := el) (ys.take (min k m * sz)) 0 w cs hwb hfr (by omega) (fun v hv => hone v (List.mem_of_mem_take hv))
      simpa using this

/-- string(b) of bytes. -/
theorem run_toStr {w : World} {cc : Nat} {bs : List UInt8} (h : SlAt w 1 a m (bytesV bs)) : (Conv.bytesToString (.slice a m cc)).run P w = .ok (.string (strOf bs)) w := by
  obtain ⟨h1, h2⟩ := h
  rw [bytesV_length] at h1
  have loop : ∀ (l : List UInt8) (acc : ByteArray), (forIn (m := Sem) (bytesV l) acc (fun c s => match c with
      | .int .u8 n => pure (ForInStep.yield (s.push (UInt8.ofNat n.toNat)))
      | _ => (stuck "bytesToString: byte expected").bind fun (_ : PUnit) => pure (ForInStep.yield s))).run P w = .ok ⟨acc.data ++ l.toArray⟩ w := by
    intro l
    induction l with
    | nil => intro acc; simp [bytesV, pure, Sem.run]
    | cons b l ih =>
      intro acc
      simp only [bytesV, List.map_cons, List.forIn_cons, byteV]
      simp only [bind, pure, Sem.bind]
      have := ih (acc.push b)
      simp only [bytesV, byteV, pure] at this
      have hb : UInt8.ofNat ((b.toNat : Int)).toNat = b := by simp
      rw [hb]
      rw [this]
      simp [ByteArray.push]
  unfold Conv.bytesToString
  cases a with
  | none =>
    rcases h2 with h2 | ⟨_, _, h2, _⟩
    · have : bs = [] := bytesV_inj (by simpa [bytesV] using h2)
      subst this; simp [strOf, pure, Sem.run]; rfl
    · cases h2
  | some ad =>
    have hcells : (loadCells ad m).run P w = .ok (bytesV bs).toArray w := by
      rcases h2 with h2 | ⟨b, o, h2, h3⟩
      · have hb0 : bs = [] := bytesV_inj (by simpa [bytesV] using h2)
        subst hb0
        have : m = 0 := by simpa using h1.symm
        subst this
        simp [loadCells, loadCellsFrom, pure, Sem.run, bytesV]
      · cases h2; exact run_loadCells (by rw [bytesV_length]; omega) h3
    simp only [bind]
    rw [run_bind_ok hcells]
    have := loop bs ByteArray.empty
    simp only [List.forIn_toArray]
    refine (run_bind_ok (f := fun s => Sem.pure (Value.string s)) (w' := w) (a := ⟨ByteArray.empty.data ++ bs.toArray⟩) ?_).trans ?_
    · exact this
    · simp [strOf, Sem.run]
theorem Yield.toStr {x : Operand} {src dst : TypeId} {el : TypeId} {cc : Nat} {bs : List UInt8} (hs : P.underlying src = some (.slice el)) (hd : P.underlying dst = some .string) (hel : P.underlying el = some (.int .u8))
    (hx : e.ev x = some (.slice a m cc)) (hr : SlR W0 G 1 a m (bytesV bs)) : Yield P W0 (.convert src dst x) ty e G (.string (strOf bs)) := fun ρ hρ w hw _ _ _ _ => by
  have h1 : (convert src dst (.slice a m cc)).run P w = .ok (.string (strOf bs)) w := by
    unfold convert
    show ((underlying src).bind _).run P w = _
    rw [run_bind_ok (run_underlying hs w)]
    show ((underlying dst).bind _).run P w = _
    rw [run_bind_ok (run_underlying hd w)]
    simp only []
    show ((underlying el).bind _).run P w = _
    rw [run_bind_ok (run_underlying hel w)]
    exact run_toStr (hr w hw)
  show ((convert src dst (ρ x)).bind _).run P w = _
  rw [hρ x _ hx, run_bind_ok h1]; rfl
theorem Yield.str_eql {t t' : TypeId} {x y : Operand} {s u : ByteArray} (hx : e.ev x = some (.string s)) (hy : e.ev y = some (.string u)) : Yield P W0 (.binOp .eql t x y t') ty e G (.bool (s.toList == u.toList)) := fun ρ hρ w _ _ _ _ _ => by
  simp [execOp, hρ x _ hx, hρ y _ hy, eqGuard, binOp, Op.stringOp, bind, Sem.bind, pure, Sem.run]
theorem Yield.str_neq {t t' : TypeId} {x y : Operand} {s u : ByteArray} (hx : e.ev x = some (.string s)) (hy : e.ev y = some (.string u)) : Yield P W0 (.binOp .neq t x y t') ty e G (.bool (!(s.toList == u.toList))) := fun ρ hρ w _ _ _ _ _ => by
  simp [execOp, hρ x _ hx, hρ y _ hy, eqGuard, binOp, Op.stringOp, bind, Sem.bind, pure, Sem.run]
theorem Yield.str_same {t t' : TypeId} {x y : Operand} {s : ByteArray} (hx : e.ev x = some (.string s)) (hy : e.ev y = some (.string s)) : Yield P W0 (.binOp .eql t x y t') ty e G (.bool true) := by
  have := Yield.str_eql (P := P) (W0 := W0) (G := G) (ty := ty) (t := t) (t' := t') hx hy
  simpa using this
theorem Yield.str_samen {t t' : TypeId} {x y : Operand} {s : ByteArray} (hx : e.ev x = some (.string s)) (hy : e.ev y = some (.string s)) : Yield P W0 (.binOp .neq t x y t') ty e G (.bool false) := by
  have := Yield.str_neq (P := P) (W0 := W0) (G := G) (ty := ty) (t := t) (t' := t') hx hy
  simpa using this
theorem Yield.str_add {t t' : TypeId} {x y : Operand} {s u : ByteArray} (hx : e.ev x = some (.string s)) (hy : e.ev y = some (.string u)) (hb : s.size + u.size ≤ 2 ^ 62) : Yield P W0 (.binOp .add t x y t') ty e G (.string (s ++ u)) := fun ρ hρ w _ _ _ _ _ => by
  have hb' : ¬ ((9223372036854775807 : Int) < (s.size : Int) + (u.size : Int)) := by omega
  simp [hb', execOp, hρ x _ hx, hρ y _ hy, eqGuard, binOp, Op.stringOp, bind, Sem.bind, pure, Sem.run]
theorem strOf_append (a b : List UInt8) : strOf a ++ strOf b = strOf (a ++ b) := by
  apply ByteArray.ext; simp [strOf]
theorem Yield.str_cat {t t' : TypeId} {x y : Operand} {a b : List UInt8} (hx : e.ev x = some (.string (strOf a))) (hy : e.ev y = some (.string (strOf b))) (hb : a.length + b.length ≤ 2 ^ 62) : Yield P W0 (.binOp .add t x y t') ty e G (.string (strOf (a ++ b))) := by
  have := Yield.str_add (P := P) (W0 := W0) (G := G) (ty := ty) (t := t) (t' := t') hx hy (by simpa [strOf, ByteArray.size] using hb)
  rwa [strOf_append] at this

/-! ### bytes: slices whose cells are bytes -/
/-- Bytes that may be read: in every world that bears G the slice reads as bs. -/
def RdB (W0 : World) (G : List HProp) (a : Option Addr) (c : Nat) (bs : List UInt8) : Prop := ∀ w, Sat W0 G w → SlAt w 1 a bs.length (bytesV bs) ∧ bs.length ≤ c
theorem RdB.slR {bs : List UInt8} (h : RdB W0 G a c bs) : SlR W0 G 1 a bs.length (bytesV bs) := fun w hw => (h w hw).1
theorem RdB.cap {bs : List UInt8} (h : RdB W0 G a c bs) (w : World) (hw : Sat W0 G w) : bs.length ≤ c := (h w hw).2
theorem RdB.imp {G' : List HProp} {bs : List UInt8} (h : RdB W0 G' a c bs) (hi : Imp G G') : RdB W0 G a c bs := fun w hw => h w (hw.imp hi)
theorem RdB.of_osl {bs : List UInt8} (x : Ext G (osl E 1 a c m xs) R) (h1 : m = bs.length) (h2 : xs = bytesV bs) : RdB W0 G a c bs := fun w hw => by
  subst h1 h2; exact ⟨SlR.of_osl x w hw, (osl_facts x w hw).2⟩
theorem RdB.of_slR {bs : List UInt8} (h : SlR W0 G 1 a bs.length (bytesV bs)) (hc : bs.length ≤ c) : RdB W0 G a c bs := fun w hw => ⟨h w hw, hc⟩
/-- A slice of bytes of one's own. -/
abbrev oby (E : Nat) (a : Option Addr) (c : Nat) (bs : List UInt8) : HProp := osl E 1 a c bs.length (bytesV bs)
theorem Eff.appendB {x y : Operand} {st st2 el el2 : TypeId} {a2 : Option Addr} {c2 : Nat} {z : Value} {ag : Bool} {bs ys : List UInt8} {put : HProp → List HProp} {ats : Array TypeId}
    (hx : e.ev x = some (.slice a bs.length c)) (hy : e.ev y = some (.slice a2 ys.length c2)) (hats : ats = #[st, st2]) (hu : P.underlying st = some (.slice el)) (hu2 : P.underlying st2 = some (.slice el2)) (ht : TI P el 1 1 z ag) (hz : z.cells.size = 1)
    (fc : Foc G (oby el a c bs) put) (hr : SlR W0 G 1 a2 ys.length (bytesV ys)) (hb : bs.length + ys.length ≤ 2 ^ 47 - 500) :
    Eff P W0 (.call { callee := .builtin .append, args := #[x, y], argTypes := ats }) ty e G (fun _ : Option Addr × Nat => True) (fun p => .slice p.1 (bs ++ ys).length p.2) (fun p => put (oby el p.1 p.2 (bs ++ ys))) := by
  have := Eff.append (ty := ty) hx hy hats hu hu2 ht hz (by decide) fc hr bytesV_one (by omega)
  simpa only [oby, List.length_append, bytesV_append] using this
theorem Eff.appendB0 {x y : Operand} {st st2 el el2 : TypeId} {a2 : Option Addr} {c2 : Nat} {z : Value} {ag : Bool} {ys : List UInt8} {put : HProp → List HProp} {ats : Array TypeId}
    (hx : e.ev x = some (.slice a 0 c)) (hy : e.ev y = some (.slice a2 ys.length c2)) (hats : ats = #[st, st2]) (hu : P.underlying st = some (.slice el)) (hu2 : P.underlying st2 = some (.slice el2)) (ht : TI P el 1 1 z ag) (hz : z.cells.size = 1)
    (fc : Foc G (osl el 1 a c 0 []) put) (hr : SlR W0 G 1 a2 ys.length (bytesV ys)) (hb : ys.length ≤ 2 ^ 47 - 500) :
    Eff P W0 (.call { callee := .builtin .append, args := #[x, y], argTypes := ats }) ty e G (fun _ : Option Addr × Nat => True) (fun p => .slice p.1 ys.length p.2) (fun p => put (oby el p.1 p.2 ys)) :=
  Eff.append0 (ty := ty) hx hy hats hu hu2 ht hz (by decide) fc hr bytesV_one (by omega)
/-- An element of a slice of records. -/
theorem flat_get {α : Type} {f : α → List Value} {sz : Nat} (hf : ∀ x, (f x).length = sz) : ∀ {xs : List α} {i : Nat} {x : α}, xs[i]? = some x → (((xs.map f).flatten).drop (i * sz)).take sz = f x
  | [], _, _, h => by simp at h
  | y :: xs, 0, x, h => by
    simp only [List.getElem?_cons_zero, Option.some.injEq] at h
    subst h
    simp only [List.map_cons, List.flatten_cons, Nat.zero_mul, List.drop_zero]
    rw [List.take_append_of_le_length (by rw [hf]; omega), List.take_of_length_le (by rw [hf]; omega)]
  | y :: xs, i + 1, x, h => by
    have ih := flat_get hf (xs := xs) (i := i) (x := x) (by simpa using h)
    simp only [List.map_cons, List.flatten_cons]
    have e1 : (i + 1) * sz - (f y).length = i * sz := by rw [hf, Nat.succ_mul]; omega
    rw [List.drop_append, List.drop_eq_nil_of_le (by rw [hf, Nat.succ_mul]; omega), List.nil_append, e1]
    exact ih
theorem flat_len {α : Type} {f : α → List Value} {sz : Nat} (hf : ∀ x, (f x).length = sz) (xs : List α) : ((xs.map f).flatten).length = xs.length * sz := by
  induction xs with
  | nil => simp
  | cons x xs ih => simp only [List.map_cons, List.flatten_cons, List.length_append, hf, ih, List.length_cons, Nat.succ_mul]; omega
theorem SlR.elem {α : Type} {f : α → List Value} {xs : List α} {b o i : Nat} {x : α} (s : SlR W0 G sz (some ⟨b, o, none⟩) m ((xs.map f).flatten)) (hf : ∀ x, (f x).length = sz) (hi : xs[i]? = some x) : Row W0 G b (o + i * sz) (f x) :=
  s.row (i * sz) sz (flat_get hf hi)
theorem SlR.elem_shape {α : Type} {f : α → List Value} {xs : List α} {i : Nat} (s : SlR W0 G sz a m ((xs.map f).flatten)) (hf : ∀ x, (f x).length = sz) (h0 : 0 < sz) (hi : i < xs.length) (w : World) (hw : Sat W0 G w) : ∃ b o, a = some ⟨b, o, none⟩ := by
  refine s.shape (fun q => ?_) w hw
  have := flat_len hf xs
  rw [q] at this
  have h1 : 1 * 1 ≤ xs.length * sz := Nat.mul_le_mul (by omega) h0
  simp at this h1; omega
theorem osl_nil : Imp G (osl E sz none 0 0 [] :: G) := fun h s => by
  refine ⟨fun _ => none, ?_, ⟨by simp, Nat.le_refl _, .inl ⟨rfl, rfl, rfl⟩⟩, s.mono fun k o q => minus_some.2 ⟨rfl, q⟩⟩
  intro k o q; cases q
theorem oby_nil : Imp G (oby E none 0 [] :: G) := osl_nil

theorem strOf_toList (bs : List UInt8) : (strOf bs).toList = bs := by
  simp [strOf]

/-! ### what an assertion hides is laid open -/
theorem Ctr.ex {f : FuncId} {args : List Value} {α : Type} {φ : α → Prop} {v : α → Value} {G' : α → List HProp} {A : HProp} {ι : Type} {ψ : ι → Prop} {B : ι → HProp} (x : Ext G A R) (h : ∀ y, A y → ∃ i, ψ i ∧ B i y)
    (k : ∀ i, ψ i → Ctr P W0 f args (B i :: R) φ v G') : Ctr P W0 f args G φ v G' := fun w hw => by
  obtain ⟨g, hg, hA, hs⟩ := x.1 _ hw.2
  obtain ⟨i, hi, hB⟩ := h g hA
  exact k i hi w ⟨hw.1, g, hg, hB, hs⟩
theorem OG.ex {n : Nat} {ds : List Deferred} {ops : Array Oper} {Q : Exit → Act → World → Prop} {l : List Oper} {A : HProp} {ι : Type} {ψ : ι → Prop} {B : ι → HProp} (x : Ext G A R) (h : ∀ y, A y → ∃ i, ψ i ∧ B i y)
    (k : ∀ i, ψ i → OG P W0 n ds ops Q l e (B i :: R)) : OG P W0 n ds ops Q l e G := fun a w ha hw => by
  obtain ⟨g, hg, hA, hs⟩ := x.1 _ hw.2
  obtain ⟨i, hi, hB⟩ := h g hA
  exact k i hi a w ha ⟨hw.1, g, hg, hB, hs⟩
theorem CG.ex {r : Option Nat} {n : Nat} {ds : List Deferred} {Q : Exit → Act → World → Prop} {cd : Code} {A : HProp} {ι : Type} {ψ : ι → Prop} {B : ι → HProp} (x : Ext G A R) (h : ∀ y, A y → ∃ i, ψ i ∧ B i y)
    (k : ∀ i, ψ i → CG r P W0 n ds cd Q e (B i :: R)) : CG r P W0 n ds cd Q e G := fun a w ha hw => by
  obtain ⟨g, hg, hA, hs⟩ := x.1 _ hw.2
  obtain ⟨i, hi, hB⟩ := h g hA
  exact k i hi a w ha ⟨hw.1, g, hg, hB, hs⟩

/-- A piece of a slice of one's own is one's own. -/
theorem osl_cut {l h : Nat} {ys : List Value} (hlh : l ≤ h) (hh : h ≤ c) (hm : h ≤ m) (hy : (xs.drop (l * sz)).take ((h - l) * sz) = ys) (x : Heaplet) (o : osl E sz a c m xs x) : osl E sz (a.map fun a => cutAt a l c sz) (c - l) (h - l) ys x := by
  obtain ⟨h1, h2, h3⟩ := o
  have hle : h * sz ≤ m * sz := Nat.mul_le_mul_right _ hm
  refine ⟨by subst hy; simp only [List.length_take, List.length_drop, h1, Nat.sub_mul]; omega, by omega, ?_⟩
  rcases h3 with ⟨rfl, rfl, rfl⟩ | ⟨b, o, cs, fr, rfl, hb, hf, ho, ht⟩
  · exact .inl ⟨rfl, by omega, by simpa using hy.symm⟩
  · have hlc : l * sz ≤ c * sz := Nat.mul_le_mul_right _ (by omega)
    have hmc : m * sz ≤ c * sz := Nat.mul_le_mul_right _ h2
    have hll : l * sz ≤ h * sz := Nat.mul_le_mul_right _ hlh
    by_cases hq : c = l
    · have e1 : h - l = 0 := by omega
      refine .inr ⟨b, o, cs, fr, by simp [cutAt, hq], hb, hf, by rw [hq]; simp; omega, ?_⟩
      rw [e1] at hy ⊢; simpa using hy
    · refine .inr ⟨b, o + l * sz, cs, fr, by simp [cutAt, hq, add_at], hb, hf, by rw [Nat.sub_mul]; omega, ?_⟩
      subst ht hy
      rw [List.drop_take, List.take_take, List.drop_drop, Nat.sub_mul, Nat.min_eq_left (by omega)]

theorem osl_take {h : Nat} (hm : h ≤ m) (x : Heaplet) (o : osl E sz a c m xs x) : osl E sz a c h (xs.take (h * sz)) x := by
  have h2 := o.2.1
  have := osl_cut (l := 0) (h := h) (ys := xs.take (h * sz)) (Nat.zero_le _) (by omega) hm (by simp) x o
  have e1 : (a.map fun a => cutAt a 0 c sz) = a := by
    cases a with
    | none => rfl
    | some a => simp [cutAt, Addr.add]
  rw [e1] at this
  simpa using this
theorem SlR.take {h : Nat} {ys : List Value} (s : SlR W0 G sz a m xs) (hh : h ≤ m) (hy : xs.take (h * sz) = ys) : SlR W0 G sz a h ys := fun w hw => by
  obtain ⟨h1, h2⟩ := s w hw
  have hle : h * sz ≤ m * sz := Nat.mul_le_mul_right _ hh
  subst hy
  refine ⟨by rw [List.length_take, h1]; omega, ?_⟩
  rcases h2 with h2 | ⟨b, o, rfl, h2⟩
  · subst h2; simp
  · exact .inr ⟨b, o, rfl, fun i v hi => h2 i v (by rw [List.getElem?_take] at hi; split at hi; exact hi; cases hi)⟩

theorem SlR.takeB {bs : List UInt8} (s : SlR W0 G 1 a bs.length (bytesV bs)) (k : Nat) : SlR W0 G 1 a (bs.take k).length (bytesV (bs.take k)) :=
  s.take (by simp; omega) (by rw [bytesV_take]; congr 1; rw [Nat.mul_one, List.length_take, List.take_eq_take_iff]; omega)
theorem SlR.dropB {bs : List UInt8} (s : SlR W0 G 1 a bs.length (bytesV bs)) {k cc : Nat} (hc : bs.length ≤ cc) (hk : k ≤ bs.length) : SlR W0 G 1 (a.map fun a => cutAt a k cc 1) (bs.drop k).length (bytesV (bs.drop k)) := by
  have := s.cut (l := k) (h := bs.length) (ys := bytesV (bs.drop k)) hk (Nat.le_refl _) hc (by rw [Nat.mul_one, Nat.mul_one, bytesV_drop, List.take_of_length_le (by simp [bytesV])])
  rw [List.length_drop]; exact this
theorem SlR.midB {bs : List UInt8} (s : SlR W0 G 1 a bs.length (bytesV bs)) {l k cc : Nat} (hc : bs.length ≤ cc) (hk : l + k ≤ bs.length) : SlR W0 G 1 (a.map fun a => cutAt a l cc 1) ((bs.drop l).take k).length (bytesV ((bs.drop l).take k)) := by
  have := s.cut (l := l) (h := l + k) (ys := bytesV ((bs.drop l).take k)) (by omega) hk hc (by rw [Nat.mul_one, Nat.mul_one, bytesV_drop, bytesV_take]; congr 2; omega)
  rw [show ((bs.drop l).take k).length = l + k - l by simp; omega]; exact this
/-! ### slice literals, element by element -/
def zipI : Nat → List Operand → List (Nat × Operand)
  | _, [] => []
  | i, x :: l => (i, x) :: zipI (i + 1) l
def zipV : Nat → List Value → List (Nat × Value)
  | _, [] => []
  | i, x :: l => (i, x) :: zipV (i + 1) l
theorem evps_zip : ∀ {xs : List Operand} {vs : List Value} (i : Nat), e.evs xs = some vs → e.evps (zipI i xs) = some (zipV i vs)
  | [], vs, i, h => by simp [Env.evs] at h; subst h; rfl
  | x :: xs, vs, i, h => by
    simp only [Env.evs] at h
    split at h
    · rename_i v us h1 h2
      simp only [Option.some.injEq] at h
      subst h
      simp only [zipI, Env.evps, h1, evps_zip (i + 1) h2, zipV]
    · cases h
theorem fold_over (off : Nat) : ∀ (vs : List Value) (j : Nat) (cs : List Value), off + j + vs.length ≤ cs.length →
    ((vs.zipIdx j).foldl (fun (a : Array Value) (p : Value × Nat) => a.setIfInBounds (off + p.2) p.1) cs.toArray) = (over cs (off + j) vs).toArray
  | [], j, cs, _ => by simp [over_nil]
  | v :: vs, j, cs, h => by
    simp only [List.length_cons] at h
    simp only [List.zipIdx_cons, List.foldl_cons, List.setIfInBounds_toArray]
    rw [fold_over off vs (j + 1) (cs.set (off + j) v) (by simp; omega), ← Nat.add_assoc, over_cons (by simp; omega)]
theorem fill_row (sz : Nat) : ∀ (vs : List Value) (i : Nat) (acc : List Value), acc.length = (i + vs.length) * sz → (∀ v ∈ vs, v.cells.size = sz) →
    Instr.fill (fun i => some (i * sz, sz)) acc.toArray (zipV i vs) = some (acc.take (i * sz) ++ (vs.map fun v => v.cells.toList).flatten).toArray
  | [], i, acc, h, _ => by
    simp only [zipV, Instr.fill, List.map_nil, List.flatten_nil, List.append_nil]
    rw [List.take_of_length_le (by simp at h; omega)]
  | v :: vs, i, acc, h, hv => by
    have hs : v.cells.size = sz := hv v (by simp)
    simp only [List.length_cons] at h
    have hle : i * sz + sz ≤ acc.length := by
      rw [h, ← Nat.succ_mul]; exact Nat.mul_le_mul_right _ (by omega)
    simp only [zipV, Instr.fill, hs]
    rw [if_neg (by simp; omega)]
    have hfold : (v.cells.zipIdx.foldl (fun (cs : Array Value) (x : Value × Nat) => match x with | (c, j) => cs.setIfInBounds (i * sz + j) c) acc.toArray) = (over acc (i * sz) v.cells.toList).toArray := by
      have := fold_over (i * sz) v.cells.toList 0 acc (by simp [hs]; omega)
      rw [Nat.add_zero] at this
      rw [← this, ← Array.foldl_toList]
      simp only [Array.toList_zipIdx]
    rw [hfold, fill_row sz vs (i + 1) _ (by rw [over_length (by simp [hs]; omega), h]; congr 1; omega) (fun u hu => hv u (by simp [hu]))]
    congr 2
    simp only [List.map_cons, List.flatten_cons]
    rw [← List.append_assoc]
    congr 1
    unfold over
    have e1 : (acc.take (i * sz)).length = i * sz := by simp; omega
    have e2 : (i + 1) * sz = i * sz + sz := Nat.succ_mul i sz
    rw [List.append_assoc, List.take_append, List.take_of_length_le (by rw [e1, e2]; omega), e1, e2, Nat.add_sub_cancel_left, List.take_append]
    have e3 : v.cells.toList.length = sz := by rw [Array.length_toList]; exact hs
    rw [List.take_of_length_le (by omega : v.cells.toList.length ≤ sz), e3, Nat.sub_self, List.take_zero, List.append_nil]
/-- A slice literal, each element a value of its own. -/
theorem Eff.lit (ops : List Operand) {t el : TypeId} {len : Nat} {parts : List (Nat × Operand)} {vs : List Value} {by' : Nat} {z : Value} {ag : Bool} {cells : List Value}
    (hu : P.underlying t = some (.slice el)) (ht : TI P el sz by' z ag) (hzs : z.cells.size = sz) (hparts : parts = zipI 0 ops) (hp : e.evs ops = some vs) (hn : vs.length = len) (hsz : len * sz ≤ 2 ^ 24)
    (hv : ∀ v ∈ vs, v.cells.size = sz) (hc : (vs.map fun v => v.cells.toList).flatten = cells) :
    Eff P W0 (.buildSlice t len parts.toArray) ty e G (fun _ : Nat => True) (fun b => .slice (some ⟨b, 0, none⟩) len len) (fun b => osl el sz (some ⟨b, 0, none⟩) len len cells :: G) := by
  subst hparts hc hn
  have hl : ∀ (l : List Value), (∀ v ∈ l, v.cells.size = sz) → ((l.map fun v => v.cells.toList).flatten).length = l.length * sz := by
    intro l
    induction l with
    | nil => intro _; simp
    | cons v l ih =>
      intro h
      simp only [List.map_cons, List.flatten_cons, List.length_append, List.length_cons, Nat.succ_mul, ih (fun u hu => h u (by simp [hu]))]
      have := h v (by simp)
      simp [this]; omega
  refine Eff.buildSlice hu ht (evps_zip 0 hp) hsz ?_ (hl vs hv)
  have := fill_row sz vs 0 ((Array.range (vs.length * sz)).map ((if vs.length * sz = 0 then #[] else z.cells)[· % (if vs.length * sz = 0 then #[] else z.cells).size]!)).toList (by simp) hv
  rw [Array.toArray_toList] at this
  rw [this]; simp
theorem Eff.lit0 {t el : TypeId} {by' : Nat} {z : Value} {ag : Bool} (hu : P.underlying t = some (.slice el)) (ht : TI P el sz by' z ag) (hzs : z.cells.size = sz) :
    Eff P W0 (.buildSlice t 0 #[]) ty e G (fun _ : Nat => True) (fun b => .slice (some ⟨b, 0, none⟩) 0 0) (fun b => osl el sz (some ⟨b, 0, none⟩) 0 0 [] :: G) :=
  Eff.lit [] (vs := []) (parts := []) (by' := by') (z := z) (ag := ag) hu ht hzs rfl rfl rfl (by simp) (by simp) rfl
theorem Eff.lit1 {t el : TypeId} {by' : Nat} {z v : Value} {ag : Bool} {x : Operand} (hu : P.underlying t = some (.slice el)) (ht : TI P el 1 by' z ag) (hzs : z.cells.size = 1) (hx : e.ev x = some v) (h1 : one v = true) :
    Eff P W0 (.buildSlice t 1 #[(0, x)]) ty e G (fun _ : Nat => True) (fun b => .slice (some ⟨b, 0, none⟩) 1 1) (fun b => osl el 1 (some ⟨b, 0, none⟩) 1 1 [v] :: G) :=
  Eff.lit [x] (vs := [v]) (parts := [(0, x)]) (by' := by') (z := z) (ag := ag) hu ht hzs rfl (by simp only [Env.evs, hx]) rfl (by decide) (by simp [ones h1]) (by simp [ones h1])

/-! ### struct literals -/
def places? (P : Program) (t : TypeId) : Option (List (Nat × Nat)) :=
  match P.underlying t with
  | some (.struct fs) => fs.toList.mapM fun f => match P.info? f.type with | some i => some (f.offset, i.size) | none => none
  | _ => none
def fillL (ps : List (Nat × Nat)) (cells : List Value) : List (Nat × Value) → Option (List Value)
  | [] => some cells
  | (i, v) :: rest => match ps[i]? with
    | none => none
    | some (off, size) => if v.cells.size = size ∧ off + size ≤ cells.length then fillL ps (over cells off v.cells.toList) rest else none
theorem fill_eq (ps : List (Nat × Nat)) : ∀ (pvs : List (Nat × Value)) (cells out : List Value), fillL ps cells pvs = some out → Instr.fill (fun i => (ps.toArray)[i]?) cells.toArray pvs = some out.toArray
  | [], cells, out, h => by simp [fillL] at h; subst h; rfl
  | (i, v) :: rest, cells, out, h => by
    simp only [fillL] at h
    split at h
    · cases h
    · rename_i off size hp
      split at h
      · rename_i hc
        have hp' : ps.toArray[i]? = some (off, size) := by simpa using hp
        simp only [Instr.fill, hp']
        rw [if_neg (by simp; omega)]
        have hfold : (v.cells.zipIdx.foldl (fun (cs : Array Value) (x : Value × Nat) => match x with | (c, j) => cs.setIfInBounds (off + j) c) cells.toArray) = (over cells off v.cells.toList).toArray := by
          have := fold_over off v.cells.toList 0 cells (by simp; omega)
          rw [Nat.add_zero] at this
          rw [← this, ← Array.foldl_toList]
          simp only [Array.toList_zipIdx]
        rw [hfold]
        exact fill_eq ps rest _ _ h
      · cases h
theorem run_places {w : World} : ∀ (fs : List Field) (ps : List (Nat × Nat)), (fs.mapM fun f => match P.info? f.type with | some i => some (f.offset, i.size) | none => none) = some ps →
    (fs.mapM (m := Sem) fun f => do pure (f.offset, ← sizeOf f.type)).run P w = .ok ps w
  | [], ps, h => by simp at h; subst h; rfl
  | f :: fs, ps, h => by
    rw [List.mapM_cons] at h ⊢
    simp only [bind, Option.bind_eq_some_iff, pure, Option.some.injEq] at h
    obtain ⟨y, hy, ys, hys, rfl⟩ := h
    cases hi : P.info? f.type with
    | none => rw [hi] at hy; cases hy
    | some i =>
      rw [hi] at hy
      simp only [Option.some.injEq] at hy
      subst hy
      have h1 : (sizeOf f.type).run P w = .ok i.size w := by simp [sizeOf, typeInfo, program, bind, Sem.bind, pure, hi, Sem.run]
      have ih := run_places (w := w) fs ys (by simpa [bind, pure] using hys)
      show (((sizeOf f.type).bind fun s => Sem.pure (f.offset, s)).bind _).run P w = _
      rw [run_bind_ok (show ((sizeOf f.type).bind fun s => Sem.pure (f.offset, s)).run P w = .ok (f.offset, i.size) w by rw [run_bind_ok h1]; rfl)]
      show (Sem.bind (List.mapM _ fs) _).run P w = _
      rw [run_bind_ok ih]; rfl
theorem Yield.build {t : TypeId} {parts : List (Nat × Operand)} {pvs : List (Nat × Value)} {ps : List (Nat × Nat)} {zs cells : List Value} {by' : Nat} {ag : Bool}
    (hps : places? P t = some ps) (ht : TI P t sz by' (.agg zs.toArray) ag) (hp : e.evps parts = some pvs) (hf : fillL ps zs pvs = some cells) :
    Yield P W0 (.build t parts.toArray) ty e G (.agg cells.toArray) := fun ρ hρ w _ _ _ _ _ => by
  unfold places? at hps
  split at hps
  · rename_i fs hu
    have h1 : (Instr.build t (parts.toArray.map fun (i, x) => (i, ρ x))).run P w = .ok (.agg cells.toArray) w := by
      have hq : (parts.toArray.map fun (i, x) => (i, ρ x)) = pvs.toArray := by rw [List.map_toArray, hρ.evps hp]
      rw [hq]
      unfold Instr.build
      simp only [bind, pure]
      rw [run_bind_ok (ht.run_zero w)]
      rw [run_bind_ok (run_underlying hu w)]
      simp only []
      have h2 : (fs.mapM (m := Sem) fun f => do pure (f.offset, ← sizeOf f.type)).run P w = .ok ps.toArray w := by
        rw [Array.mapM_eq_mapM_toList]
        have := run_places (P := P) (w := w) fs.toList ps hps
        show (Sem.run P (List.toArray <$> _) w) = _
        show (Sem.bind _ (fun a => Sem.pure (List.toArray a))).run P w = _
        rw [run_bind_ok this]; rfl
      simp only [bind, pure] at h2
      rw [run_bind_ok h2]
      have h3 := fill_eq ps pvs zs cells hf
      simp only [Value.cells] at h3 ⊢
      rw [h3]
      rfl
    show ((Instr.build t (parts.toArray.map fun (i, x) => (i, ρ x))).bind _).run P w = _
    rw [run_bind_ok h1]; rfl
  · cases hps
theorem Yield.build0 {t : TypeId} {ps : List (Nat × Nat)} {zs : Array Value} {by' : Nat} {ag : Bool}
    (hps : places? P t = some ps) (ht : TI P t sz by' (.agg zs) ag) : Yield P W0 (.build t #[]) ty e G (.agg zs) := by
  have := Yield.build (W0 := W0) (e := e) (G := G) (ty := ty) (parts := []) (pvs := []) (zs := zs.toList) (cells := zs.toList) (by' := by') (ag := ag) hps (by simpa using ht) rfl rfl
  simpa using this
theorem over_all {cs vs : List Value} (h : vs.length = cs.length) : over cs 0 vs = vs := by
  unfold over; rw [List.drop_eq_nil_of_le (by omega)]; simp
/-- A store into an element of a slice of one's own. -/
theorem Eff.storeElem {t : TypeId} {x y : Operand} {b o i : Nat} {v : Value} {put : HProp → List HProp} {by' z ag} (ht : TI P t 1 by' z ag) (hx : e.ev x = some (.pointer (some ⟨b, o + i, none⟩))) (hy : e.ev y = some v)
    (fc : Foc G (osl E sz (some ⟨b, o, none⟩) c m xs) put) (h1 : one v = true) (hi : i < m * sz) : Eff P W0 (.store t x y) ty e G (fun _ : Unit => True) (fun _ => undef) (fun _ => put (osl E sz (some ⟨b, o, none⟩) c m (xs.set i v))) := fun ρ hρ w hw _ _ _ _ => by
  obtain ⟨R, hR⟩ := foc_ext fc
  obtain ⟨f, hf, hA⟩ := Sat.ext hR hw
  obtain ⟨q1, q2, q3⟩ := hA
  rcases q3 with ⟨q, _⟩ | ⟨b', o', cs, fr, q, hbk, hfr, ho, htk⟩
  · cases q
  · cases q
    have hcm : m * sz ≤ c * sz := Nat.mul_le_mul_right _ q2
    have hwb := hf _ _ hbk
    have hv : v.cells.size = 1 := by rw [ones h1]; rfl
    have hst := run_storeVar (P := P) (t := t) (o := o + i) (v := v) ht hv (by rw [ones h1]; intro c hc; simp at hc; subst hc; exact h1) hwb hfr (by omega)
    have hov : over cs (o + i) v.cells.toList = cs.set (o + i) v := by rw [ones h1]; exact over_one (by omega)
    rw [hov] at hst
    refine ⟨(), setObjW w b (.cells (cs.set (o + i) v).toArray E fr), trivial, Sat.write (b := b) (o := .cells cs.toArray E fr) fc hw hwb ?_, .inr ⟨?_, rfl⟩⟩
    · intro f' hle' hf'
      obtain ⟨h1', _, h3'⟩ := hf'
      rcases h3' with ⟨h, _⟩ | ⟨b', o', cs', fr', hq, hbk', _, _, htk'⟩
      · cases h
      · cases hq
        have hsame : some (Obj.cells cs'.toArray E fr') = some (Obj.cells cs.toArray E fr) := (hle' _ _ hbk').symm.trans hwb
        simp only [Option.some.injEq, Obj.cells.injEq] at hsame
        obtain ⟨p1, _, p3⟩ := hsame
        have p1 := List.toArray_inj p1
        subst p1 p3
        refine ⟨hbk', by simpa using h1', q2, .inr ⟨b, o, cs'.set (o + i) v, fr', rfl, by simp [updH], by simpa using hfr, by simpa using ho, ?_⟩⟩
        rw [List.drop_set, if_neg (by omega), show o + i - o = i by omega, List.take_set, htk']
    · show (((Instr.storeAt t (ρ x) (ρ y))).bind _).run P w = _
      rw [hρ x _ hx, hρ y _ hy]
      rw [run_bind_ok (show (Instr.storeAt t (.pointer (some ⟨b, o + i, none⟩)) v).run P w = _ by
        show ((Instr.sureAddr _).bind _).run P w = _
        simp only [Instr.sureAddr, pure, Sem.bind]
        exact hst)]
      rfl
/-- make([]byte, n). -/
theorem flat_zero (n : Nat) : (List.replicate n [Value.int .u8 0]).flatten = bytesV (List.replicate n 0) := by
  induction n with
  | zero => rfl
  | succ n ih => simp only [List.replicate_succ, List.flatten_cons, ih]; rfl
theorem Eff.makeB {t el : TypeId} {x : Operand} {n : Int} {ag : Bool} (k : Nat)
    (hu : P.underlying t = some (.slice el)) (ht : TI P el 1 1 (.int .u8 0) ag) (hx : e.ev x = some (.int .i64 n)) (hn : n = (k : Int)) (hb : k ≤ 2 ^ 48) :
    Eff P W0 (.makeSlice t x x) ty e G (fun _ : Nat => True) (fun b => .slice (some ⟨b, 0, none⟩) (List.replicate k (0 : UInt8)).length k) (fun b => oby el (some ⟨b, 0, none⟩) k (List.replicate k 0) :: G) := by
  subst hn
  have := Eff.makeSlice (P := P) (W0 := W0) (G := G) (ty := ty) (n := (k : Int)) hu ht rfl (by decide) hx (by omega) (by omega) (by omega)
  simp only [Int.toNat_natCast] at this
  rw [show (Value.int IntKind.u8 0).cells.toList = [Value.int IntKind.u8 0] from rfl, flat_zero] at this
  unfold oby; rw [List.length_replicate]; exact this
/-- copy over the whole of a slice of one's own. -/
theorem Eff.copyB {x y : Operand} {st st2 el : TypeId} {a2 : Option Addr} {k c2 by' : Nat} {z : Value} {ag : Bool} {bs ys : List UInt8} {put : HProp → List HProp} {ats : Array TypeId}
    (hx : e.ev x = some (.slice a k c)) (hy : e.ev y = some (.slice a2 ys.length c2)) (hats : ats = #[st, st2]) (hu : P.underlying st = some (.slice el)) (ht : TI P el 1 by' z ag)
    (fc : Foc G (oby el a c bs) put) (hr : SlR W0 G 1 a2 ys.length (bytesV ys)) (hl : bs.length = ys.length) (hk : k = bs.length) :
    Eff P W0 (.call { callee := .builtin .copy, args := #[x, y], argTypes := ats }) ty e G (fun _ : Unit => True) (fun _ => .int .i64 ys.length) (fun _ => put (oby el a c ys)) := by
  subst hk
  have := Eff.copy (ty := ty) hx hy hats hu ht fc hr bytesV_one
  rw [← hl, Nat.min_self, Nat.mul_one] at this
  rw [List.take_of_length_le (by rw [bytesV_length]; omega), over_all (by rw [bytesV_length, bytesV_length]; omega)] at this
  unfold oby; rw [← hl]; exact this
/-- An array literal without elements. -/
theorem Yield.buildArr0 {t el : TypeId} {len : Nat} {zs : Array Value} {sz by' by2 by3 : Nat} {ag ag2 : Bool} {z : Value}
    (hu : P.underlying t = some (.array len el)) (ht : TI P t sz by' (.agg zs) ag) (hel : TI P el by2 by3 z ag2) : Yield P W0 (.build t #[]) ty e G (.agg zs) := fun ρ hρ w _ _ _ _ _ => by
  have h1 : (Instr.build t #[]).run P w = .ok (.agg zs) w := by
    unfold Instr.build
    simp only [bind, pure]
    rw [run_bind_ok (ht.run_zero w)]
    rw [run_bind_ok (run_underlying hu w)]
    simp only []
    rw [run_bind_ok (hel.run_size w)]
    rfl
  show ((Instr.build t ((#[] : Array (Nat × Operand)).map fun (i, x) => (i, ρ x))).bind _).run P w = _
  rw [List.map_toArray, List.map_nil]
  rw [run_bind_ok h1]; rfl
/-- Records in a slice: one written over. -/
theorem flat_set {α : Type} {f : α → List Value} {sz : Nat} (hf : ∀ x, (f x).length = sz) : ∀ (xs : List α) (i : Nat) (x : α), i < xs.length → over ((xs.map f).flatten) (i * sz) (f x) = ((xs.set i x).map f).flatten
  | [], i, x, h => by simp at h
  | y :: xs, 0, x, _ => by
    simp only [Nat.zero_mul, List.set_cons_zero, List.map_cons, List.flatten_cons, over, List.take_zero, List.nil_append, Nat.zero_add]
    rw [hf, List.drop_append, List.drop_eq_nil_of_le (by rw [hf]; omega), hf, Nat.sub_self, List.drop_zero, List.nil_append]
  | y :: xs, i + 1, x, h => by
    have ih := flat_set hf xs i x (by simpa using h)
    simp only [List.set_cons_succ, List.map_cons, List.flatten_cons]
    rw [← ih]
    unfold over
    have e1 : (i + 1) * sz = (f y).length + i * sz := by rw [hf, Nat.succ_mul]; omega
    rw [e1, List.take_append, List.take_of_length_le (by omega : (f y).length ≤ (f y).length + i * sz), Nat.add_sub_cancel_left, Nat.add_assoc, List.drop_append, List.drop_eq_nil_of_le (by omega), List.nil_append, Nat.add_sub_cancel_left]
    simp only [List.append_assoc]
theorem run_storeOsl {t : TypeId} {b o i : Nat} {v : Value} {w : World} {cs : List Value} {by' : Nat} {z : Value} {ag : Bool} {k : Nat} (ht : TI P t k by' z ag) (hv : v.cells.size = k) (h1 : ∀ c ∈ v.cells.toList, one c = true) {fr : Nat × Nat}
    (hb : w.heap[b]? = some (.cells cs.toArray E fr)) (hf : NoFr fr cs.length) (ho : o + i + k ≤ cs.length) :
    (Instr.storeAt t (.pointer (some ⟨b, o + i, none⟩)) v).run P w = .ok () (setObjW w b (.cells (over cs (o + i) v.cells.toList).toArray E fr)) := by
  show ((Instr.sureAddr _).bind _).run P w = _
  simp only [Instr.sureAddr, pure, Sem.bind]
  exact run_storeVar ht hv h1 hb hf ho
/-- A store of some cells into a slice of one's own. -/
theorem Eff.storeCells {t : TypeId} {x y : Operand} {b o i k : Nat} {v : Value} {put : HProp → List HProp} {by' z ag} (ht : TI P t k by' z ag) (hx : e.ev x = some (.pointer (some ⟨b, o + i, none⟩))) (hy : e.ev y = some v) (hv : v.cells.size = k)
    (fc : Foc G (osl E sz (some ⟨b, o, none⟩) c m xs) put) (h1 : ∀ c ∈ v.cells.toList, one c = true) (hi : i + k ≤ m * sz) : Eff P W0 (.store t x y) ty e G (fun _ : Unit => True) (fun _ => undef) (fun _ => put (osl E sz (some ⟨b, o, none⟩) c m (over xs i v.cells.toList))) := fun ρ hρ w hw _ _ _ _ => by
  obtain ⟨R, hR⟩ := foc_ext fc
  obtain ⟨f, hf, hA⟩ := Sat.ext hR hw
  obtain ⟨q1, q2, q3⟩ := hA
  have hvl : v.cells.toList.length = k := by rw [Array.length_toList]; exact hv
  rcases q3 with ⟨q, _⟩ | ⟨b', o', cs, fr, q, hbk, hfr, ho, htk⟩
  · cases q
  · cases q
    have hcm : m * sz ≤ c * sz := Nat.mul_le_mul_right _ q2
    have hwb := hf _ _ hbk
    have hst := run_storeOsl (P := P) (t := t) (o := o) (i := i) (v := v) ht hv h1 hwb hfr (by omega)
    refine ⟨(), setObjW w b (.cells (over cs (o + i) v.cells.toList).toArray E fr), trivial, Sat.write (b := b) (o := .cells cs.toArray E fr) fc hw hwb ?_, .inr ⟨?_, rfl⟩⟩
    · intro f' hle' hf'
      obtain ⟨h1', _, h3'⟩ := hf'
      rcases h3' with ⟨h, _⟩ | ⟨b', o', cs', fr', hq, hbk', _, _, htk'⟩
      · cases h
      · cases hq
        have hsame : some (Obj.cells cs'.toArray E fr') = some (Obj.cells cs.toArray E fr) := (hle' _ _ hbk').symm.trans hwb
        simp only [Option.some.injEq, Obj.cells.injEq] at hsame
        obtain ⟨p1, _, p3⟩ := hsame
        have p1 := List.toArray_inj p1
        subst p1 p3
        have hol : (over cs' (o + i) v.cells.toList).length = cs'.length := over_length (by omega)
        refine ⟨hbk', by rw [over_length (by omega)]; exact h1', q2, .inr ⟨b, o, over cs' (o + i) v.cells.toList, fr', rfl, by simp [updH], by rw [hol]; exact hfr, by rw [hol]; exact ho, ?_⟩⟩
        rw [← htk']
        unfold over
        generalize hV : v.cells.toList = V at hvl
        have e0 : (cs'.take (o + i)).length = o + i := by rw [List.length_take]; omega
        rw [List.append_assoc, List.drop_append, e0, show o - (o + i) = 0 by omega, List.drop_zero, List.drop_take, show o + i - o = i by omega, List.take_append, List.length_take, List.length_drop]
        have e1 : min i (cs'.length - o) = i := by omega
        rw [e1, List.take_take, List.take_take, show min (m * sz) i = i by omega, show min i (m * sz) = i by omega, List.append_assoc]
        congr 1
        rw [List.take_append, hvl, List.take_of_length_le (by omega : V.length ≤ m * sz - i)]
        congr 1
        rw [List.drop_take, List.drop_drop]
        congr 1
        · omega
        · congr 1; omega
    · show (((Instr.storeAt t (ρ x) (ρ y))).bind _).run P w = _
      rw [hρ x _ hx, hρ y _ hy, run_bind_ok hst]
      rfl
/-- A store of a record into a slice of records of one's own. -/
theorem Eff.storeRec {α : Type} {fc' : α → List Value} {t : TypeId} {x y : Operand} {b o i : Nat} {r : α} {rs : List α} {put : HProp → List HProp} {by' z ag} (hlen : ∀ x, (fc' x).length = sz) (hones : ∀ x, ∀ v ∈ fc' x, one v = true) (ht : TI P t sz by' z ag) (hx : e.ev x = some (.pointer (some ⟨b, o + i * sz, none⟩))) (hy : e.ev y = some (.agg (fc' r).toArray))
    (fc : Foc G (osl E sz (some ⟨b, o, none⟩) c m ((rs.map fc').flatten)) put) (hm : m = rs.length) (hi : i < m) : Eff P W0 (.store t x y) ty e G (fun _ : Unit => True) (fun _ => undef) (fun _ => put (osl E sz (some ⟨b, o, none⟩) c m (((rs.set i r).map fc').flatten))) := by
  subst hm
  have h := Eff.storeCells (P := P) (W0 := W0) (ty := ty) (i := i * sz) (k := sz) ht hx hy (by simpa [Value.cells] using hlen r) fc (by simpa [Value.cells] using hones r) (by rw [← Nat.succ_mul]; exact Nat.mul_le_mul_right _ hi)
  rw [show (Value.agg (fc' r).toArray).cells.toList = fc' r by simp [Value.cells], flat_set hlen rs i r hi] at h
  exact h
theorem over_full {cs vs : List Value} {o : Nat} (h : vs.length + o ≤ cs.length) : ((over cs o vs).drop o).take vs.length = vs := by
  unfold over
  have e0 : (cs.take o).length = o := by rw [List.length_take]; omega
  rw [List.append_assoc, List.drop_append, e0, List.drop_eq_nil_of_le (by omega), List.nil_append, Nat.sub_self, List.drop_zero, List.take_append_of_le_length (Nat.le_refl _), List.take_length]
/-- clear of a slice of one's own. -/
theorem Eff.clear {x : Operand} {st el : TypeId} {by' : Nat} {z : Value} {ag : Bool} {put : HProp → List HProp} {ats : Array TypeId} {zs : List Value} {b o : Nat}
    (hx : e.ev x = some (.slice (some ⟨b, o, none⟩) m c)) (hats : ats = #[st]) (hu : P.underlying st = some (.slice el)) (ht : TI P el sz by' z ag) (h0 : 0 < m) (hzs : (Builtin.zeroCells z.cells m).toList = zs) (hzl : zs.length = m * sz) (hone : ∀ v ∈ zs, one v = true)
    (fc : Foc G (osl el sz (some ⟨b, o, none⟩) c m xs) put) :
    Eff P W0 (.call { callee := .builtin .clear, args := #[x], argTypes := ats }) ty e G (fun _ : Unit => True) (fun _ => .tuple #[]) (fun _ => put (osl el sz (some ⟨b, o, none⟩) c m zs)) := fun ρ hρ w hw _ _ _ _ => by
  subst hats
  obtain ⟨R, hR⟩ := foc_ext fc
  have hevs : e.evs [x] = some [.slice (some ⟨b, o, none⟩) m c] := by simp only [Env.evs, hx]
  obtain ⟨f, hf, hA⟩ := Sat.ext hR hw
  obtain ⟨q1, q2, q3⟩ := hA
  rcases q3 with ⟨q, _⟩ | ⟨b', o', cs, fr, q, hbk, hfr, ho, htk⟩
  · cases q
  · cases q
    have hcm : m * sz ≤ c * sz := Nat.mul_le_mul_right _ q2
    have hwb := hf _ _ hbk
    have hst := run_storeCells (P := P) (b := b) (o := o) (t := el) zs 0 w cs hwb hfr (by omega) hone
    refine ⟨(), setObjW w b (.cells (over cs o zs).toArray el fr), trivial, Sat.write (b := b) (o := .cells cs.toArray el fr) fc hw hwb ?_, .inl (run_built (s := Builtin.clear_ #[st] ty #[.slice (some ⟨b, o, none⟩) m c]) hρ hevs (fun _ => rfl) ?_)⟩
    · intro f' hle' hf'
      obtain ⟨h1', _, h3'⟩ := hf'
      rcases h3' with ⟨h, _⟩ | ⟨b', o', cs', fr', hq, hbk', _, _, htk'⟩
      · cases h
      · cases hq
        have hsame : some (Obj.cells cs'.toArray el fr') = some (Obj.cells cs.toArray el fr) := (hle' _ _ hbk').symm.trans hwb
        simp only [Option.some.injEq, Obj.cells.injEq] at hsame
        obtain ⟨p1, _, p3⟩ := hsame
        have p1 := List.toArray_inj p1
        subst p1 p3
        have hol : (over cs' o zs).length = cs'.length := over_length (by omega)
        refine ⟨hbk', hzl, q2, .inr ⟨b, o, over cs' o zs, fr', rfl, by simp [updH], by rw [hol]; exact hfr, by rw [hol]; exact ho, ?_⟩⟩
        rw [← hzl]; exact over_full (by omega)
    · obtain ⟨m', rfl⟩ : ∃ m', m = m' + 1 := ⟨m - 1, by omega⟩
      unfold Builtin.clear_
      simp only [List.getElem?_toArray, List.getElem?_cons_zero]
      show ((underlying st).bind _).run P w = _
      rw [run_bind_ok (run_underlying hu w)]
      simp only [bind]
      rw [run_bind_ok (ht.run_zero w), hzs]
      rw [Nat.add_zero] at hst
      rw [run_bind_ok hst]; rfl
end
end Go.Sl
/- Equality of structs and arrays of plain cells. No program in sight. -/
namespace Go.Sl
open Go Go.RowKit

/-- Are two cells that may be compared equal? -/
def cellEq : Value → Value → Bool
  | .int _ a, .int _ b => a == b
  | .bool a, .bool b => a == b
  | _, _ => false
/-- Is the value a cell of the kind: none, a bool; some k, an integer of kind k? -/
def kindB : Option IntKind → Value → Bool
  | none, .bool _ => true
  | some k, .int k' _ => decide (k = k')
  | _, _ => false
def fitK : List (Option IntKind) → List Value → Bool
  | [], [] => true
  | k :: ks, x :: xs => kindB k x && fitK ks xs
  | _, _ => false
theorem fitK_len : ∀ {ks : List (Option IntKind)} {xs : List Value}, fitK ks xs = true → xs.length = ks.length
  | [], [], _ => rfl
  | k :: ks, y :: ys, h => by
    simp only [fitK, Bool.and_eq_true] at h
    simp [fitK_len h.2]
  | [], _ :: _, h => by cases h
  | _ :: _, [], h => by cases h
theorem fitK_append : ∀ {a b : List (Option IntKind)} {xs : List Value}, fitK (a ++ b) xs = true → fitK a (xs.take a.length) = true ∧ fitK b (xs.drop a.length) = true
  | [], b, xs, h => by simpa [fitK] using h
  | k :: a, b, x :: xs, h => by
    simp only [List.cons_append, fitK, Bool.and_eq_true] at h
    obtain ⟨h1, h2⟩ := fitK_append h.2
    simp only [List.length_cons, List.take_succ_cons, List.drop_succ_cons, fitK, Bool.and_eq_true]
    exact ⟨⟨h.1, h1⟩, h2⟩
  | _ :: _, _, [], h => by cases h
def eqCells : List Value → List Value → Bool
  | [], [] => true
  | x :: xs, y :: ys => cellEq x y && eqCells xs ys
  | _, _ => false
theorem eqCells_append : ∀ {a b c d : List Value}, a.length = c.length → eqCells (a ++ b) (c ++ d) = (eqCells a c && eqCells b d)
  | [], b, [], d, _ => by simp [eqCells]
  | x :: a, b, y :: c, d, h => by
    simp only [List.cons_append, eqCells, eqCells_append (a := a) (c := c) (b := b) (d := d) (by simpa using h), Bool.and_assoc]
  | [], _, _ :: _, _, h => by simp at h
  | _ :: _, _, [], _, h => by simp at h
section
variable {P : Program} {W0 : World} {e : Env} {G R : List HProp} {ty : TypeId}

/-- Fields that lie one behind another, from o on: the kinds of their cells. -/
def flatFs (g : TypeId → Option (List (Option IntKind) × Bool)) : Nat → List Field → Option (List (Option IntKind))
  | _, [] => some []
  | o, f :: fs => if f.name ≠ "_" ∧ f.offset = o then (match g f.type with
      | some (ks, _) => (match flatFs g (o + ks.length) fs with | some r => some (ks ++ r) | none => none)
      | none => none) else none
/-- A type whose values are plain cells, in order: the kinds of its cells, and is it a struct or an array? -/
def flat? (P : Program) : Nat → TypeId → Option (List (Option IntKind) × Bool)
  | 0, _ => none
  | d + 1, t =>
    match P.underlying t, P.info? t with
    | some .bool, some i => if i.size = 1 then some ([none], false) else none
    | some (.int k), some i => if i.size = 1 then some ([some k], false) else none
    | some (.struct fs), some i => if P.stoodInHeld t = true then none else
        (match flatFs (flat? P d) 0 fs.toList with | some ks => if ks.length = i.size then some (ks, true) else none | none => none)
    | some (.array len el), some i => match flat? P d el with
        | some (ks, _) => if len * ks.length = i.size then some ((List.replicate len ks).flatten, true) else none
        | none => none
    | _, _ => none
/-- The value of a type over its cells. -/
def valOf (ag : Bool) (xs : List Value) : Value := match ag with | true => .agg xs.toArray | false => xs.headD undef

theorem run_forIn_all {α β : Type} {w : World} (f : α → β → Sem (ForInStep β)) (b0 bF : β) (p : α → Bool) : ∀ (l : List α), (∀ a ∈ l, (f a b0).run P w = .ok (if p a then .yield b0 else .done bF) w) → (forIn (m := Sem) l b0 f).run P w = .ok (if l.all p then b0 else bF) w
  | [], _ => by simp [pure, Sem.run]
  | a :: l, h => by
    rw [List.forIn_cons]
    have h1 := h a (by simp)
    show ((f a b0).bind _).run P w = _
    rw [run_bind_ok h1]
    cases hp : p a with
    | true =>
      simp only [if_true]
      rw [run_forIn_all f b0 bF p l (fun x hx => h x (by simp [hx]))]
      simp [hp]
    | false => simp [hp, pure, Sem.run]

theorem eq_split {xs ys : List Value} (hl : xs.length = ys.length) (o m : Nat) : eqCells (xs.drop o) (ys.drop o) = (eqCells ((xs.drop o).take m) ((ys.drop o).take m) && eqCells (xs.drop (o + m)) (ys.drop (o + m))) := by
  have h1 : xs.drop o = (xs.drop o).take m ++ xs.drop (o + m) := by rw [← List.drop_drop, List.take_append_drop]
  have h2 : ys.drop o = (ys.drop o).take m ++ ys.drop (o + m) := by rw [← List.drop_drop, List.take_append_drop]
  have h3 := eqCells_append (a := (xs.drop o).take m) (b := xs.drop (o + m)) (c := (ys.drop o).take m) (d := ys.drop (o + m)) (by simp; omega)
  rw [← h1, ← h2] at h3; exact h3
theorem run_part {t m off : Nat} {ag : Bool} {xs : List Value} {w : World} (hs : ∃ i, P.info? t = some i ∧ i.size = m) (ha : (isAgg t).run P w = .ok ag w) (h1 : ag = false → m = 1) (ho : off + m ≤ xs.length) :
    (part t xs.toArray off).run P w = .ok (valOf ag ((xs.drop off).take m)) w := by
  obtain ⟨i, hi, rfl⟩ := hs
  unfold part
  show ((isAgg t).bind _).run P w = _
  rw [run_bind_ok ha]
  cases ag with
  | true =>
    simp only [if_true]
    have hz : (sizeOf t).run P w = .ok i.size w := by simp [sizeOf, typeInfo, program, bind, Sem.bind, pure, hi, Sem.run]
    show ((sizeOf t).bind _).run P w = _
    rw [run_bind_ok hz]
    simp only [pure, Sem.run, List.extract_toArray, List.extract_eq_take_drop, Nat.add_sub_cancel_left, valOf]
  | false =>
    have h2 := h1 rfl
    rw [h2] at ho ⊢
    have hlt : off < xs.length := by omega
    have h3 : (xs.drop off).take 1 = [xs[off]] := by rw [List.drop_eq_getElem_cons hlt]; rfl
    simp [h3, valOf, hlt, pure, Sem.run]
abbrev KB := List (Option IntKind) × Bool
theorem flatFs_all {g : TypeId → Option KB} {xs ys : List Value} : ∀ {l : List Field} {o : Nat} {ks : List (Option IntKind)}, flatFs g o l = some ks → fitK ks (xs.drop o) = true → fitK ks (ys.drop o) = true → o ≤ xs.length → xs.length = ys.length →
    (∀ f ∈ l, f.name ≠ "_" ∧ ∃ m b, g f.type = some (m, b) ∧ f.offset + m.length ≤ xs.length ∧ fitK m ((xs.drop f.offset).take m.length) = true ∧ fitK m ((ys.drop f.offset).take m.length) = true) ∧
    (l.all fun f => eqCells ((xs.drop f.offset).take ((g f.type).getD ([], false)).1.length) ((ys.drop f.offset).take ((g f.type).getD ([], false)).1.length)) = eqCells (xs.drop o) (ys.drop o)
  | [], o, ks, h, hx, hy, ho, hl => by
    simp only [flatFs, Option.some.injEq] at h
    subst h
    have h1 := fitK_len hx
    have h2 := fitK_len hy
    rw [List.length_eq_zero_iff.1 h1, List.length_eq_zero_iff.1 h2]
    simp [eqCells]
  | f :: l, o, ks, h, hx, hy, ho, hl => by
    simp only [flatFs] at h
    split at h
    · rename_i hc
      obtain ⟨hn, rfl⟩ := hc
      split at h
      · rename_i m b hg
        split at h
        · rename_i r hr
          simp only [Option.some.injEq] at h
          subst h
          obtain ⟨hx1, hx2⟩ := fitK_append hx
          obtain ⟨hy1, hy2⟩ := fitK_append hy
          rw [List.drop_drop] at hx2 hy2
          have hlen := fitK_len hx
          simp only [List.length_drop, List.length_append] at hlen
          obtain ⟨h2, h3⟩ := flatFs_all hr hx2 hy2 (by omega) hl
          refine ⟨?_, ?_⟩
          · intro f' hf'
            rcases List.mem_cons.1 hf' with rfl | hf'
            · exact ⟨hn, m, b, hg, by omega, hx1, hy1⟩
            · exact h2 f' hf'
          · rw [List.all_cons, h3, hg]
            exact (eq_split hl f.offset m.length).symm
        · cases h
      · cases h
    · cases h
theorem rep_all {ks : List (Option IntKind)} {xs ys : List Value} (hl : xs.length = ys.length) : ∀ (len o : Nat), fitK ((List.replicate len ks).flatten) (xs.drop (o * ks.length)) = true → fitK ((List.replicate len ks).flatten) (ys.drop (o * ks.length)) = true → o * ks.length ≤ xs.length →
    (∀ i ∈ List.range' o len, i * ks.length + ks.length ≤ xs.length ∧ fitK ks ((xs.drop (i * ks.length)).take ks.length) = true ∧ fitK ks ((ys.drop (i * ks.length)).take ks.length) = true) ∧
    ((List.range' o len).all fun i => eqCells ((xs.drop (i * ks.length)).take ks.length) ((ys.drop (i * ks.length)).take ks.length)) = eqCells (xs.drop (o * ks.length)) (ys.drop (o * ks.length))
  | 0, o, hx, hy, ho => by
    have h1 := fitK_len hx
    have h2 := fitK_len hy
    simp only [List.replicate_zero, List.flatten_nil, List.length_nil] at h1 h2
    rw [List.length_eq_zero_iff.1 h1, List.length_eq_zero_iff.1 h2]
    simp [eqCells]
  | len + 1, o, hx, hy, ho => by
    simp only [List.replicate_succ, List.flatten_cons] at hx hy
    have hlen := fitK_len hx
    simp only [List.length_drop, List.length_append] at hlen
    obtain ⟨hx1, hx2⟩ := fitK_append hx
    obtain ⟨hy1, hy2⟩ := fitK_append hy
    rw [List.drop_drop, ← Nat.succ_mul] at hx2 hy2
    obtain ⟨h2, h3⟩ := rep_all hl len (o + 1) hx2 hy2 (by rw [Nat.succ_mul]; omega)
    refine ⟨?_, ?_⟩
    · intro i hi
      rw [List.range'_succ] at hi
      rcases List.mem_cons.1 hi with rfl | hi
      · exact ⟨by omega, hx1, hy1⟩
      · exact h2 i hi
    · rw [List.range'_succ, List.all_cons, h3, Nat.succ_mul]
      exact (eq_split hl (o * ks.length) ks.length).symm

/-- One step of a comparison: a part against a part. -/
theorem run_step {d t off : Nat} {ks : List (Option IntKind)} {ag : Bool} {xs ys : List Value} {w : World} {β : Type} {b0 bF : β} (hs : ∃ i, P.info? t = some i ∧ i.size = ks.length) (ha : ∀ w, (isAgg t).run P w = .ok ag w) (h1 : ag = false → ks.length = 1) (ho : off + ks.length ≤ xs.length) (hl : xs.length = ys.length)
    (h : ∀ w, (Op.equalIn d t (valOf ag ((xs.drop off).take ks.length)) (valOf ag ((ys.drop off).take ks.length))).run P w = .ok (eqCells ((xs.drop off).take ks.length) ((ys.drop off).take ks.length)) w) :
    ((part t xs.toArray off).bind fun a => (part t ys.toArray off).bind fun b => (Op.equalIn d t a b).bind fun r => (if (!r) = true then Sem.pure (ForInStep.done bF) else Sem.pure (ForInStep.yield b0) : Sem (ForInStep β))).run P w =
      .ok (if eqCells ((xs.drop off).take ks.length) ((ys.drop off).take ks.length) then .yield b0 else .done bF) w := by
  rw [run_bind_ok (run_part hs (ha w) h1 ho), run_bind_ok (run_part hs (ha w) h1 (by omega)), run_bind_ok (h w)]
  cases eqCells ((xs.drop off).take ks.length) ((ys.drop off).take ks.length) <;> rfl

theorem flat_spec : ∀ (d : Nat) (t : TypeId) (ks : List (Option IntKind)) (ag : Bool), flat? P d t = some (ks, ag) → (∃ i, P.info? t = some i ∧ i.size = ks.length) ∧ (∀ w, (isAgg t).run P w = .ok ag w) ∧ (ag = false → ks.length = 1) ∧
    ∀ (j : Nat) (xs ys : List Value), fitK ks xs = true → fitK ks ys = true → ∀ w, (Op.equalIn (d + j) t (valOf ag xs) (valOf ag ys)).run P w = .ok (eqCells xs ys) w
  | 0, t, n, ag, h => by cases h
  | d + 1, t, n, ag, h => by
    have hdj : ∀ j, d + 1 + j = (d + j) + 1 := by omega
    unfold flat? at h
    split at h
    · rename_i i hu hi
      split at h
      · rename_i hs
        simp only [Option.some.injEq, Prod.mk.injEq] at h
        obtain ⟨rfl, rfl⟩ := h
        refine ⟨⟨i, hi, hs⟩, fun w => by simp [isAgg, underlying, program, bind, Sem.bind, pure, hu, Sem.run], fun _ => rfl, fun j xs ys hx hy w => ?_⟩
        obtain ⟨x, rfl⟩ := List.length_eq_one_iff.1 (fitK_len hx)
        obtain ⟨y, rfl⟩ := List.length_eq_one_iff.1 (fitK_len hy)
        rw [hdj, Op.equalIn]
        show ((underlying t).bind _).run P w = _
        rw [run_bind_ok (run_underlying hu w)]
        cases x <;> simp [fitK, kindB] at hx
        cases y <;> simp [fitK, kindB] at hy
        simp [valOf, eqCells, cellEq, pure, Sem.run]
      · cases h
    · rename_i k i hu hi
      split at h
      · rename_i hs
        simp only [Option.some.injEq, Prod.mk.injEq] at h
        obtain ⟨rfl, rfl⟩ := h
        refine ⟨⟨i, hi, hs⟩, fun w => by simp [isAgg, underlying, program, bind, Sem.bind, pure, hu, Sem.run], fun _ => rfl, fun j xs ys hx hy w => ?_⟩
        obtain ⟨x, rfl⟩ := List.length_eq_one_iff.1 (fitK_len hx)
        obtain ⟨y, rfl⟩ := List.length_eq_one_iff.1 (fitK_len hy)
        rw [hdj, Op.equalIn]
        show ((underlying t).bind _).run P w = _
        rw [run_bind_ok (run_underlying hu w)]
        cases x <;> simp [fitK, kindB] at hx
        cases y <;> simp [fitK, kindB] at hy
        subst hx hy
        simp [valOf, eqCells, cellEq, pure, Sem.run]
      · cases h
    · rename_i fs i hu hi
      split at h
      · cases h
      · rename_i hst
        split at h
        · rename_i ks hk
          split at h
          · rename_i hs
            simp only [Option.some.injEq, Prod.mk.injEq] at h
            obtain ⟨rfl, rfl⟩ := h
            refine ⟨⟨i, hi, hs.symm⟩, fun w => by simp [isAgg, underlying, program, bind, Sem.bind, pure, hu, Sem.run], fun q => (by cases q), fun j xs ys hx hy w => ?_⟩
            rw [hdj, Op.equalIn]
            show ((underlying t).bind _).run P w = _
            rw [run_bind_ok (run_underlying hu w)]
            have hl : xs.length = ys.length := by rw [fitK_len hx, fitK_len hy]
            obtain ⟨h2, h3⟩ := flatFs_all (xs := xs) (ys := ys) hk (by simpa using hx) (by simpa using hy) (Nat.zero_le _) hl
            simp only [List.drop_zero] at h3
            simp only [valOf, program, bind, Sem.bind, hst, pure, if_false, Sem.run, Bool.false_eq_true]
            rw [← Array.forIn_toList]
            rw [run_bind_ok (run_forIn_all _ _ (some false, ()) (fun f => eqCells ((xs.drop f.offset).take ((flat? P d f.type).getD ([], false)).1.length) ((ys.drop f.offset).take ((flat? P d f.type).getD ([], false)).1.length)) fs.toList ?_)]
            · rw [h3]
              cases eqCells xs ys <;> rfl
            · intro f hf
              obtain ⟨hn, m, b, hg, ho, hx1, hy1⟩ := h2 f hf
              obtain ⟨q1, q2, q3, q4⟩ := flat_spec d f.type m b hg
              rw [if_pos hn, hg]
              exact run_step q1 q2 q3 ho hl (q4 j _ _ hx1 hy1)
          · cases h
        · cases h
    · rename_i len el i hu hi
      split at h
      · rename_i ks b hg
        split at h
        · rename_i hs
          simp only [Option.some.injEq, Prod.mk.injEq] at h
          obtain ⟨rfl, rfl⟩ := h
          have hfl : ((List.replicate len ks).flatten).length = len * ks.length := by simp
          obtain ⟨q1, q2, q3, q4⟩ := flat_spec d el ks b hg
          refine ⟨⟨i, hi, by rw [hfl]; exact hs.symm⟩, fun w => by simp [isAgg, underlying, program, bind, Sem.bind, pure, hu, Sem.run], fun q => (by cases q), fun j xs ys hx hy w => ?_⟩
          rw [hdj, Op.equalIn]
          show ((underlying t).bind _).run P w = _
          rw [run_bind_ok (run_underlying hu w)]
          have hl : xs.length = ys.length := by rw [fitK_len hx, fitK_len hy]
          obtain ⟨h2, h3⟩ := rep_all (ks := ks) hl len 0 (by simpa using hx) (by simpa using hy) (by simp)
          simp only [Nat.zero_mul, List.drop_zero] at h3
          obtain ⟨ii, hii, hiz⟩ := q1
          have hz : (sizeOf el).run P w = .ok ks.length w := by simp [sizeOf, typeInfo, program, bind, Sem.bind, pure, hii, Sem.run, hiz]
          simp only [valOf]
          show ((sizeOf el).bind _).run P w = _
          rw [run_bind_ok hz]
          simp only [program, bind, Sem.bind, pure, Std.Legacy.Range.forIn_eq_forIn_range']
          rw [run_bind_ok (run_forIn_all _ _ (some false, ()) (fun i => eqCells ((xs.drop (i * ks.length)).take ks.length) ((ys.drop (i * ks.length)).take ks.length)) _ ?_)]
          · simp only [Std.Legacy.Range.size, Nat.sub_zero, Nat.add_sub_cancel, Nat.div_one]
            rw [h3]
            cases eqCells xs ys <;> rfl
          · intro k hk
            simp only [Std.Legacy.Range.size, Nat.sub_zero, Nat.add_sub_cancel, Nat.div_one] at hk
            obtain ⟨ho, hx1, hy1⟩ := h2 k hk
            exact run_step ⟨ii, hii, hiz⟩ q2 q3 ho hl (q4 j _ _ hx1 hy1)
        · cases h
      · cases h
    · cases h

/-- Structs and arrays of plain cells, compared. -/
theorem run_agg_equal {d : Nat} {t : TypeId} {ks : List (Option IntKind)} {xs ys : List Value} {w : World} (hd : d ≤ 10000) (ht : flat? P d t = some (ks, true)) (hx : fitK ks xs = true) (hy : fitK ks ys = true) :
    (Op.equal t (.agg xs.toArray) (.agg ys.toArray)).run P w = .ok (eqCells xs ys) w := by
  have := (flat_spec d t ks true ht).2.2.2 (10000 - d) xs ys hx hy w
  rw [Nat.add_sub_of_le hd] at this
  exact this
theorem run_agg_guard {op : BinOp} {t : TypeId} {x y : Operand} {a b : Array Value} {w : World} (hg : P.eqGuardType P.depth t = false) : (eqGuard op t x y (.agg a) (.agg b)).run P w = .ok () w := by
  cases op <;> simp [eqGuard, program, bind, Sem.bind, pure, hg, Sem.run]
theorem Yield.agg_eql (d : Nat) {t t' : TypeId} {x y : Operand} {ks : List (Option IntKind)} {xs ys : List Value} {b : Bool} (hx : e.ev x = some (.agg xs.toArray)) (hy : e.ev y = some (.agg ys.toArray)) (hd : d ≤ 10000) (ht : flat? P d t = some (ks, true)) (hg : P.eqGuardType P.depth t = false)
    (hfx : fitK ks xs = true) (hfy : fitK ks ys = true) (hb : eqCells xs ys = b) : Yield P W0 (.binOp .eql t x y t') ty e G (.bool b) := fun ρ hρ w _ _ _ _ _ => by
  refine run_eqOf (hρ x _ hx) (hρ y _ hy) (run_agg_guard hg) ?_
  show ((Op.equal t (.agg xs.toArray) (.agg ys.toArray)).bind _).run P w = _
  rw [run_bind_ok (run_agg_equal hd ht hfx hfy), hb]; rfl
/-- An element of an array that is a value. -/
theorem Yield.index_agg {t el : TypeId} {len : Nat} {x i : Operand} {cs : List Value} {v : Value} {sz by' z} {k : IntKind} {j : Int} (hu : P.underlying t = some (.array len el)) (ht : TI P el sz by' z false) (hx : e.ev x = some (.agg cs.toArray)) (hi : e.ev i = some (.int k j))
    (h0 : 0 ≤ j) (h1 : j < len) (hv : cs[j.toNat * sz]? = some v) : Yield P W0 (.index t x i) ty e G v := fun ρ hρ w _ _ _ _ _ => by
  have h2 : (part el cs.toArray (j.toNat * sz)).run P w = .ok v w := by
    unfold part
    show ((isAgg el).bind _).run P w = _
    rw [run_bind_ok (ht.run_agg w)]
    simp [hv, pure, Sem.run]
  have h3 : (Instr.index t (.agg cs.toArray) (.int k j)).run P w = .ok v w := by
    unfold Instr.index
    simp only [asIntOf, bind, pure, Sem.bind]
    rw [run_bind_ok (run_underlying hu w)]
    simp only [h0, h1, and_self, if_true]
    rw [run_bind_ok (ht.run_size w)]
    exact h2
  show ((Instr.index t (ρ x) (ρ i)).bind _).run P w = _
  rw [hρ x _ hx, hρ i _ hi, run_bind_ok h3]; rfl
end
end Go.Sl
/- Maps: what lies at a map's block, and what making, asking, laying and deleting do. No program in sight. -/
namespace Go.Sl
open Go Go.RowKit

section
variable {κ β : Type} [DecidableEq κ]
def midx (l : List (κ × β)) (k : κ) : Option Nat := l.findIdx? (fun p => decide (p.1 = k))
def mget (l : List (κ × β)) (k : κ) : Option β := (midx l k).bind fun i => (l[i]?).map (·.2)
/-- At block r lies a map with these keys and values. -/
def hmap (kf : κ → Value) (vf : β → Value) (r : Nat) (l : List (κ × β)) : HProp := fun h => (l.map (·.1)).Nodup ∧ ∃ es clock, h r = some (.map es clock) ∧ es.toList.map (fun e => (e.key, e.val)) = l.map (fun p => (kf p.1, vf p.2))
end

/-- Keys of the type kt, written by kf, may be asked for. -/
structure KeyOK (P : Program) (kt : TypeId) {κ : Type} [DecidableEq κ] (kf : κ → Value) : Prop where
  check : ∀ b k w, (Instr.checkKey b 10000 kt (kf k)).run P w = .ok () w
  find : ∀ (k : κ) (es : List MapEntry) (l : List κ), es.map (·.key) = l.map kf → ∀ w, (Instr.findKey kt (kf k) es).run P w = .ok ((l.findIdx? (fun x => decide (x = k))).bind fun i => (es[i]?).map fun e => (i, e.val)) w
  same : ∀ k, Instr.sameBits 10000 (kf k) (kf k) = true

section
variable {P : Program} {W0 : World} {e : Env} {G R : List HProp} {ty : TypeId}

theorem findNow_int {kd : IntKind} (n : Int) : ∀ (es : List MapEntry) (l : List Int) (i : Nat), es.map (·.key) = l.map (fun n => Value.int kd n) →
    Instr.findNow (.int kd) (.int kd n) es i = some ((l.findIdx? (fun x => decide (x = n))).bind fun j => (es[j]?).map fun e => (i + j, e.val))
  | [], [], i, _ => rfl
  | e :: es, x :: l, i, h => by
    simp only [List.map_cons, List.cons.injEq] at h
    obtain ⟨h1, h2⟩ := h
    unfold Instr.findNow
    rw [h1]
    simp only [Instr.sameNow, if_true]
    rw [List.findIdx?_cons]
    by_cases hx : x = n
    · subst hx; simp
    · have hb : (n == x) = false := by simpa using fun q => hx q.symm
      have hd : decide (x = n) = false := by simpa using hx
      simp only [hb, hd, if_neg (by decide : ¬ (false = true))]
      rw [findNow_int n es l (i + 1) h2]
      cases l.findIdx? (fun x => decide (x = n)) with
      | none => rfl
      | some j => simp; congr 1; funext e; congr 1; omega
  | [], _ :: _, _, h => by simp at h
  | _ :: _, [], _, h => by simp at h
theorem KeyOK.int {kt : TypeId} {kd : IntKind} (hu : P.underlying kt = some (.int kd)) : KeyOK P kt (fun n : Int => Value.int kd n) where
  check := fun b k w => by
    show (Instr.checkKey b (9999 + 1) kt (.int kd k)).run P w = _
    rw [Instr.checkKey]
    show ((underlying kt).bind _).run P w = _
    rw [run_bind_ok (run_underlying hu w)]
    rfl
  find := fun k es l h w => by
    unfold Instr.findKey
    show ((underlying kt).bind _).run P w = _
    rw [run_bind_ok (run_underlying hu w), findNow_int k es l 0 h]
    simp [pure, Sem.run]
  same := fun k => by simp [Instr.sameBits]
section
variable {κ β : Type} [DecidableEq κ] {kf : κ → Value} {vf : β → Value} {l : List (κ × β)} {r : Nat}
theorem hmap_get (x : Ext G (hmap kf vf r l) R) {w : World} (hw : Sat W0 G w) : (l.map (·.1)).Nodup ∧ ∃ es clock, w.heap[r]? = some (.map es clock) ∧ es.toList.map (fun e => (e.key, e.val)) = l.map (fun p => (kf p.1, vf p.2)) := by
  obtain ⟨f, hf, hn, es, clock, h1, h2⟩ := Sat.ext x hw
  exact ⟨hn, es, clock, hf _ _ h1, h2⟩
theorem ent_keys {es : List MapEntry} {l : List (κ × β)} (h : es.map (fun e => (e.key, e.val)) = l.map (fun p => (kf p.1, vf p.2))) : es.map (·.key) = (l.map (·.1)).map kf := by
  have := congrArg (List.map (·.1)) h
  simpa [List.map_map, Function.comp_def] using this
theorem ent_get {es : List MapEntry} {l : List (κ × β)} (h : es.map (fun e => (e.key, e.val)) = l.map (fun p => (kf p.1, vf p.2))) (i : Nat) : (es[i]?).map (fun e => (e.key, e.val)) = (l[i]?).map (fun p => (kf p.1, vf p.2)) := by
  have := congrArg (fun x => x[i]?) h
  simpa using this
theorem midx_eq (l : List (κ × β)) (k : κ) : (l.map (·.1)).findIdx? (fun x => decide (x = k)) = midx l k := by
  unfold midx; rw [List.findIdx?_map]; rfl
theorem midx_lt {l : List (κ × β)} {k : κ} {i : Nat} (h : midx l k = some i) : i < l.length := (List.findIdx?_eq_some_iff_getElem.1 h).1
theorem run_find {kt : TypeId} (hk : KeyOK P kt kf) {es : List MapEntry} (h : es.map (fun e => (e.key, e.val)) = l.map (fun p => (kf p.1, vf p.2))) (k : κ) (w : World) :
    (Instr.findKey kt (kf k) es).run P w = .ok ((midx l k).bind fun i => (l[i]?).map fun p => (i, vf p.2)) w := by
  have h1 := hk.find k es (l.map (·.1)) (ent_keys h) w
  rw [midx_eq] at h1
  rw [h1]
  congr 1
  cases midx l k with
  | none => rfl
  | some i =>
    have := ent_get h i
    simp only [Option.bind_some]
    cases h2 : es[i]? with
    | none => rw [h2] at this; cases h3 : l[i]? with
      | none => rfl
      | some p => rw [h3] at this; cases this
    | some e => rw [h2] at this; cases h3 : l[i]? with
      | none => rw [h3] at this; cases this
      | some p =>
        rw [h3] at this
        simp only [Option.map_some, Option.some.injEq, Prod.mk.injEq] at this
        simp [this.2]
theorem run_lookup {t kt el : TypeId} {sz by' : Nat} {z : Value} {ag ok : Bool} (hu : P.underlying t = some (.map kt el)) (ht : TI P el sz by' z ag) (hk : KeyOK P kt kf) (k : κ) (x : Ext G (hmap kf vf r l) R) {w : World} (hw : Sat W0 G w) :
    (Instr.lookup t (.map (some r)) (kf k) ok).run P w = .ok (bif ok then .tuple #[((mget l k).map vf).getD z, .bool (mget l k).isSome] else ((mget l k).map vf).getD z) w := by
  obtain ⟨hn, es, clock, h1, h2⟩ := hmap_get x hw
  unfold Instr.lookup
  show ((underlying t).bind _).run P w = _
  rw [run_bind_ok (run_underlying hu w)]
  simp only []
  show ((getObj r).bind _).run P w = _
  rw [run_bind_ok (show (getObj r).run P w = .ok (.map es clock) w by simp [getObj, Sem.run, h1])]
  simp only []
  show ((Instr.checkKey es.isEmpty 10000 kt (kf k)).bind _).run P w = _
  rw [run_bind_ok (hk.check _ k w)]
  show ((Instr.findKey kt (kf k) es.toList).bind _).run P w = _
  rw [run_bind_ok (run_find hk h2 k w)]
  unfold mget
  cases hm : midx l k with
  | none =>
    simp only [Option.bind_none]
    show ((zeroValue el).bind _).run P w = _
    rw [run_bind_ok (ht.run_zero w)]
    cases ok <;> rfl
  | some i =>
    have hi := midx_lt hm
    simp only [Option.bind_some, List.getElem?_eq_getElem hi, Option.map_some]
    cases ok <;> rfl
theorem Yield.lookup {t kt el : TypeId} {x' ix : Operand} {sz by' : Nat} {z : Value} {ag ok : Bool} (kf : κ → Value) (vf : β → Value) (hu : P.underlying t = some (.map kt el)) (ht : TI P el sz by' z ag) (hk : KeyOK P kt kf) (k : κ) (hx : e.ev x' = some (.map (some r))) (hi : e.ev ix = some (kf k)) (x : Ext G (hmap kf vf r l) R) :
    Yield P W0 (.lookup t x' ix ok) ty e G (bif ok then .tuple #[((mget l k).map vf).getD z, .bool (mget l k).isSome] else ((mget l k).map vf).getD z) := fun ρ hρ w hw _ _ _ _ => by
  show ((Instr.lookup t (ρ x') (ρ ix) ok).bind _).run P w = _
  rw [hρ x' _ hx, hρ ix _ hi, run_bind_ok (run_lookup hu ht hk k x hw)]; rfl
end
end
end Go.Sl
/- From a law's call to its row: what the arguments read as, and that they read as they did. No program in sight. -/
namespace Go.Sl
open Go Go.RowKit Go.ChangeShapes Go.WideShapes

/-- What is read at type t in the world W (with its weights within the reach) has cells that meet R. -/
def Opn (P : Program) (W : World) (t : TypeId) (R : List Value → Prop) : Prop :=
  ∀ (H : Type) (enc : TypeId × Value → H) (n : Nat) (cs : List Value) (x : DataW H × List MemPlace), DataW.trod enc P W 0 (fun _ => true) true n t cs = some x → (∀ k ∈ x.1.weights P t, k ≤ reachBytes) → R cs

section
variable {P : Program} {W : World}

theorem Opn.int {t : TypeId} {k : IntKind} (hu : P.underlying t = some (.int k)) : Opn P W t (fun cs => ∃ n, cs = [.int k n] ∧ (Lit.int k n).wf = true) := fun H enc n cs x h _ => by
  obtain ⟨n, h1, _, h2⟩ := DataW.trod_int hu h
  exact ⟨n, h1, h2⟩
theorem Opn.bool {t : TypeId} (hu : P.underlying t = some .bool) : Opn P W t (fun cs => ∃ b, cs = [.bool b]) := fun H enc n cs x h _ => by
  obtain ⟨b, h1, _⟩ := DataW.trod_bool hu h
  exact ⟨b, h1⟩
theorem Opn.mono {t : TypeId} {R R' : List Value → Prop} (h : Opn P W t R) (hr : ∀ cs, R cs → R' cs) : Opn P W t R' := fun H enc n cs x h1 h2 => hr _ (h H enc n cs x h1 h2)

theorem flatten_get {sz : Nat} : ∀ {els : List (List Value)}, (∀ l ∈ els, l.length = sz) → ∀ {i j : Nat}, j < sz → els.flatten[i * sz + j]? = (els[i]?).bind (·[j]?)
  | [], _, i, j, hj => by simp
  | l :: els, h, i, j, hj => by
    have hl : l.length = sz := h l (by simp)
    rw [List.flatten_cons]
    cases i with
    | zero => rw [List.getElem?_append_left (by omega)]; simp
    | succ i =>
      rw [List.getElem?_append_right (by rw [hl, Nat.succ_mul]; omega), hl, Nat.succ_mul, show i * sz + sz + j - sz = i * sz + j by omega, flatten_get (fun m hm => h m (by simp [hm])) hj]
      simp
theorem flatten_len {sz : Nat} : ∀ {els : List (List Value)}, (∀ l ∈ els, l.length = sz) → els.flatten.length = els.length * sz
  | [], _ => by simp
  | l :: els, h => by
    rw [List.flatten_cons, List.length_append, flatten_len (fun m hm => h m (by simp [hm])), h l (by simp), List.length_cons, Nat.succ_mul]; omega

theorem mapM_range {α : Type} {f : Nat → Option α} : ∀ {n : Nat} {l : List α}, (List.range n).mapM f = some l → l.length = n ∧ ∀ i, i < n → f i = l[i]? := by
  intro n l h
  have h1 : l.length = n := by simpa using mapM_some_length h
  refine ⟨h1, fun i hi => ?_⟩
  have := mapM_some_get h i i (by simp [hi])
  exact this

theorem Opn.slice {t e sz by' : Nat} {R : List Value → Prop} (hu : P.underlying t = some (.slice e)) (hsz : P.cellsOf e = sz) (h0 : 0 < sz) (hby : P.bytesOf e = by') (he : Opn P W e R) :
    Opn P W t (fun cs => ∃ a m c, ∃ els : List (List Value), cs = [.slice a m c] ∧ m ≤ c ∧ els.length = m ∧ (∀ l ∈ els, l.length = sz ∧ R l) ∧ SlAt W sz a m els.flatten ∧ m * by' ≤ reachBytes) := fun H enc n cs x h hw => by
  rcases DataW.trod_slice hu h with ⟨rfl, rfl⟩ | ⟨a, len, cap, elems, rest, n', rfl, rfl, rfl, hb, hl, hm, hlen, hel, hsp, hns⟩
  · exact ⟨none, 0, 0, [], rfl, Nat.le_refl _, rfl, by simp, ⟨by simp, .inl rfl⟩, by simp⟩
  · have hwt : (elems.length + rest.length) * by' ≤ reachBytes := by
      have := hw ((elems.length + rest.length) * P.bytesOf e) (by simp [DataW.weights, hu])
      rw [hby] at this; exact this
    have hwe : ∀ y ∈ elems, ∀ k ∈ y.1.weights P e, k ≤ reachBytes := by
      intro y hy k hk
      refine hw k ?_
      simp only [DataW.weights, hu, List.mem_cons, List.mem_append]
      right; left
      have : ∀ (ys : List (DataW H × List MemPlace)), y ∈ ys → k ∈ DataW.weightsAll P e (ys.map (·.1)) := by
        intro ys
        induction ys with
        | nil => intro h; cases h
        | cons z ys ih =>
          intro h
          simp only [List.map_cons, DataW.weightsAll, List.mem_append]
          rcases List.mem_cons.1 h with rfl | h
          · exact .inl hk
          · exact .inr (ih h)
      exact this elems hy
    have hcell : ∀ i, i < len → ∃ l, W.cells? 0 (a.add (i * sz)) sz = some l ∧ R l := by
      intro i hi
      have h1 := hel i hi
      rw [hsz] at h1
      have h2 : elems[i]? = some elems[i] := by simp [hlen, hi]
      rw [h2] at h1
      obtain ⟨l, hl1, hl2⟩ := Option.bind_eq_some_iff.1 h1
      exact ⟨l, hl1, he H enc n' l _ hl2 (hwe _ (List.getElem_mem (by omega)))⟩
    let els := (List.range len).map fun i => (W.cells? 0 (a.add (i * sz)) sz).getD []
    have hels : ∀ i, i < len → ∃ l, W.cells? 0 (a.add (i * sz)) sz = some l ∧ els[i]? = some l ∧ R l := by
      intro i hi
      obtain ⟨l, h1, h2⟩ := hcell i hi
      exact ⟨l, h1, by simp [els, hi, h1], h2⟩
    have hll : ∀ l ∈ els, l.length = sz ∧ R l := by
      intro l hl
      obtain ⟨i, hi, rfl⟩ := List.mem_map.1 hl
      have hi' : i < len := by simpa using hi
      obtain ⟨l, h1, h2⟩ := hcell i hi'
      rw [h1]
      refine ⟨?_, h2⟩
      unfold World.cells? at h1
      rw [if_pos (Nat.zero_le _)] at h1
      exact (mapM_range h1).1
    refine ⟨some a, len, cap, els, rfl, hl, by simp [els], hll, ⟨?_, ?_⟩, ?_⟩
    · rw [flatten_len (fun l h => (hll l h).1)]; simp [els]
    · by_cases hz : len = 0
      · subst hz; left; simp [els]
      · right
        have hspot : a.spot = none := by
          obtain ⟨l, h1, _⟩ := hcell 0 (by omega)
          unfold World.cells? at h1
          rw [if_pos (Nat.zero_le _)] at h1
          obtain ⟨q1, q2⟩ := mapM_range h1
          have h2 := q2 0 h0
          have h3 : l[0]? = some l[0] := by simp [q1, h0]
          rw [h3] at h2
          cases hs : a.spot with
          | none => rfl
          | some s =>
            exfalso
            have e1 : (a.add (0 * sz)).add 0 = a := by simp [Addr.add]
            rw [e1] at h2
            unfold World.cell? at h2
            split at h2
            · simp [hs] at h2
            · cases h2
        obtain ⟨b, o, sp⟩ := a
        simp only at hspot
        subst hspot
        refine ⟨b, o, rfl, fun q v hq => ?_⟩
        have hlen2 : els.flatten.length = len * sz := by rw [flatten_len (fun l h => (hll l h).1)]; simp [els]
        have hq2 := le_of_get hq
        rw [hlen2] at hq2
        have hi : q / sz < len := Nat.div_lt_of_lt_mul (by rw [Nat.mul_comm]; exact hq2)
        have hj : q % sz < sz := Nat.mod_lt _ h0
        have hqe : q = q / sz * sz + q % sz := by rw [Nat.mul_comm]; exact (Nat.div_add_mod q sz).symm
        obtain ⟨l, h1, h2, _⟩ := hels (q / sz) hi
        rw [hqe, flatten_get (fun l h => (hll l h).1) hj, h2] at hq
        simp only [Option.bind_some] at hq
        unfold World.cells? at h1
        rw [if_pos (Nat.zero_le _)] at h1
        have h3 := (mapM_range h1).2 (q % sz) hj
        rw [hq, add_at, add_at, Nat.add_assoc, ← hqe] at h3
        exact h3
    · have : len * by' ≤ (elems.length + rest.length) * by' := Nat.mul_le_mul_right _ (by omega)
      omega

theorem Opn.struct {t : TypeId} {fs : Array Field} {Rs : Nat → List Value → Prop} (hu : P.underlying t = some (.struct fs)) (h : ∀ i f, fs[i]? = some f → Opn P W f.type (Rs i)) :
    Opn P W t (fun cs => cs.length = P.cellsOf t ∧ ∀ i f, fs[i]? = some f → Rs i ((cs.drop f.offset).take (P.cellsOf f.type))) := fun H enc n cs x hx hw => by
  obtain ⟨xs, n', rfl, rfl, hl, hxl, hf⟩ := DataW.trod_struct hu hx
  refine ⟨hl, fun i f hi => ?_⟩
  have h1 := hf i f hi
  have hlt : i < fs.size := by
    rcases Nat.lt_or_ge i fs.size with q | q
    · exact q
    · rw [Array.getElem?_eq_none q] at hi; cases hi
  have h2 : xs[i]? = some xs[i] := by simp [hxl, hlt]
  rw [h2] at h1
  refine h i f hi H enc n' _ _ h1 (fun k hk => hw k ?_)
  simp only [DataW.weights, hu]
  have hmem : ∀ (ts : List TypeId) (ds : List (DataW H)) (i : Nat) (t : TypeId) (d : DataW H), ts[i]? = some t → ds[i]? = some d → k ∈ d.weights P t → k ∈ DataW.weightsEach P ts ds := by
    intro ts
    induction ts with
    | nil => intro ds i t d h; simp at h
    | cons t' ts ih =>
      intro ds i t d h1 h2 h3
      cases ds with
      | nil => simp at h2
      | cons d' ds =>
        simp only [DataW.weightsEach, List.mem_append]
        cases i with
        | zero => simp at h1 h2; subst h1 h2; exact .inl h3
        | succ i => exact .inr (ih ds i t d (by simpa using h1) (by simpa using h2) h3)
  exact hmem (fs.toList.map (·.type)) (xs.map (·.1)) i f.type xs[i].1 (by
    rw [List.getElem?_map, Array.getElem?_toList, hi]; rfl) (by rw [List.getElem?_map, h2]; rfl) hk

/-- The fields of a struct, one behind another. -/
def OpnF (P : Program) (W : World) (l : List (Nat × Nat × Nat)) (p : Nat) (Q : List Value → Prop) : Prop :=
  ∀ cs : List Value, cs.length = p + (l.map (·.2.2)).sum → (∀ q ∈ l, ∃ (H : Type) (enc : TypeId × Value → H) (n : Nat) (x : DataW H × List MemPlace), DataW.trod enc P W 0 (fun _ => true) true n q.1 ((cs.drop q.2.1).take q.2.2) = some x ∧ ∀ k ∈ x.1.weights P q.1, k ≤ reachBytes) → Q (cs.drop p)
theorem OpnF.nil {p : Nat} : OpnF P W [] p (fun cs => cs = []) := fun cs h _ => by simp at h; exact List.drop_eq_nil_of_le (by omega)
theorem OpnF.cons {t p s : Nat} {l : List (Nat × Nat × Nat)} {R Q : List Value → Prop} (h : Opn P W t R) (k : OpnF P W l (p + s) Q) : OpnF P W ((t, p, s) :: l) p (fun cs => ∃ a b, cs = a ++ b ∧ a.length = s ∧ R a ∧ Q b) := fun cs hl hq => by
  simp only [List.map_cons, List.sum_cons] at hl
  refine ⟨(cs.drop p).take s, cs.drop (p + s), ?_, by simp; omega, ?_, k cs (by omega) (fun q hq' => hq q (by simp [hq']))⟩
  · rw [← List.drop_drop, List.take_append_drop]
  · obtain ⟨H, enc, n, x, h1, h2⟩ := hq (t, p, s) (by simp)
    exact h H enc n _ x h1 h2
theorem Opn.of_fields {t : TypeId} {fs : Array Field} {l : List (Nat × Nat × Nat)} {Q : List Value → Prop} (hu : P.underlying t = some (.struct fs)) (hl : (fs.toList.map fun f => (f.type, f.offset, P.cellsOf f.type)) = l) (hsz : P.cellsOf t = (l.map (·.2.2)).sum) (h : OpnF P W l 0 Q) : Opn P W t Q := fun H enc n cs x hx hw => by
  obtain ⟨xs, n', rfl, rfl, hlen, hxl, hf⟩ := DataW.trod_struct hu hx
  have hq := h cs (by omega) ?_
  · simpa using hq
  intro q hq
  subst hl
  obtain ⟨i, hi, rfl⟩ := List.getElem_of_mem hq
  have hi' : i < fs.size := by simpa using hi
  have hfi : fs[i]? = some fs[i] := by simp [hi']
  have h1 := hf i fs[i] hfi
  have h2 : xs[i]? = some xs[i] := by simp [hxl, hi']
  rw [h2] at h1
  refine ⟨H, enc, n', xs[i], by simpa using h1, fun k hk => hw k ?_⟩
  simp only [DataW.weights, hu]
  have hmem : ∀ (ts : List TypeId) (ds : List (DataW H)) (i : Nat) (t : TypeId) (d : DataW H), ts[i]? = some t → ds[i]? = some d → k ∈ d.weights P t → k ∈ DataW.weightsEach P ts ds := by
    intro ts
    induction ts with
    | nil => intro ds i t d h; simp at h
    | cons t' ts ih =>
      intro ds i t d h1 h2 h3
      cases ds with
      | nil => simp at h2
      | cons d' ds =>
        simp only [DataW.weightsEach, List.mem_append]
        cases i with
        | zero => simp at h1 h2; subst h1 h2; exact .inl h3
        | succ i => exact .inr (ih ds i t d (by simpa using h1) (by simpa using h2) h3)
  refine hmem (fs.toList.map (·.type)) (xs.map (·.1)) i fs[i].type xs[i].1 (by
    rw [List.getElem?_map, Array.getElem?_toList, hfi]; rfl) (by rw [List.getElem?_map, h2]; rfl) ?_
  simpa using hk

/-- A parameter that is a slice. -/
theorem Opn.param {r : Reach} {H : Type} {enc : TypeId × Value → H} {b0 : Nat} {t e : TypeId} {v : Value} {d : DataW H} {ps : List MemPlace} {R : List Value → Prop} (hu : P.underlying t = some (.slice e)) (ho : Opn P W t R) (hval : Value.okWide P W r b0 t v)
    (hd : DataW.Trod enc P W 0 (fun _ => true) true t v d ps) (hw : ∀ k ∈ d.weights P t, k ≤ reachBytes) : R [v] := by
  obtain ⟨a, m, c, rfl⟩ := okWide_slice hu hval
  obtain ⟨n, hn⟩ := hd
  exact ho H enc n _ _ hn hw
theorem SlAt.old {sz : Nat} {a : Option Addr} {m : Nat} {xs : List Value} {G R : List HProp} (h : SlAt W sz a m xs) (x : Ext G (old W) R) : SlR W G sz a m xs := fun w hw => by
  obtain ⟨h1, h2⟩ := h
  refine ⟨h1, ?_⟩
  rcases h2 with h2 | ⟨b, o, ha, h2⟩
  · exact .inl h2
  · exact .inr ⟨b, o, ha, fun i v hi => Cel.of_old x (h2 i v hi) w hw⟩

/-- Bytes: cells that are bytes. -/
theorem bytes_of : ∀ {els : List (List Value)}, (∀ l ∈ els, l.length = 1 ∧ ∃ n, l = [Value.int .u8 n] ∧ (Lit.int .u8 n).wf = true) → ∃ bs : List UInt8, els.flatten = bytesV bs
  | [], _ => ⟨[], rfl⟩
  | l :: els, h => by
    obtain ⟨bs, hb⟩ := bytes_of (els := els) (fun m hm => h m (by simp [hm]))
    obtain ⟨_, n, rfl, hw⟩ := h l (by simp)
    refine ⟨UInt8.ofNat n.toNat :: bs, ?_⟩
    have hn : 0 ≤ n ∧ n ≤ 255 := by simpa [Lit.wf, IntKind.min, IntKind.max, IntKind.signed, IntKind.bits] using hw
    rw [List.flatten_cons, hb]
    simp only [bytesV, List.map_cons, byteV, List.singleton_append, List.cons.injEq, Value.int.injEq, true_and, and_true]
    rw [UInt8.toNat_ofNat']; omega
theorem Opn.bytes {t e : Nat} (hu : P.underlying t = some (.slice e)) (hue : P.underlying e = some (.int .u8)) (hsz : P.cellsOf e = 1) (hby : P.bytesOf e = 1) :
    Opn P W t (fun cs => ∃ a c, ∃ bs : List UInt8, cs = [.slice a bs.length c] ∧ bs.length ≤ c ∧ SlAt W 1 a bs.length (bytesV bs) ∧ bs.length ≤ reachBytes) :=
  (Opn.slice hu hsz (by decide) hby (Opn.int hue)).mono fun cs ⟨a, m, c, els, h1, h2, h3, h4, h5, h6⟩ => by
    obtain ⟨bs, hb⟩ := bytes_of h4
    have hm : m = bs.length := by
      have := h5.1
      rw [hb, bytesV_length] at this; omega
    subst hm
    exact ⟨a, c, bs, h1, h2, by rw [← hb]; exact h5, by omega⟩
/-- From 'each element is f of something' to a list of those. -/
theorem list_choose {α β : Type} {f : β → α} {Q : β → Prop} : ∀ {l : List α}, (∀ x ∈ l, ∃ y, x = f y ∧ Q y) → ∃ ys : List β, l = ys.map f ∧ ∀ y ∈ ys, Q y
  | [], _ => ⟨[], rfl, by simp⟩
  | x :: l, h => by
    obtain ⟨y, rfl, hy⟩ := h x (by simp)
    obtain ⟨ys, rfl, hys⟩ := list_choose (l := l) (fun z hz => h z (by simp [hz]))
    exact ⟨y :: ys, rfl, by intro z hz; rcases List.mem_cons.1 hz with rfl | hz; exact hy; exact hys z hz⟩
/-- A slice of records. -/
theorem Opn.recs {α : Type} {f : α → List Value} {OK : α → Prop} {t e sz by' : Nat} (hu : P.underlying t = some (.slice e)) (hsz : P.cellsOf e = sz) (h0 : 0 < sz) (hby : P.bytesOf e = by') (he : Opn P W e (fun cs => ∃ x, cs = f x ∧ OK x)) :
    Opn P W t (fun cs => ∃ a c, ∃ xs : List α, cs = [.slice a xs.length c] ∧ xs.length ≤ c ∧ (∀ x ∈ xs, OK x) ∧ SlAt W sz a xs.length ((xs.map f).flatten) ∧ xs.length * by' ≤ reachBytes) :=
  (Opn.slice hu hsz h0 hby he).mono fun cs ⟨a, m, c, els, h1, h2, h3, h4, h5, h6⟩ => by
    obtain ⟨xs, rfl, hxs⟩ := list_choose (l := els) (f := f) (Q := OK) (fun l hl => (h4 l hl).2)
    have : xs.length = m := by simpa using h3
    subst this
    exact ⟨a, c, xs, h1, h2, hxs, h5, h6⟩
theorem weights_mem {H : Type} {k : Nat} : ∀ {ts : List TypeId} {ds : List (DataW H)} (i : Nat) {t : TypeId} {d : DataW H}, ts[i]? = some t → ds[i]? = some d → k ∈ d.weights P t → k ∈ DataW.weightsEach P ts ds
  | [], _, i, _, _, h, _, _ => by simp at h
  | t' :: ts, [], i, _, _, _, h, _ => by simp at h
  | t' :: ts, d' :: ds, 0, _, _, h1, h2, h3 => by
    simp only [List.getElem?_cons_zero, Option.some.injEq] at h1 h2
    subst h1 h2; simp only [DataW.weightsEach, List.mem_append]; exact .inl h3
  | t' :: ts, d' :: ds, i + 1, _, _, h1, h2, h3 => by
    simp only [DataW.weightsEach, List.mem_append]
    exact .inr (weights_mem i (by simpa using h1) (by simpa using h2) h3)
theorem weights_le {H : Type} {ts : List TypeId} {ds : List (DataW H)} (h : (DataW.weightsEach P ts ds).all (· ≤ reachBytes) = true) (i : Nat) {t : TypeId} {d : DataW H} (h1 : ts[i]? = some t) (h2 : ds[i]? = some d) : ∀ k ∈ d.weights P t, k ≤ reachBytes := fun k hk => by
  have := List.all_eq_true.1 h k (weights_mem i h1 h2 hk)
  simpa using this
theorem params_ok {ts : Array TypeId} (h : (ts.toList.all fun t => P.readableRec t && decide (t < P.types.size)) = true) : ∀ t ∈ ts.toList, P.readableRec t = true ∧ t < P.types.size := fun t ht => by
  have := List.all_eq_true.1 h t ht
  simpa using this

/-- What a law that returned true, and changed nothing that was there, owes its row. -/
theorem law_post {H : Type} {enc : TypeId × Value → H} {s : ChangeSpec} {f : Func} {apart : Bool} {W W' : World} {args : Array Value} {ds gs : List (DataW H)} {before : List MemPlace} {tb : TypeId}
    (hl : laidOutB P = true) (hr : ∀ t ∈ f.params.toList, P.readableRec t = true ∧ t < P.types.size) (hres : f.resultTypes = #[tb]) (hb : P.underlying tb = some .bool)
    (hW : DataW.Whole enc P f.params.toList s.vars apart W args.toList ds gs before) (hv : s.vars = []) (hfn : s.fn H (ds ++ gs) = { results := [.lit (.bool true)], args := ds }) (hbel : Below W.heap.size W W') :
    s.post enc P f apart true false false W args (.bool true) W' := by
  have hW' := hW
  obtain ⟨p, q, hA, hV, rfl, hfz, hnd⟩ := hW
  rw [hv] at hV
  obtain ⟨rfl, rfl⟩ := trodVars_none hV
  have hstay : ∀ (ts : List TypeId) (vs : List Value) (ds : List (DataW H)) (p : List MemPlace), (∀ t ∈ ts, P.readableRec t = true ∧ t < P.types.size) → (∀ m ∈ p, m.block < W.heap.size) →
      DataW.TrodAll enc P W 0 (fun _ => true) true ts vs ds p → DataW.TrodAll enc P W' 0 (fun b => decide (b < W.heap.size)) true ts vs ds p := by
    intro ts
    induction ts with
    | nil => intro vs ds p _ _ h; obtain ⟨rfl, rfl, rfl⟩ := trodAll_nil h; exact trodAll_mk0
    | cons t ts ih =>
      intro vs ds p ht hp h
      obtain ⟨v, vs', d, ds', p1, q1, rfl, rfl, rfl, h1, h2⟩ := trodAll_cons h
      refine trodAll_cons_mk ?_ (ih vs' ds' q1 (fun t ht' => ht t (by simp [ht'])) (fun m hm => hp m (by simp [hm])) h2)
      obtain ⟨r1, r2⟩ := ht t (by simp)
      exact Go.WideElems.Trod_stays hl r1 r2 h1 (fun m hm => hbel.same (hp m (by simp [hm]))) (fun m hm => by simpa using hp m (by simp [hm]))
  have hlt : ∀ m ∈ p, m.block < W.heap.size := fun m hm => hW'.lt m (by simp [hm])
  refine ⟨ds, [], p ++ [], [], p, [], hW', ?_, ?_, ?_, hbel.frame _, fun h => by cases h⟩
  · rw [hfn, hres]
    exact trodAll_mk1 (shut_bool hb _)
  · rw [hfn]; exact hstay _ _ _ _ hr hlt hA
  · rw [hfn, hv]; rfl
end
end Go.Sl
/- Arrays: cuts of an array, copies into a part, records written by fields. No program in sight. -/
namespace Go.Sl
open Go Go.RowKit
section
variable {P : Program} {W0 : World} {e : Env} {G R : List HProp} {ty : TypeId} {E sz : Nat} {a : Option Addr} {c m : Nat} {xs : List Value}

theorem zeroCells_flat {z : Array Value} {sz : Nat} (hz : z.size = sz) (q : Nat) : (Builtin.zeroCells z q).toList = (List.replicate q z.toList).flatten := by
  unfold Builtin.zeroCells
  simp only [Array.toList_map, Array.toList_range, hz]
  induction q with
  | zero => simp
  | succ q ih =>
    rw [List.replicate_succ', List.flatten_append, ← ih, Nat.succ_mul, List.range_add, List.map_append]
    congr 1
    simp only [List.map_map, List.flatten_cons, List.flatten_nil, List.append_nil]
    apply List.ext_getElem
    · simp [hz]
    · intro i h1 h2
      simp only [List.length_map, List.length_range] at h1
      simp only [List.getElem_map, List.getElem_range, Function.comp, Array.getElem_toList]
      have : (q * sz + i) % sz = i := by rw [Nat.mul_comm, Nat.mul_add_mod]; exact Nat.mod_eq_of_lt h1
      rw [this, getElem!_pos z i (by rw [hz]; exact h1)]
/-- One cell of one record written over. -/
theorem flat_setf {α : Type} {f : α → List Value} (hf : ∀ x, (f x).length = sz) {x y : α} {j : Nat} {v : Value} (hy : f y = (f x).set j v) (hj : j < sz) : ∀ {xs : List α} {i : Nat}, xs[i]? = some x → ((xs.map f).flatten).set (i * sz + j) v = ((xs.set i y).map f).flatten
  | [], i, h => by simp at h
  | z :: xs, 0, h => by
    simp only [List.getElem?_cons_zero, Option.some.injEq] at h
    subst h
    simp only [Nat.zero_mul, Nat.zero_add, List.set_cons_zero, List.map_cons, List.flatten_cons]
    rw [List.set_append_left _ _ (by rw [hf]; exact hj), hy]
  | z :: xs, i + 1, h => by
    have ih := flat_setf hf hy hj (xs := xs) (i := i) (by simpa using h)
    simp only [List.set_cons_succ, List.map_cons, List.flatten_cons]
    rw [← ih, List.set_append_right _ _ (by rw [hf, Nat.succ_mul]; omega), hf, show (i + 1) * sz + j - sz = i * sz + j by rw [Nat.succ_mul]; omega]
/-- A store into a field of a record in a slice of one's own. -/
theorem Eff.storeFld {α : Type} {fc' : α → List Value} {t : TypeId} {x y : Operand} {b o i : Nat} (j : Nat) {r r' : α} {rs : List α} {v : Value} {put : HProp → List HProp} {by' z ag} (hlen : ∀ x, (fc' x).length = sz) (hr : rs[i]? = some r) (hr' : fc' r' = (fc' r).set j v) (hj : j < sz) (ht : TI P t 1 by' z ag) (hx : e.ev x = some (.pointer (some ⟨b, o + i * sz + j, none⟩))) (hy : e.ev y = some v)
    (fc : Foc G (osl E sz (some ⟨b, o, none⟩) c m ((rs.map fc').flatten)) put) (h1 : one v = true) (hm : m = rs.length) : Eff P W0 (.store t x y) ty e G (fun _ : Unit => True) (fun _ => undef) (fun _ => put (osl E sz (some ⟨b, o, none⟩) c m (((rs.set i r').map fc').flatten))) := by
  subst hm
  have hi := (List.getElem?_eq_some_iff.1 hr).1
  have h := Eff.storeElem (P := P) (W0 := W0) (ty := ty) (i := i * sz + j) ht (by rw [hx, Nat.add_assoc]) hy fc h1 (by
    have : i * sz + sz ≤ rs.length * sz := by rw [← Nat.succ_mul]; exact Nat.mul_le_mul_right _ hi
    omega)
  rw [flat_setf hlen hr' hj hr] at h
  exact h
/-- A cut of an array that lies somewhere. -/
theorem Yield.slice_arr {t el : TypeId} {len : Nat} {x : Operand} {lo hi : Option Operand} {b o sz by' z ag} {l h : Int} (hu : P.underlying t = some (.array len el)) (ht : TI P el sz by' z ag) (hx : e.ev x = some (.pointer (some ⟨b, o, none⟩)))
    (hl : Bound e lo 0 l) (hh : Bound e hi len h) (h0 : 0 ≤ l) (h1 : l ≤ h) (h2 : h ≤ len) (h3 : l < len) : Yield P W0 (.slice t x lo hi none) ty e G (.slice (some ⟨b, o + l.toNat * sz, none⟩) (h.toNat - l.toNat) (len - l.toNat)) := fun ρ hρ w _ _ _ _ _ => by
  have hs : (Instr.sliceAt t (.pointer (some ⟨b, o, none⟩)) (lo.map ρ) (hi.map ρ) none).run P w = .ok (.slice (some ⟨b, o + l.toNat * sz, none⟩) (h.toNat - l.toNat) (len - l.toNat)) w := by
    unfold Instr.sliceAt
    show ((underlying t).bind _).run P w = _
    rw [run_bind_ok (run_underlying hu w)]
    simp only []
    show ((Instr.sureAddr _).bind _).run P w = _
    rw [run_bind_ok (show (Instr.sureAddr (.pointer (some ⟨b, o, none⟩))).run P w = .ok ⟨b, o, none⟩ w by rfl)]
    show ((Instr.sliceBounds _ _ _ _ _ _).bind _).run P w = _
    rw [run_bind_ok (run_sliceBounds hρ hl hh h0 h1 h2 w)]
    simp only []
    show ((sizeOf el).bind _).run P w = _
    rw [run_bind_ok (ht.run_size w)]
    rw [if_neg (by omega), add_at]
    rfl
  show ((Instr.sliceAt t (ρ x) (lo.map ρ) (hi.map ρ) ((Option.none : Option Operand).map ρ)).bind _).run P w = _
  rw [hρ x _ hx, Option.map_none, run_bind_ok hs]; rfl
theorem over_over {cs ys : List Value} {o k j : Nat} (h : (cs.drop o).take k = xs) (hj : j + ys.length ≤ k) (ho : o + k ≤ cs.length) : ((over cs (o + j) ys).drop o).take k = over xs j ys := by
  subst h
  unfold over
  have e0 : (cs.take (o + j)).length = o + j := by rw [List.length_take]; omega
  rw [List.append_assoc, List.drop_append, e0, show o - (o + j) = 0 by omega, List.drop_zero, List.drop_take, show o + j - o = j by omega, List.take_append, List.length_take, List.length_drop]
  have e1 : min j (cs.length - o) = j := by omega
  rw [e1, List.take_take, List.take_take, show min k j = j by omega, show min j k = j by omega, List.append_assoc]
  congr 1
  rw [List.take_append, List.take_of_length_le (by omega : ys.length ≤ k - j)]
  congr 1
  rw [List.drop_take, List.drop_drop]
  congr 1
  · omega
  · congr 1; omega
/-- copy into a part of a slice of one's own: the part's cells are one each. -/
theorem Eff.copyIn {x y : Operand} {st st2 el : TypeId} {a2 : Option Addr} {b o j n cn k c2 by' : Nat} {z : Value} {ag : Bool} {ys : List Value} {put : HProp → List HProp} {ats : Array TypeId}
    (hx : e.ev x = some (.slice (some ⟨b, o + j, none⟩) n cn)) (hy : e.ev y = some (.slice a2 k c2)) (hats : ats = #[st, st2]) (hu : P.underlying st = some (.slice el)) (ht : TI P el 1 by' z ag)
    (fc : Foc G (osl E sz (some ⟨b, o, none⟩) c m xs) put) (hj : j + n ≤ m * sz) (hr : SlR W0 G 1 a2 k ys) (hone : ∀ v ∈ ys, one v = true) :
    Eff P W0 (.call { callee := .builtin .copy, args := #[x, y], argTypes := ats }) ty e G (fun _ : Unit => True) (fun _ => .int .i64 (min k n : Nat)) (fun _ => put (osl E sz (some ⟨b, o, none⟩) c m (over xs j (ys.take (min k n))))) := fun ρ hρ w hw _ _ _ _ => by
  subst hats
  obtain ⟨R, hR⟩ := foc_ext fc
  have hy0 := hr w hw
  have hevs : e.evs [x, y] = some [.slice (some ⟨b, o + j, none⟩) n cn, .slice a2 k c2] := by simp only [Env.evs, hx, hy]
  obtain ⟨f, hf, hA⟩ := Sat.ext hR hw
  obtain ⟨h1, h2, h3⟩ := hA
  have hpre : ∀ (w' : World), ((Go.storeCells ⟨b, o + j, none⟩ (ys.take (min k n))).run P w = .ok () w') →
      (Builtin.copy_ #[st, st2] ty #[.slice (some ⟨b, o + j, none⟩) n cn, .slice a2 k c2]).run P w = .ok (.int .i64 (min k n : Nat)) w' := by
    intro w' hst
    unfold Builtin.copy_
    simp only [List.getElem?_toArray, List.getElem?_cons_zero, List.getElem?_cons_succ]
    show ((underlying st).bind _).run P w = _
    rw [run_bind_ok (run_underlying hu w)]
    simp only [bind]
    rw [run_bind_ok (show (Builtin.lenOf (.slice a2 k c2)).run P w = .ok k w by rfl)]
    rw [run_bind_ok (ht.run_size w)]
    have hfc := run_firstCells_le (P := P) (cc := c2) hy0 (Nat.min_le_left k n)
    rw [Nat.mul_one] at hfc
    rw [run_bind_ok hfc]
    simp only []; rw [run_bind_ok hst]; rfl
  have hlen : (ys.take (min k n)).length = min k n := by
    rw [List.length_take, hy0.1]; omega
  have hcm : m * sz ≤ c * sz := Nat.mul_le_mul_right _ h2
  generalize hY : ys.take (min k n) = Y at *
  have hYone : ∀ v ∈ Y, one v = true := by rw [← hY]; exact fun v hv => hone v (List.mem_of_mem_take hv)
  rcases h3 with ⟨q, _⟩ | ⟨b', o', cs, fr, q, hbk, hfr, ho, htk⟩
  · cases q
  · cases q
    have hwb := hf _ _ hbk
    refine ⟨(), setObjW w b (.cells (over cs (o + j) Y).toArray E fr), trivial, ?_, .inl (run_built (s := Builtin.copy_ #[st, st2] ty #[.slice (some ⟨b, o + j, none⟩) n cn, .slice a2 k c2]) hρ hevs (fun _ => rfl) (hpre _ ?_))⟩
    · refine Sat.write (b := b) (o := .cells cs.toArray E fr) fc hw hwb ?_
      intro f' hle' hf'
      obtain ⟨h1', _, h3'⟩ := hf'
      rcases h3' with ⟨h, _⟩ | ⟨b', o', cs', fr', hq, hbk', _, _, htk'⟩
      · cases h
      · cases hq
        have hsame : some (Obj.cells cs'.toArray E fr') = some (Obj.cells cs.toArray E fr) := (hle' _ _ hbk').symm.trans hwb
        simp only [Option.some.injEq, Obj.cells.injEq] at hsame
        obtain ⟨q1, _, q3⟩ := hsame
        have q1 := List.toArray_inj q1
        subst q1 q3
        have hol : (over cs' (o + j) Y).length = cs'.length := over_length (by omega)
        refine ⟨hbk', ?_, h2, .inr ⟨b, o, over cs' (o + j) Y, fr', rfl, by simp [updH], by rw [hol]; exact hfr, by rw [hol]; exact ho, ?_⟩⟩
        · rw [over_length (by omega)]; exact h1
        · exact over_over htk (by omega) (by omega)
    · have := run_storeCells (P := P) (b := b) (o := o + j) (t := E) Y 0 w cs hwb hfr (by omega) hYone
      simpa using this
/-- A part of the bytes of a slice that may be read. -/
theorem SlR.part {b o i k : Nat} {ys : List Value} (s : SlR W0 G sz (some ⟨b, o, none⟩) m xs) (hy : (xs.drop i).take k = ys) (hk : i + k ≤ m * sz) : SlR W0 G 1 (some ⟨b, o + i, none⟩) k ys := fun w hw => by
  have h1 := (s w hw).1
  exact SlR.of_row (s.row i k hy) (by rw [← hy, List.length_take, List.length_drop]; omega) w hw
/-- A block as a slice over the whole of it. -/
theorem blk_osl {b n : Nat} {cs : List Value} (h : cs.length = n) (x : Heaplet) (hb : blk b cs E x) : osl E 1 (some ⟨b, 0, none⟩) n n cs x :=
  ⟨by omega, Nat.le_refl _, .inr ⟨b, 0, cs, (0, 0), rfl, hb, NoFr.zero _, by omega, by rw [List.drop_zero, ← h]; simp⟩⟩
/-- A contract said otherwise. -/
theorem Ctr.to {f : FuncId} {args : List Value} {α β : Type} {φ : α → Prop} {v : α → Value} {G' : α → List HProp} {ψ : β → Prop} {u : β → Value} {D : β → List HProp} (h : Ctr P W0 f args G φ v G') (g : α → β) (hφ : ∀ x, φ x → ψ (g x)) (hv : ∀ x, v x = u (g x)) (hG : ∀ x, Imp (G' x) (D (g x))) : Ctr P W0 f args G ψ u D := fun w hw =>
  (h w hw).mono fun r w' ⟨x, hx, hr, hs⟩ => ⟨g x, hφ x hx, by rw [hr, hv], hs.imp (hG x)⟩
/-- A cut that does not begin at the very end. -/
theorem Yield.slice_in {t el : TypeId} {x : Operand} {lo hi : Option Operand} {b o m c sz by' z ag} {l h : Int} (hu : P.underlying t = some (.slice el)) (ht : TI P el sz by' z ag) (hx : e.ev x = some (.slice (some ⟨b, o, none⟩) m c))
    (hl : Bound e lo 0 l) (hh : Bound e hi m h) (h0 : 0 ≤ l) (h1 : l ≤ h) (h2 : h ≤ c) (h3 : l < c) : Yield P W0 (.slice t x lo hi none) ty e G (.slice (some ⟨b, o + l.toNat * sz, none⟩) (h.toNat - l.toNat) (c - l.toNat)) := by
  have := Yield.slice (W0 := W0) (G := G) (ty := ty) hu ht hx hl hh h0 h1 h2
  rw [Option.map_some, show cutAt ⟨b, o, none⟩ l.toNat c sz = ⟨b, o + l.toNat * sz, none⟩ by unfold cutAt; rw [if_neg (by omega), add_at]] at this
  exact this
end
end Go.Sl
/- Lists of assertions in any order, one out of many, and code in a scope. No program in sight. -/
namespace Go.Sl
open Go Go.RowKit
theorem Imp.perm {L L' : List HProp} (h : L.Perm L') : Imp L L' := by
  induction h with
  | nil => exact Imp.refl _
  | cons x _ ih => exact Imp.cons ih
  | swap x y l => exact fun _ s => Sep.swap s
  | trans _ _ h1 h2 => exact Imp.trans h1 h2
theorem erase_perm {α : Type} {L : List α} {i : Nat} (hi : i < L.length) : (L[i] :: L.eraseIdx i).Perm L := by
  have e : L = L.take i ++ L[i] :: L.drop (i + 1) := by rw [← List.drop_eq_getElem_cons hi, List.take_append_drop]
  rw [List.eraseIdx_eq_take_drop_succ]
  conv => rhs; rw [e]
  exact List.perm_middle.symm
theorem star_take {L : List HProp} {G : List HProp} {i : Nat} {A : HProp} (h : L[i]? = some A) : Imp (Star L :: G) (A :: Star (L.eraseIdx i) :: G) := by
  obtain ⟨hi, rfl⟩ := List.getElem?_eq_some_iff.1 h
  refine Imp.trans star_open (Imp.trans (Imp.perm (L' := L[i] :: (L.eraseIdx i ++ G)) ?_) (Imp.cons star_close))
  exact ((erase_perm hi).symm).append_right G
theorem star_put {L : List HProp} {G : List HProp} {i : Nat} {A B : HProp} (h : L[i]? = some A) : Imp (B :: Star (L.eraseIdx i) :: G) (Star (L.set i B) :: G) := by
  obtain ⟨hi, rfl⟩ := List.getElem?_eq_some_iff.1 h
  refine Imp.trans (Imp.cons star_open) (Imp.trans (Imp.perm (L' := L.set i B ++ G) ?_) star_close)
  have hp := erase_perm (L := L.set i B) (i := i) (by simpa using hi)
  rw [List.getElem_set_self, List.eraseIdx_set_eq] at hp
  exact hp.append_right G
theorem star_add {L : List HProp} {G : List HProp} {A : HProp} : Imp (A :: Star L :: G) (Star (L ++ [A]) :: G) := by
  refine Imp.trans (Imp.cons star_open) (Imp.trans (Imp.perm (L' := (L ++ [A]) ++ G) ?_) star_close)
  rw [List.append_assoc]
  exact (List.perm_middle (a := A) (l₁ := L) (l₂ := G)).symm
theorem star_join {L M : List HProp} {G : List HProp} : Imp (Star L :: Star M :: G) (Star (L ++ M) :: G) := by
  refine Imp.trans (Imp.cons star_open) (Imp.trans star_open (Imp.trans ?_ star_close))
  rw [List.append_assoc]; exact Imp.refl _
theorem star_nil {G : List HProp} : Imp G (Star [] :: G) := star_close (D := [])
section
variable {P : Program} {W0 : World} {n : Nat} {ds : List Deferred} {Q : Exit → Act → World → Prop} {e : Env} {G R : List HProp}
/-- Bytes out of a list of bytes' blocks. -/
theorem RdB.of_star {L : List HProp} {E : Nat} {a : Option Addr} {c : Nat} {bs : List UInt8} (x : Ext G (Star L) R) (h : oby E a c bs ∈ L) : RdB W0 G a c bs := by
  obtain ⟨i, hi⟩ := List.getElem?_of_mem h
  exact RdB.imp (RdB.of_osl (G := oby E a c bs :: Star (L.eraseIdx i) :: R) Ext.here rfl rfl) (Imp.trans x.1 (star_take hi))
theorem CG.scope {c : Code} (k : CG none P W0 n ds c (Exit.noGoto Q) e G) : CG none P W0 n ds (.scope c) Q e G := fun a w ha hw => (wpIn_wide (n := 0)).2 (wp_scope_straight ((wpIn_wide (n := 0)).1 (k a w ha hw)))
theorem CG.label {r : Option Nat} {l : Nat} (k : QG W0 n ds Q .normal e G) : CG r P W0 n ds (.label l) Q e G := fun a w ha hw => wpIn_label (k a w ha hw)
theorem QG.scope_normal (k : QG W0 n ds Q .normal e G) : QG W0 n ds (Exit.noGoto Q) .normal e G := fun a w ha hw => k a w ha hw
theorem freeze_eq {w : World} {b k : Nat} {cs : Array Value} {t : TypeId} {fr : Nat × Nat} (h : w.heap[b]? = some (.cells cs t fr)) : w.freeze ⟨b, k, none⟩ 1 = setObjW w b (.cells cs t (if fr.1 == fr.2 then (k, k + 1) else (min fr.1 k, max fr.2 (k + 1)))) := by
  have hlt : b < w.heap.size := by
    rcases Nat.lt_or_ge b w.heap.size with h1 | h1
    · exact h1
    · rw [Array.getElem?_eq_none h1] at h; cases h
  unfold World.freeze setObjW
  rw [if_neg (by decide)]
  congr 1
  apply Array.ext_getElem?
  intro i
  simp only [Array.getElem?_modify, Array.getElem?_setIfInBounds]
  by_cases hi : b = i
  · subst hi
    rw [if_pos rfl, if_pos rfl, if_pos hlt, h]; rfl
  · rw [if_neg hi, if_neg hi]
/-- []byte of bytes: the same slice; the place behind its array is marked. -/
theorem Eff.convBytes {src el ty : TypeId} {x : Operand} {E sz b o m c : Nat} {xs : List Value} {put : HProp → List HProp} (hs : P.underlying src = some (.slice el)) (he : P.underlying el = some (.int .u8)) (hx : e.ev x = some (.slice (some ⟨b, o, none⟩) m c))
    (fc : Foc G (osl E sz (some ⟨b, o, none⟩) c m xs) put) : Eff P W0 (.convert src src x) ty e G (fun _ : Unit => True) (fun _ => .slice (some ⟨b, o, none⟩) m c) (fun _ => put (osl E sz (some ⟨b, o, none⟩) c m xs)) := fun ρ hρ w hw _ _ _ _ => by
  obtain ⟨R, hR⟩ := foc_ext fc
  obtain ⟨f, hf, q1, q2, q3⟩ := Sat.ext hR hw
  rcases q3 with ⟨q, _⟩ | ⟨b', o', cs, fr, q, hbk, hfr, ho, htk⟩
  · cases q
  · cases q
    have hwb : w.heap[b]? = some (Obj.cells cs.toArray E fr) := hf _ _ hbk
    have hrun : (convert src src (.slice (some ⟨b, o, none⟩) m c)).run P w = .ok (.slice (some ⟨b, o, none⟩) m c) (w.freeze ⟨b, cs.length, none⟩ 1) := by
      unfold convert
      show ((underlying src).bind _).run P w = _
      rw [run_bind_ok (run_underlying hs w)]
      show ((underlying src).bind _).run P w = _
      rw [run_bind_ok (run_underlying hs w)]
      simp only []
      show ((underlying el).bind _).run P w = _
      rw [run_bind_ok (run_underlying he w)]
      simp only [beq_self_eq_true]
      have hsh : w.shape? b = some (E, cs.length) := by unfold World.shape?; rw [hwb]; simp
      simp [markStringish, shape, freeze, Sem.run, bind, Sem.bind, pure, hsh]
    refine ⟨(), w.freeze ⟨b, cs.length, none⟩ 1, trivial, ?_, .inl ?_⟩
    · rw [freeze_eq hwb]
      refine Sat.write (b := b) (o := .cells cs.toArray E fr) fc hw hwb ?_
      intro f' hle' hf'
      obtain ⟨h1', _, h3'⟩ := hf'
      rcases h3' with ⟨h, _⟩ | ⟨b', o', cs', fr', hq, hbk', hfr', ho', htk'⟩
      · cases h
      · cases hq
        have hsame : some (Obj.cells cs'.toArray E fr') = some (Obj.cells cs.toArray E fr) := (hle' _ _ hbk').symm.trans hwb
        simp only [Option.some.injEq, Obj.cells.injEq] at hsame
        obtain ⟨p1, _, p3⟩ := hsame
        have p1 := List.toArray_inj p1
        subst p1 p3
        refine ⟨hbk', h1', q2, .inr ⟨b, o, cs', _, rfl, by simp [updH]; rfl, ?_, ho', htk'⟩⟩
        split
        · exact .inr (Nat.le_refl _)
        · rename_i hne
          refine .inr ?_
          rcases hfr' with hq | hq
          · exact absurd (by simpa using hq) hne
          · simp only; omega
    · show ((convert src src (ρ x)).bind _).run P w = _
      rw [hρ x _ hx, run_bind_ok hrun]; rfl
end
end Go.Sl
/- Results that are read out of a cell at the end. No program in sight. -/
namespace Go.Sl
open Go Go.RowKit
section
variable {P : Program} {W0 : World} {n : Nat} {e : Env} {G : List HProp}
theorem run_loadVar {t : TypeId} {a : Addr} {v : Value} {sz by' z} (ht : TI P t sz by' z false) {w : World} (hc : w.cell? a = some v) : (loadVar t a).run P w = .ok v w := by
  unfold loadVar
  show ((isAgg t).bind _).run P w = _
  rw [run_bind_ok (ht.run_agg w)]
  simp [Go.load, Sem.run, hc]
theorem run_loadVar_agg {t : TypeId} {b o : Nat} {vs : List Value} {sz by' z} (ht : TI P t sz by' z true) (hl : vs.length = sz) {w : World} (hc : ∀ j v, vs[j]? = some v → w.cell? ⟨b, o + j, none⟩ = some v) : (loadVar t ⟨b, o, none⟩).run P w = .ok (.agg vs.toArray) w := by
  unfold loadVar
  show ((isAgg t).bind _).run P w = _
  rw [run_bind_ok (ht.run_agg w)]
  simp only [if_true]
  show ((sizeOf t).bind _).run P w = _
  rw [run_bind_ok (ht.run_size w)]
  show ((loadCells _ _).bind _).run P w = _
  rw [run_bind_ok (run_loadCells hl hc)]
  rfl
/-- What a result is. -/
def ResP (P : Program) (W0 : World) (G : List HProp) (e : Env) : ResultVar → Value → Prop
  | .tmp t, v => e.get t = some v
  | .cell t ty, v => ∃ a, e.get t = some (.pointer (some a)) ∧ ∀ w, Sat W0 G w → (loadVar ty a).run P w = .ok v w
theorem ResP.tmp {t : Nat} {v : Value} (h : e.get t = some v) : ResP P W0 G e (.tmp t) v := h
theorem ResP.cell {t ty : Nat} {a : Addr} {v : Value} {sz by' z} (ht : TI P ty sz by' z false) (h : e.get t = some (.pointer (some a))) (hc : Cel W0 G a v) : ResP P W0 G e (.cell t ty) v := ⟨a, h, fun w hw => run_loadVar ht (hc w hw)⟩
theorem ResP.agg {t ty b o : Nat} {vs : List Value} {sz by' z} (ht : TI P ty sz by' z true) (h : e.get t = some (.pointer (some ⟨b, o, none⟩))) (hl : vs.length = sz) (hc : Row W0 G b o vs) : ResP P W0 G e (.cell t ty) (.agg vs.toArray) := ⟨_, h, fun w hw => run_loadVar_agg ht hl (fun j v hj => hc j v hj w hw)⟩
theorem run_res {r : ResultVar} {v : Value} {a : Act} {w : World} (h : ResP P W0 G e r v) (ha : At n [] e a) (hw : Sat W0 G w) : (match r with | .tmp t => (pure (a.tmps.getD t undef) : Sem Value) | .cell x t => (asAddr (a.tmps.getD x undef)).bind fun y => loadVar t y).run P w = .ok v w := by
  cases r with
  | tmp t => have := ha.slot t v h; simp only [this]; rfl
  | cell t ty =>
    obtain ⟨ad, h1, h2⟩ := h
    have := ha.slot t _ h1
    simp only [this]
    rw [run_bind_ok (show (asAddr (.pointer (some ad))).run P w = .ok ad w from rfl)]
    exact h2 w hw
theorem run_mapM {α β : Type} {f : α → Sem β} {w : World} : ∀ (xs : List α) (vs : List β) (acc : List β), xs.length = vs.length → (∀ (i : Nat) (x : α) (v : β), xs[i]? = some x → vs[i]? = some v → (f x).run P w = .ok v w) → (List.mapM.loop f xs acc).run P w = .ok (acc.reverse ++ vs) w
  | [], [], acc, _, _ => by simp [List.mapM.loop, pure, Sem.run]
  | [], _ :: _, acc, hl, _ => by simp at hl
  | _ :: _, [], acc, hl, _ => by simp at hl
  | x :: xs, v :: vs, acc, hl, h => by
    show ((f x).bind fun y => List.mapM.loop f xs (y :: acc)).run P w = _
    rw [run_bind_ok (h 0 x v rfl rfl), run_mapM xs vs (v :: acc) (by simpa using hl) (fun i a b ha hb => h (i + 1) a b (by simpa using ha) (by simpa using hb))]
    simp
/-- The results, one by one. -/
def ResL (P : Program) (W0 : World) (G : List HProp) (e : Env) : List ResultVar → List Value → Prop
  | [], [] => True
  | r :: rs, v :: vs => ResP P W0 G e r v ∧ ResL P W0 G e rs vs
  | _, _ => False
theorem ResL.get : ∀ {rs : List ResultVar} {vs : List Value}, ResL P W0 G e rs vs → rs.length = vs.length ∧ ∀ (i : Nat) (r : ResultVar) (v : Value), rs[i]? = some r → vs[i]? = some v → ResP P W0 G e r v
  | [], [], _ => ⟨rfl, fun i r v h _ => by simp at h⟩
  | r :: rs, v :: vs, h => by
    obtain ⟨h1, h2⟩ := ResL.get h.2
    refine ⟨by simp [h1], fun i r' v' hr hv => ?_⟩
    cases i with
    | zero => simp only [List.getElem?_cons_zero, Option.some.injEq] at hr hv; subst hr hv; exact h.1
    | succ i => exact h2 i r' v' (by simpa using hr) (by simpa using hv)
def valsV : List Value → Value
  | [v] => v
  | vs => .tuple vs.toArray
theorem run_results {fn : Func} {rs : List ResultVar} {vs : List Value} (hr : fn.results = rs.toArray) (h : ResL P W0 G e rs vs) {a : Act} {w : World} (ha : At n [] e a) (hw : Sat W0 G w) : (results fn a.tmps).run P w = .ok (valsV vs) w := by
  obtain ⟨hl, hg⟩ := h.get
  unfold results
  rw [hr, List.mapM_toArray]
  have h1 := run_mapM (P := P) (w := w) (f := fun r : ResultVar => (match r with | .tmp t => (pure (a.tmps.getD t undef) : Sem Value) | .cell x t => (asAddr (a.tmps.getD x undef)).bind fun y => loadVar t y)) rs vs [] hl (fun i r v q1 q2 => run_res (hg i r v q1 q2) ha hw)
  simp only [List.reverse_nil, List.nil_append] at h1
  have h2 : (List.toArray <$> List.mapM (fun r : ResultVar => (match r with | .tmp t => (pure (a.tmps.getD t undef) : Sem Value) | .cell x t => (asAddr (a.tmps.getD x undef)).bind fun y => loadVar t y)) rs).run P w = .ok vs.toArray w := by
    exact (run_bind_ok (f := fun x => Sem.pure x.toArray) h1).trans rfl
  refine (run_bind_ok h2).trans ?_
  cases vs with
  | nil => rfl
  | cons v vs => cases vs with
    | nil => rfl
    | cons u vs => simp [valsV, pure, Sem.run]
theorem QG.rets {fn : Func} {rs : List ResultVar} (us : List Value) {α : Type} {φ : α → Prop} {v : α → Value} {G' : α → List HProp} (hr : fn.results = rs.toArray) (h : ResL P W0 G e rs us) (x : α) (hx : φ x) (hv : v x = valsV us) (hi : Imp G (G' x)) : QG W0 n [] (bodyPost P fn (RetP W0 φ v G')) .ret e G := fun a w ha hw =>
  ⟨ha.defers, _, run_results hr h ha hw, x, hx, by rw [hv], hw.imp hi⟩
end
end Go.Sl
/- Function values: made, and called; a slice compared with nil. No program in sight. -/
namespace Go.Sl
open Go Go.RowKit
section
variable {P : Program} {W0 : World} {n : Nat} {ds : List Deferred} {ops : Array Oper} {Q : Exit → Act → World → Prop} {rest : List Oper} {e : Env} {G : List HProp} {ty : TypeId}
theorem Yield.makeFunc {f : FuncId} {first cap : List Operand} {fi ca : List Value} (h1 : e.evs first = some fi) (h2 : e.evs cap = some ca) : Yield P W0 (.makeFunc (.func f) first.toArray cap.toArray) ty e G (.func (.func f) fi.toArray ca.toArray) := fun ρ hρ w _ _ _ _ _ => by
  have e1 := hρ.evs h1
  have e2 := hρ.evs h2
  simp [execOp, Instr.makeFunc, e1, e2, pure, Sem.run, bind, Sem.bind]
theorem run_callv {f : FuncId} {fn : Func} {c : Code} (hf : P.funcs[f]? = some fn) (hb : fn.body = some c) (hn : (fn.name == "runtime.NumGoroutine") = false) {x : Operand} {fi ca : List Value}
    {args : List Operand} {vs : List Value} {ats : Array TypeId} {ρ : Operand → Value} (hρ : Agrees e ρ) (hx : e.ev x = some (.func (.func f) fi.toArray ca.toArray)) (ha : e.evs args = some vs) (w : World) (dst pos after guard) :
    (execOp ρ ⟨dst, .call { callee := .value x, args := args.toArray, argTypes := ats }, ty, pos, after, guard⟩).run P w = .ok (.enter f (fi ++ vs ++ ca).toArray) w := by
  have h1 : ρ x = .func (.func f) fi.toArray ca.toArray := hρ _ _ hx
  have h2 : args.map ρ = vs := hρ.evs ha
  have h3 := callFunc_run hf hb hn (fi ++ vs ++ ca).toArray w
  have h4 : (fi.toArray ++ (args.toArray.map ρ)) ++ ca.toArray = (fi ++ vs ++ ca).toArray := by rw [List.map_toArray, h2]; simp
  simp only [execOp, resolve, h1, Deferred.ofValue, bind, Sem.bind, pure, invoke, h4]
  exact h3
theorem OG.callv {d : Nat} {pos : String} {af : Array Edge} {x : Operand} {f : FuncId} {fi ca : List Value} {args : List Operand} {ats : Array TypeId} {vs : List Value} {G1 : List HProp} {α : Type} {φ : α → Prop} {v : α → Value} {G' : α → List HProp}
    (hc : CallOK P f) (hx : e.ev x = some (.func (.func f) fi.toArray ca.toArray)) (ha : e.evs args = some vs) (hi : Imp G G1) (hs : Ctr P W0 f (fi ++ vs ++ ca) G1 φ v G') (hd : Nat.ble (d + 1) n = true)
    (k : ∀ x, φ x → OG P W0 n ds ops Q rest ((d, v x) :: e) (G' x)) :
    OG P W0 n ds ops Q (⟨some d, .call { callee := .value x, args := args.toArray, argTypes := ats }, ty, pos, af, none⟩ :: rest) e G := fun a w hat hw => by
  obtain ⟨fn, c, hf, hb, hn⟩ := hc
  unfold wpL
  rw [if_pos (by simp [Region.wanted])]
  refine Or.inl ?_
  unfold Oper.wp
  rw [run_callv hf hb hn hat.agrees hx ha w, Oper.upon_enter]
  refine (hs w (hw.imp hi)).mono ?_
  rintro r w' ⟨x, hx, rfl, hs'⟩
  exact k x hx _ _ (hat.put (Nat.le_of_ble_eq_true hd)) hs'
theorem Chg.callv {effs lt : List Nat} {K L : List HProp} {i : Nat} {rel : Bool} {p : Plan} {dst : Option Nat} {pos : String} {af : Array Edge} {g : Option (Nat × Bool)} {x : Operand} {f : FuncId} {fi ca : List Value} {args : List Operand} {ats : Array TypeId} {vs : List Value} {G1 : List HProp} {α : Type} {φ : α → Prop} {v : α → Value} {G' K' : α → List HProp}
    (ho : ops[i]? = some ⟨dst, .call { callee := .value x, args := args.toArray, argTypes := ats }, ty, pos, af, g⟩) (hg : guardS ops e ⟨dst, .call { callee := .value x, args := args.toArray, argTypes := ats }, ty, pos, af, g⟩ = some true)
    (hc : CallOK P f) (hx : e.ev x = some (.func (.func f) fi.toArray ca.toArray)) (ha : e.evs args = some vs) (hi : Imp G G1) (hs : Ctr P W0 f (fi ++ vs ++ ca) G1 φ v G') (hd : fitsE n dst = true) (hk : ∀ x, Imp (G' x) (K' x)) (hk' : ∀ x, Imp (K' x) K) (hl : ∀ x, Imp (G' x) (relL rel L))
    (k : ∀ x, φ x → DG P W0 n ds ops effs lt Q p (putE e dst (v x)) (K' x) (relL rel L) (G' x)) : Chg P W0 n ds ops effs lt Q i rel p e K L G := by
  obtain ⟨fn, c, hf, hb, hn⟩ := hc
  refine ⟨_, ho, fun a hat w hw => ?_⟩
  unfold wpOp
  simp only [ho]
  rw [if_pos (guardS_spec hg hat)]
  refine .inl ?_
  unfold Oper.wp
  rw [run_callv hf hb hn hat.agrees hx ha w, Oper.upon_enter]
  refine (hs w (hw.imp hi)).mono ?_
  rintro r w' ⟨x, hx, rfl, hs'⟩
  exact ⟨_, _, _, hat.putE hd, hs', hk x, hk' x, hl x, k x hx⟩
theorem run_equal_sl {t el : TypeId} {a b : Option Addr} {m c m' c' : Nat} (hu : P.underlying t = some (.slice el)) (hb : b = none) (w : World) : (Op.equal t (.slice a m c) (.slice b m' c')).run P w = .ok a.isNone w := by
  subst hb
  show (Op.equalIn (9999 + 1) t _ _).run P w = _
  rw [Op.equalIn]
  show ((underlying t).bind _).run P w = _
  rw [run_bind_ok (run_underlying hu w)]
  cases a <;> rfl
theorem Yield.sl_nil {t t' el : TypeId} {x y : Operand} {a : Option Addr} {m c : Nat} (hu : P.underlying t = some (.slice el)) (hx : e.ev x = some (.slice a m c)) (hy : e.ev y = some (.slice none 0 0)) : Yield P W0 (.binOp .eql t x y t') ty e G (.bool a.isNone) := fun ρ hρ w _ _ _ _ _ => by
  refine run_eqOf (hρ x _ hx) (hρ y _ hy) rfl ?_
  show ((Op.equal t (.slice a m c) (.slice none 0 0)).bind _).run P w = _
  rw [run_bind_ok (run_equal_sl hu rfl w)]; rfl
end
end Go.Sl
/- Functions that return or panic, and deferred calls that recover. No program in sight. -/
namespace Go.Sl
open Go Go.RowKit
abbrev pnc (v : Value) : List PanicEntry := [{ v := v, recovered := false }]
/-- It returned, or it panicked. -/
def RetX (W0 : World) {α : Type} (φ : α → Prop) (v : α → Value) (G' : α → List HProp) {β : Type} (ψ : β → Prop) (p : β → Value) (H : β → List HProp) : Ending → World → Prop
  | .returned r, w => ∃ x, φ x ∧ r = v x ∧ Sat W0 (G' x) w
  | .panicked ch, w => ∃ y, ψ y ∧ ch = pnc (p y) ∧ Sat W0 (H y) w
  | .outgrown, _ => False
/-- A contract: f returns, or it panics. -/
def CtrX (P : Program) (W0 : World) (f : FuncId) (args : List Value) (G : List HProp) {α : Type} (φ : α → Prop) (v : α → Value) (G' : α → List HProp) {β : Type} (ψ : β → Prop) (p : β → Value) (H : β → List HProp) : Prop :=
  ∀ w, Sat W0 G w → Calls P f args.toArray w (RetX W0 φ v G' ψ p H)
section
variable {P : Program} {W0 : World} {n : Nat} {ds : List Deferred} {ops : Array Oper} {Q : Exit → Act → World → Prop} {rest : List Oper} {e : Env} {G : List HProp} {ty : TypeId}
theorem Ctr.x {f : FuncId} {args : List Value} {α : Type} {φ : α → Prop} {v : α → Value} {G' : α → List HProp} {β : Type} {ψ : β → Prop} {p : β → Value} {H : β → List HProp} (h : Ctr P W0 f args G φ v G') : CtrX P W0 f args G φ v G' ψ p H := fun w hw => (h w hw).mono fun r w' ⟨x, hx, hr, hs⟩ => by
  subst hr; exact ⟨x, hx, rfl, hs⟩
theorem CtrX.imp {f : FuncId} {args : List Value} {G1 : List HProp} {α : Type} {φ : α → Prop} {v : α → Value} {G' : α → List HProp} {β : Type} {ψ : β → Prop} {p : β → Value} {H : β → List HProp} (h : Imp G G1) (k : CtrX P W0 f args G1 φ v G' ψ p H) : CtrX P W0 f args G φ v G' ψ p H := fun w hw => k w (hw.imp h)
theorem CtrX.conv {f : FuncId} {args : List Value} {α α' : Type} {φ : α → Prop} {v : α → Value} {G' : α → List HProp} {β β' : Type} {ψ : β → Prop} {p : β → Value} {H : β → List HProp} {φ' : α' → Prop} {v' : α' → Value} {G'' : α' → List HProp} {ψ' : β' → Prop} {p' : β' → Value} {H' : β' → List HProp} (k : CtrX P W0 f args G φ v G' ψ p H)
    (h1 : ∀ x, φ x → ∃ y, φ' y ∧ v x = v' y ∧ Imp (G' x) (G'' y)) (h2 : ∀ x, ψ x → ∃ y, ψ' y ∧ p x = p' y ∧ Imp (H x) (H' y)) : CtrX P W0 f args G φ' v' G'' ψ' p' H' := fun w hw => (k w hw).mono fun r w' hr => by
  cases r with
  | returned r => obtain ⟨x, hx, rfl, hs⟩ := hr; obtain ⟨y, hy, e, hi⟩ := h1 x hx; exact ⟨y, hy, e, hs.imp hi⟩
  | panicked c => obtain ⟨x, hx, rfl, hs⟩ := hr; obtain ⟨y, hy, e, hi⟩ := h2 x hx; exact ⟨y, hy, by rw [e], hs.imp hi⟩
  | outgrown => exact hr
/-- It never panics. -/
theorem CtrX.only {f : FuncId} {args : List Value} {α : Type} {φ : α → Prop} {v : α → Value} {G' : α → List HProp} {β : Type} {ψ : β → Prop} {p : β → Value} {H : β → List HProp} (h : CtrX P W0 f args G φ v G' ψ p H) (hn : ∀ y, ¬ ψ y) : Ctr P W0 f args G φ v G' := fun w hw => (h w hw).mono fun r w' hr => by
  cases r with
  | returned r => obtain ⟨x, hx, rfl, hs⟩ := hr; exact ⟨x, hx, rfl, hs⟩
  | panicked c => obtain ⟨y, hy, _⟩ := hr; exact absurd hy (hn y)
  | outgrown => exact hr.elim
theorem CtrX.pure {f : FuncId} {args : List Value} {α : Type} {φ : α → Prop} {v : α → Value} {G' : α → List HProp} {β : Type} {ψ : β → Prop} {p : β → Value} {H : β → List HProp} {χ : Prop} (h : ∀ w, Sat W0 G w → χ) (k : χ → CtrX P W0 f args G φ v G' ψ p H) : CtrX P W0 f args G φ v G' ψ p H := fun w hw => k (h w hw) w hw
theorem OG.panic {x : Operand} {t : TypeId} {u : Value} {dst : Option Nat} {pos : String} {af : Array Edge} (hx : e.ev x = some (.iface t u)) (k : QG W0 n ds Q (.panic (pnc (.iface t u))) e G) : OG P W0 n ds ops Q (⟨dst, .panic x, ty, pos, af, none⟩ :: rest) e G := fun a w ha hw => by
  unfold wpL
  rw [if_pos (by simp [Region.wanted])]
  refine Or.inl ?_
  unfold Oper.wp
  have h1 : (execOp a.eval ⟨dst, .panic x, ty, pos, af, none⟩).run P w = .halt (.panic (.iface t u)) w := by
    simp [execOp, ha.agrees x _ hx, Instr.panic, goPanic, Sem.run, bind, Sem.bind]
  rw [h1]
  exact k a w ha hw
theorem OG.defer {x : Operand} {f : FuncId} {fi ca : List Value} {pos : String} {af : Array Edge} {args : List Operand} {ats : Array TypeId} {vs : List Value} (hx : e.ev x = some (.func (.func f) fi.toArray ca.toArray)) (ha : e.evs args = some vs)
    (k : OG P W0 n ({ target := .fn (.func f) ca.toArray, args := (fi ++ vs).toArray } :: ds) ops Q rest e G) : OG P W0 n ds ops Q (⟨none, .defer { callee := .value x, args := args.toArray, argTypes := ats }, ty, pos, af, none⟩ :: rest) e G := fun a w hat hw => by
  unfold wpL
  rw [if_pos (by simp [Region.wanted])]
  refine Or.inl ?_
  unfold Oper.wp
  have h2 : args.map a.eval = vs := hat.agrees.evs ha
  have h1 : (execOp a.eval ⟨none, .defer { callee := .value x, args := args.toArray, argTypes := ats }, ty, pos, af, none⟩).run P w = .ok (.defer { target := .fn (.func f) ca.toArray, args := (fi ++ vs).toArray }) w := by
    simp [execOp, resolve, hat.agrees x _ hx, Deferred.ofValue, Sem.run, bind, Sem.bind, Pure.pure, h2]
  rw [h1]
  exact k _ _ ⟨hat.size, hat.slot, by show _ :: a.defers = _; rw [hat.defers]⟩ hw
theorem CtrX.of_body {f : FuncId} {fn : Func} {c : Code} {args : List Value} {α : Type} {φ : α → Prop} {v : α → Value} {G' : α → List HProp} {β : Type} {ψ : β → Prop} {p : β → Value} {H : β → List HProp} (hf : P.funcs[f]? = some fn) (hb : fn.body = some c) (hn : fn.ntmps = n)
    (hl : Nat.ble args.length n = true) (k : CG none P W0 n [] c (bodyPost P fn (RetX W0 φ v G' ψ p H)) (env0 0 args) G) : CtrX P W0 f args G φ v G' ψ p H := fun w hw => by
  subst hn
  exact calls_of_wp hf hb ((wpIn_wide (n := 0)).1 (k _ w (At.start (Nat.le_of_ble_eq_true hl)) hw))
theorem QG.bx {fn : Func} {x : Exit} {α : Type} {φ : α → Prop} {v : α → Value} {G' : α → List HProp} {β : Type} {ψ : β → Prop} {p : β → Value} {H : β → List HProp} (k : QG W0 n ds (bodyPost P fn (RetP W0 φ v G')) x e G) : QG W0 n ds (bodyPost P fn (RetX W0 φ v G' ψ p H)) x e G := fun a w ha hw => by
  have h := k a w ha hw
  cases x with
  | normal => obtain ⟨h1, u, h2, y, h3, h4, h5⟩ := h; cases h4; exact ⟨h1, _, h2, y, h3, rfl, h5⟩
  | ret => obtain ⟨h1, u, h2, y, h3, h4, h5⟩ := h; cases h4; exact ⟨h1, _, h2, y, h3, rfl, h5⟩
  | panic c => obtain ⟨_, y, _, h4, _⟩ := h; cases h4
  | outgrown => obtain ⟨y, _, h4, _⟩ := h; cases h4
  | exit id => exact h.elim
  | goto l => exact h.elim
/-- What recover finds. -/
def rcvd : FrameMode → Option (Value × FrameMode)
  | .panicking ({ v, recovered := false, goexit := false } :: older) => some (v, .panicking ({ v, recovered := true } :: older))
  | .returning => some (.nilIface, .returning)
  | _ => none
/-- A contract of a deferred call: it returns, and leaves the mode u'. -/
def DCtr (P : Program) (W0 : World) (f : FuncId) (args : List Value) (u u' : FrameMode) (G : List HProp) {α : Type} (φ : α → Prop) (G' : α → List HProp) : Prop :=
  ∀ w, Sat W0 G w → CallsD P f args.toArray u w fun e v w' => ∃ x, φ x ∧ e = .returned (.tuple #[]) ∧ v = u' ∧ Sat W0 (G' x) w'
theorem DCtr.of_body {f : FuncId} {fn : Func} {id d : Nat} {ty : TypeId} {pos : String} {ats : Array TypeId} {c2 : Code} {args : List Value} {u u' : FrameMode} {rv : Value} {α : Type} {φ : α → Prop} {G' : α → List HProp}
    (hf : P.funcs[f]? = some fn) (hb : fn.body = some (.seq (.region id #[⟨some d, .call { callee := .builtin .recover, args := #[], argTypes := ats }, ty, pos, #[], none⟩] false) c2)) (hn : fn.ntmps = n)
    (hl : Nat.ble args.length n = true) (hd : Nat.ble (d + 1) n = true) (hr : rcvd u = some (rv, u')) (k : CG none P W0 n [] c2 (bodyPost P fn (RetP W0 φ (fun _ => .tuple #[]) G')) ((d, rv) :: env0 0 args) G) : DCtr P W0 f args u u' G φ G' := fun w hw => by
  subst hn
  refine callsD_of_wpS hf hb fun c₀ cs hu => ?_
  apply wpS_seq
  apply wpS_region
  have h0 : ∀ ρ : Operand → Value, (execOp ρ ⟨some d, .call { callee := .builtin .recover, args := #[], argTypes := ats }, ty, pos, #[], none⟩).run P w = .ok .recover w := fun ρ => by
    simp [execOp, resolve, Sem.run, bind, Sem.bind, Pure.pure, invoke, builtin]
  have hat := (At.start (args := args) (n := fn.ntmps) (Nat.le_of_ble_eq_true hl)).put (v := rv) (Nat.le_of_ble_eq_true hd)
  have hk := (wpIn_wide (n := 0)).1 (k _ w hat hw)
  rw [show List.range (#[(⟨some d, .call { callee := .builtin .recover, args := #[], argTypes := ats }, ty, pos, #[], none⟩ : Oper)]).size = [0] from rfl]
  simp only [wpOpsS]
  rw [show (#[(⟨some d, .call { callee := .builtin .recover, args := #[], argTypes := ats }, ty, pos, #[], none⟩ : Oper)])[0]? = some ⟨some d, .call { callee := .builtin .recover, args := #[], argTypes := ats }, ty, pos, #[], none⟩ from rfl]
  simp only [Region.wanted, if_true, h0]
  have fin : ∀ cs', (cs' = { c₀ with mode := u' } :: cs) → c2.wpS P (bodyPostS P fn c₀ cs fun e v w' => ∃ x, φ x ∧ e = .returned (.tuple #[]) ∧ v = u' ∧ Sat W0 (G' x) w') (({ tmps := args.toArray ++ Array.replicate (fn.ntmps - args.toArray.size) undef, defers := [] } : Act).put (some d) rv) cs' w := fun cs' hcs => by
    refine wpS_of_wp (wp_mono hk fun e a' w' h => ?_)
    cases e with
    | normal => obtain ⟨h1, v, h2, x, h3, h4, h5⟩ := h; cases h4; exact ⟨h1, u', hcs, _, h2, x, h3, rfl, rfl, h5⟩
    | ret => obtain ⟨h1, v, h2, x, h3, h4, h5⟩ := h; cases h4; exact ⟨h1, u', hcs, _, h2, x, h3, rfl, rfl, h5⟩
    | panic c => obtain ⟨_, y, _, h4, _⟩ := h; cases h4
    | outgrown => obtain ⟨y, _, h4, _⟩ := h; cases h4
    | exit id => exact h.elim
    | goto l => exact h.elim
  subst hu
  unfold rcvd at hr
  split at hr
  · rename_i v older hm
    simp only [Option.some.injEq, Prod.mk.injEq] at hr
    obtain ⟨rfl, rfl⟩ := hr
    simp only [recoverD, hm, Exit.thenS]
    exact fin _ rfl
  · rename_i hm
    simp only [Option.some.injEq, Prod.mk.injEq] at hr
    obtain ⟨rfl, rfl⟩ := hr
    simp only [recoverD, hm, Exit.thenS]
    exact fin _ (by rw [← hm])
  · cases hr
/-! ### what stands around -/
end
end Go.Sl
