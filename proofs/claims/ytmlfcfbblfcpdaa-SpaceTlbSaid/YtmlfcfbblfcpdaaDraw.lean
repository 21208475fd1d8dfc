/- Regions whose order the tape draws: one walk along a plan serves every order. A plan says which operation comes next; an operation that only reads may be taken ahead of others if what it reads is kept (K), or if no operation that changes something can come up before it (pinned). No program in sight. -/
import Derived.Test.YtmlfcfbblfcpdaaOps
import Derived.Orders
namespace Go.Sl
open Go Go.RowKit
set_option linter.unusedSimpArgs false

def QF : Exit → Act → World → Prop := fun _ _ _ => False

section
variable {P : Program} {ops : Array Oper}

theorem wp_monoQ {o : Oper} {a : Act} {w : World} {K : Act → World → Prop} {Q : Exit → Act → World → Prop} (h : o.wp P a w K QF) : o.wp P a w K Q := by
  unfold Oper.wp at *
  generalize (execOp a.eval o).run P w = r at *
  cases r with
  | ok n w' =>
    cases n <;> simp only [Oper.upon] at h ⊢ <;>
      first
        | exact h
        | exact Calls.mono h (fun e w'' he => by cases e <;> first | exact he | exact he.elim | (obtain ⟨_, _, h⟩ := he; exact h.elim))
  | halt x w' => cases x <;> simp only [Oper.upon] at h ⊢ <;> first | exact h | exact h.elim
theorem wpOp_monoQ {i : Nat} {a : Act} {w : World} {K : Act → World → Prop} {Q : Exit → Act → World → Prop} (h : wpOp P ops QF i K a w) : wpOp P ops Q i K a w := by
  unfold wpOp at *
  split
  · rename_i ho; simp only [ho] at h; exact h
  · rename_i o ho
    simp only [ho] at h
    split
    · rename_i hw; simp only [hw, if_true] at h
      rcases h with h | ⟨_, _, _, h⟩
      · exact .inl (wp_monoQ h)
      · exact h.elim
    · rename_i hw; simp only [hw] at h; exact h

theorem wpOp_in {r : Option Nat} {i : Nat} {a : Act} {w : World} {K : Act → World → Prop} {Q : Exit → Act → World → Prop} (hn : ∀ o ∈ ops.toList, r = none ∨ ndOp o = true) (h : wpOp P ops QF i K a w) : wpOpIn (Fz r) 0 P ops Q i K a w := by
  unfold wpOp at h
  unfold wpOpIn
  split
  · rename_i ho; simp only [ho] at h; exact h
  · rename_i o ho
    simp only [ho] at h
    have hm : o ∈ ops.toList := by rw [← Array.getElem?_toList] at ho; exact List.mem_of_getElem? ho
    split
    · rename_i hw; simp only [hw, if_true] at h
      rcases h with h | ⟨_, _, _, h⟩
      · exact wp_in (hn o hm) (wp_monoQ h)
      · exact h.elim
    · rename_i hw; simp only [hw] at h; exact ⟨fun _ _ => trivial, h⟩
/-- In every world of the class C the operation leaves v in its slot, and the world as it is. -/
def YldC (P : Program) (ops : Array Oper) (C : World → Prop) (o : Oper) (v : Value) (a : Act) : Prop :=
  (Region.wanted o (yielded ops a.tmps) = true ∧ ∀ w, C w → (execOp a.eval o).run P w = .ok (.value v) w) ∨ (Region.wanted o (yielded ops a.tmps) = false ∧ v = undef)
theorem YldC.sub {C C' : World → Prop} {o : Oper} {v : Value} {a : Act} (h : YldC P ops C o v a) (hc : ∀ w, C' w → C w) : YldC P ops C' o v a := by
  rcases h with ⟨h1, h2⟩ | h
  · exact .inl ⟨h1, fun w hw => h2 w (hc w hw)⟩
  · exact .inr h
theorem YldC.of_same {C : World → Prop} {o : Oper} {v : Value} {a a' : Act} (hy : YldC P ops C o v a) (he : execOp a'.eval o = execOp a.eval o)
    (hw : Region.wanted o (yielded ops a'.tmps) = Region.wanted o (yielded ops a.tmps)) : YldC P ops C o v a' := by
  unfold YldC at *; rw [he, hw]; exact hy
theorem YldC.wpOp {C : World → Prop} {i : Nat} {o : Oper} {v : Value} {a : Act} (hi : ops[i]? = some o) (hy : YldC P ops C o v a) {Q : Exit → Act → World → Prop}
    {K : Act → World → Prop} {w : World} (hw : C w) (h : K (a.put o.dst v) w) : wpOp P ops Q i K a w := by
  unfold Go.wpOp
  simp only [hi]
  rcases hy with ⟨h1, hv⟩ | ⟨h1, rfl⟩
  · simp only [h1, if_true, Oper.wp, hv w hw, Oper.upon]; exact .inl h
  · simp only [h1, Bool.false_eq_true, if_false]; exact h

/-! ### what must come before -/
/-- All that a listed operation waits for is listed. -/
def Closed (ops : Array Oper) (listed : Array Bool) : Prop := ∀ j oj, ops[j]? = some oj → listed.getD j false = true → ∀ e ∈ oj.after, Region.binds .any e = true → listed.getD e.on false = true
theorem Closed.set {listed : Array Bool} {i : Nat} (h : Closed ops listed) (hi : i ∈ Region.ready .any ops listed) : Closed ops (listed.setIfInBounds i true) := fun j oj hj hl e he hb => by
  obtain ⟨_, oi, hoi, hall⟩ := mem_ready.1 hi
  by_cases hij : i = j
  · subst hij
    have : oj = oi := Option.some.inj (hj.symm.trans hoi)
    subst this
    exact getD_set_true (hall e he hb)
  · rw [getD_set_ne false hij] at hl
    exact getD_set_true (h j oj hj hl e he hb)
/-- j waits, by a chain of links, for i. -/
inductive Waits (ops : Array Oper) (i : Nat) : Nat → Prop
  | direct {j : Nat} {oj : Oper} {e : Edge} (hj : ops[j]? = some oj) (he : e ∈ oj.after) (hb : Region.binds .any e = true) (hi : e.on = i) : Waits ops i j
  | step {j : Nat} {oj : Oper} {e : Edge} (hj : ops[j]? = some oj) (he : e ∈ oj.after) (hb : Region.binds .any e = true) (h : Waits ops i e.on) : Waits ops i j
theorem Waits.late {listed : Array Bool} {i : Nat} (hc : Closed ops listed) (hi : listed.getD i false = false) {j : Nat} (h : Waits ops i j) : j ∉ Region.ready .any ops listed ∧ listed.getD j false = false := by
  induction h with
  | @direct j oj e hj he hb hon =>
    have hno : listed.getD e.on false = false := by rw [hon]; exact hi
    constructor
    · intro hr
      obtain ⟨_, o', ho', hall⟩ := mem_ready.1 hr
      have : o' = oj := Option.some.inj (ho'.symm.trans hj)
      subst this
      have := hall e he hb
      rw [hno] at this; cases this
    · cases hl : listed.getD j false with
      | false => rfl
      | true => have := hc j oj hj hl e he hb; rw [hno] at this; cases this
  | @step j oj e hj he hb _ ih =>
    have hno := ih.2
    constructor
    · intro hr
      obtain ⟨_, o', ho', hall⟩ := mem_ready.1 hr
      have : o' = oj := Option.some.inj (ho'.symm.trans hj)
      subst this
      have := hall e he hb
      rw [hno] at this; cases this
    · cases hl : listed.getD j false with
      | false => rfl
      | true => have := hc j oj hj hl e he hb; rw [hno] at this; cases this

abbrev Cls := World → Prop
/-- What may come next: a look (in every world of C the same value), or a change (in each world of C; behind it the classes are within S). -/
def StepC (P : Program) (ops : Array Oper) (eff : Nat → Bool) (i : Nat) (K : Act → (Nat → Cls) → Cls → Prop) (a : Act) (S : Nat → Cls) (C : Cls) : Prop :=
  ∃ o, ops[i]? = some o ∧
    ((eff i = false ∧ ∃ v, YldC P ops C o v a ∧ K (a.put o.dst v) S C) ∨
     (eff i = true ∧ ∀ w, C w → wpOp P ops QF i (fun a' w' => ∃ (S' : Nat → Cls) (C' : Cls), C' w' ∧ (∀ k x, C' x → S' k x) ∧ (∀ k, ¬ Waits ops k i → ∀ x, S' k x → S k x) ∧ K a' S' C') a w))
theorem StepC.mono {eff : Nat → Bool} {i : Nat} {K K' : Act → (Nat → Cls) → Cls → Prop} {a : Act} {S : Nat → Cls} {C : Cls} (h : StepC P ops eff i K a S C) (hk : ∀ a S' C', K a S' C' → K' a S' C') : StepC P ops eff i K' a S C := by
  obtain ⟨o, ho, ⟨h1, v, h2, h3⟩ | ⟨h1, h2⟩⟩ := h
  · exact ⟨o, ho, .inl ⟨h1, v, h2, hk _ _ _ h3⟩⟩
  · exact ⟨o, ho, .inr ⟨h1, fun w hw => wpOp_mono (fun a' w' ⟨S', C', q1, q2, q3, q4⟩ => ⟨S', C', q1, q2, q3, hk _ _ _ q4⟩) (h2 w hw)⟩⟩

def AnyC (P : Program) (ops : Array Oper) (eff : Nat → Bool) (Q : Exit → Act → World → Prop) : Nat → Array Bool → Act → (Nat → Cls) → Cls → Prop
  | 0, listed, a, _, C => Region.ready .any ops listed = [] ∧ ∀ w, C w → Q .normal a w
  | f + 1, listed, a, S, C => (Region.ready .any ops listed = [] → ∀ w, C w → Q .normal a w) ∧
    ∀ i ∈ Region.ready .any ops listed, StepC P ops eff i (AnyC P ops eff Q f (listed.setIfInBounds i true)) a S C

theorem AnyC.any {eff : Nat → Bool} {Q : Exit → Act → World → Prop} : ∀ (f : Nat) (listed : Array Bool) (a : Act) (S : Nat → Cls) (C : Cls) (w : World), C w → AnyC P ops eff Q f listed a S C → wpAny P .any ops Q f listed a w
  | 0, _, _, _, _, w, hw, h => ⟨h.1, h.2 w hw⟩
  | f + 1, listed, a, S, C, w, hw, h => by
    refine ⟨fun h0 => h.1 h0 w hw, fun i hi => ?_⟩
    obtain ⟨o, ho, ⟨_, v, h2, h3⟩ | ⟨_, h2⟩⟩ := h.2 i hi
    · exact h2.wpOp ho hw (AnyC.any f _ _ _ _ w hw h3)
    · exact wpOp_monoQ (wpOp_mono (fun a' w' ⟨S', C', q1, _, _, q4⟩ => AnyC.any f _ _ _ _ w' q1 q4) (h2 w hw))

theorem AnyC.anyIn {r : Option Nat} {eff : Nat → Bool} {Q : Exit → Act → World → Prop} (hn : ∀ o ∈ ops.toList, r = none ∨ ndOp o = true) : ∀ (f : Nat) (listed : Array Bool) (a : Act) (S : Nat → Cls) (C : Cls) (w : World), C w → AnyC P ops eff Q f listed a S C → wpAnyIn (Fz r) 0 P .any ops Q f listed a w
  | 0, _, _, _, _, w, hw, h => ⟨h.1, h.2 w hw⟩
  | f + 1, listed, a, S, C, w, hw, h => by
    refine ⟨fun h0 => h.1 h0 w hw, fun i hi => ?_⟩
    obtain ⟨o, ho, ⟨_, v, h2, h3⟩ | ⟨_, h2⟩⟩ := h.2 i hi
    · exact wpOp_in hn (h2.wpOp (Q := QF) ho hw (AnyC.anyIn hn f _ _ _ _ w hw h3))
    · exact wpOp_in hn (wpOp_mono (fun a' w' ⟨S', C', q1, _, _, q4⟩ => AnyC.anyIn hn f _ _ _ _ w' q1 q4) (h2 w hw))
/-- For what each of the first n operations waits, as bits. -/
def maskOf (ms : List Nat) (es : List Edge) : Nat := es.foldl (fun s e => if Region.binds .any e then s ||| 2 ^ e.on ||| ms.getD e.on 0 else s) 0
def masks (ops : Array Oper) : Nat → List Nat
  | 0 => []
  | k + 1 => masks ops k ++ [match ops[k]? with | some o => maskOf (masks ops k) o.after.toList | none => 0]
theorem masks_length : ∀ k, (masks ops k).length = k
  | 0 => rfl
  | k + 1 => by simp [masks, masks_length k]
theorem maskOf_bit (ms : List Nat) (i : Nat) : ∀ (es : List Edge) (s : Nat), (es.foldl (fun s e => if Region.binds .any e then s ||| 2 ^ e.on ||| ms.getD e.on 0 else s) s).testBit i = true →
    s.testBit i = true ∨ ∃ e ∈ es, Region.binds .any e = true ∧ (e.on = i ∨ (ms.getD e.on 0).testBit i = true)
  | [], _, h => .inl h
  | e :: es, s, h => by
    rcases maskOf_bit ms i es _ h with h1 | ⟨x, hx, h1⟩
    · dsimp only at h1
      by_cases hb : Region.binds .any e = true
      · rw [if_pos hb] at h1
        rw [Nat.testBit_or, Nat.testBit_or] at h1
        simp only [Bool.or_eq_true] at h1
        rcases h1 with (h1 | h1) | h1
        · exact .inl h1
        · refine .inr ⟨e, by simp, hb, .inl ?_⟩
          rw [Nat.testBit_two_pow] at h1
          simpa using h1
        · exact .inr ⟨e, by simp, hb, .inr h1⟩
      · rw [if_neg hb] at h1; exact .inl h1
    · exact .inr ⟨x, by simp [hx], h1⟩
theorem masks_waits {i : Nat} : ∀ (k j : Nat), ((masks ops k).getD j 0).testBit i = true → Waits ops i j
  | 0, j, h => by simp [masks] at h
  | k + 1, j, h => by
    simp only [masks, List.getD_eq_getElem?_getD] at h
    rcases Nat.lt_trichotomy j k with hj | hj | hj
    · rw [List.getElem?_append_left (by rw [masks_length]; exact hj)] at h
      exact masks_waits k j (by rw [List.getD_eq_getElem?_getD]; exact h)
    · subst hj
      rw [List.getElem?_append_right (by rw [masks_length]; omega), masks_length] at h
      simp only [Nat.sub_self, List.getElem?_cons_zero, Option.getD_some] at h
      split at h
      · rename_i o ho
        rcases maskOf_bit _ i _ _ h with h1 | ⟨e, he, hb, h1⟩
        · simp at h1
        · rcases h1 with h1 | h1
          · exact .direct ho (by simpa using he) hb h1
          · exact .step ho (by simpa using he) hb (masks_waits j e.on h1)
      · simp at h
    · rw [List.getElem?_eq_none (by simp [masks_length]; omega)] at h
      simp at h

theorem getD_tf {listed : Array Bool} {i : Nat} (h : listed.getD i true = false) : listed.getD i false = false := by
  rcases Nat.lt_or_ge i listed.size with h' | h'
  · simp [h'] at h ⊢; exact h
  · simp [Array.getElem?_eq_none h'] at h

/-- An operation that looks may be taken first: if what it sees is the same in all worlds of S, or if no change can come up ahead of it. -/
theorem AnyC.first {eff : Nat → Bool} {Q : Exit → Act → World → Prop} {i : Nat} {oi : Oper} {v : Value} (hi : ops[i]? = some oi) (hei : eff i = false) (hsel : ∀ (j : Nat) (o : Oper) cs b, ops[j]? = some o → o.op ≠ .select cs b) :
    ∀ (f : Nat) (listed : Array Bool) (a : Act) (S : Nat → Cls) (C : Cls), (∀ k w, C w → S k w) → Closed ops listed →
      (∀ j oj, ops[j]? = some oj → j ≠ i → listed.getD j true = false → (∀ e ∈ oj.after, Region.binds .any e = true → e.on ≠ i) → oi.apart ops oj = true) →
      i ∈ Region.ready .any ops listed →
      (YldC P ops (S i) oi v a ∨ (YldC P ops C oi v a ∧ ∀ j, eff j = true → listed.getD j true = false → Waits ops i j)) →
      AnyC P ops eff Q f (listed.setIfInBounds i true) (a.put oi.dst v) S C → AnyC P ops eff Q (f + 1) listed a S C := by
  intro f
  induction f with
  | zero =>
    intro listed a S C hcs _ _ hr hy H
    refine ⟨fun h => (by rw [h] at hr; cases hr), fun j hj => ?_⟩
    by_cases hji : j = i
    · subst hji
      exact ⟨oi, hi, .inl ⟨hei, v, hy.elim (fun h => h.sub (hcs _)) (fun h => h.1), H⟩⟩
    · have := ready_mono hj hji
      rw [H.1] at this; cases this
  | succ f ih =>
    intro listed a S C hcs hcl hfree hr hy H
    refine ⟨fun h => (by rw [h] at hr; cases hr), fun j hj => ?_⟩
    by_cases hji : j = i
    · subst hji
      exact ⟨oi, hi, .inl ⟨hei, v, hy.elim (fun h => h.sub (hcs _)) (fun h => h.1), H⟩⟩
    · obtain ⟨o', ho', hstep⟩ := H.2 j (ready_mono hj hji)
      obtain ⟨hjun, oj, hoj, hall⟩ := mem_ready.1 hj
      have hoe : o' = oj := Option.some.inj (ho'.symm.trans hoj)
      subst hoe
      have hiun := (mem_ready.1 hr).1
      have hnot : ∀ e ∈ o'.after, Region.binds .any e = true → e.on ≠ i := fun e he hb heq => by
        have h1 := hall e he hb
        rw [heq, getD_tf hiun] at h1; cases h1
      have hap := hfree j o' hoj hji hjun hnot
      obtain ⟨h1, h2, h3⟩ := Oper.apart_spec hap
      have hsi := fun cs b => hsel i oi cs b hi
      have hsj := fun cs b => hsel j o' cs b hoj
      have hfree' : ∀ k ok, ops[k]? = some ok → k ≠ i → (listed.setIfInBounds j true).getD k true = false →
          (∀ e ∈ ok.after, Region.binds .any e = true → e.on ≠ i) → oi.apart ops ok = true := fun k ok hk hki hun hno => by
        refine hfree k ok hk hki ?_ hno
        by_cases hjk : j = k
        · subst hjk; exact hjun
        · rw [getD_set_ne true hjk] at hun; exact hun
      have hcl' := hcl.set hj
      have hr' := ready_mono hr (Ne.symm hji)
      have keep : ∀ {C' : Cls} (a' : Act) (u : Value), YldC P ops C' oi v a' → YldC P ops C' oi v (a'.put o'.dst u) := fun a' u hy => hy.of_same (execOp_put oi hsi a' o'.dst u h3) (wanted_put oi a' o'.dst u h3)
      have hpin' : ∀ (q : ∀ k, eff k = true → listed.getD k true = false → Waits ops i k), ∀ k, eff k = true → (listed.setIfInBounds j true).getD k true = false → Waits ops i k := fun q k hk hun => by
        refine q k hk ?_
        by_cases hjk : j = k
        · subst hjk; exact hjun
        · rw [getD_set_ne true hjk] at hun; exact hun
      refine ⟨o', hoj, ?_⟩
      rcases hstep with ⟨hej, u, hu, hK⟩ | ⟨hej, hE⟩
      · refine .inl ⟨hej, u, ?_, ?_⟩
        · exact hu.of_same (execOp_put o' hsj a oi.dst v h1).symm (wanted_put o' a oi.dst v h1).symm
        · refine ih (listed.setIfInBounds j true) (a.put o'.dst u) S C hcs hcl' hfree' hr' ?_ ?_
          · rcases hy with hy | ⟨hy, hp⟩
            · exact .inl (keep a u hy)
            · exact .inr ⟨keep a u hy, hpin' hp⟩
          · rw [Array.setIfInBounds_comm _ _ hji, ← Act.put_comm a v u h2]; exact hK
      · rcases hy with hy | ⟨_, hp⟩
        · refine .inr ⟨hej, fun w hw => ?_⟩
          have hE' := hE w hw
          -- the change, with i's value not yet in its slot
          have key : wpOp P ops QF j (fun a' w' => YldC P ops (S i) oi v a' ∧ ∃ (S' : Nat → Cls) (C' : Cls), C' w' ∧ (∀ k x, C' x → S' k x) ∧ (∀ k, ¬ Waits ops k j → ∀ x, S' k x → S k x) ∧ AnyC P ops eff Q f ((listed.setIfInBounds i true).setIfInBounds j true) (a'.put oi.dst v) S' C') a w := by
            unfold wpOp at hE' ⊢
            simp only [hoj] at hE' ⊢
            rw [wanted_put o' a oi.dst v h1] at hE'
            split
            · rename_i hwt
              simp only [hwt, if_true] at hE'
              rcases hE' with hE' | ⟨_, _, _, h⟩
              case inr => exact h.elim
              refine .inl ?_
              unfold Oper.wp at *
              rw [execOp_put o' hsj a oi.dst v h1] at hE'
              generalize (execOp a.eval o').run P w = r at *
              cases r with
              | ok nx w' =>
                cases nx <;> simp only [Oper.upon] at hE' ⊢
                case value u => exact ⟨keep a u hy, by rw [← Act.put_comm a v u h2]; exact hE'⟩
                case skip => exact ⟨keep a _ hy, by rw [← Act.put_comm a v undef h2]; exact hE'⟩
                case defer d =>
                  refine ⟨keep _ _ (hy.of_same rfl rfl), ?_⟩
                  rw [← Act.put_comm _ v undef h2, ← Act.put_defers]; exact hE'
                case enter g args =>
                  refine Calls.mono hE' fun x w'' he => ?_
                  cases x with
                  | returned u => exact ⟨keep a u hy, by rw [← Act.put_comm a v u h2]; exact he⟩
                  | panicked c => exact he
                  | outgrown => exact he
                case row row args => exact Rows.mono hE' fun u w'' he => ⟨keep a u hy, by rw [← Act.put_comm a v u h2]; exact he⟩
              | halt x w' =>
                cases x <;> simp only [Oper.upon] at hE' ⊢
                case panic u => exact hE'
            · rename_i hwt
              simp only [hwt] at hE'
              exact ⟨keep a _ hy, by rw [← Act.put_comm a v undef h2]; exact hE'⟩
          refine wpOp_mono (fun a' w' ⟨hy', S', C', q1, q2, q3, q4⟩ => ⟨S', C', q1, q2, q3, ?_⟩) key
          refine ih (listed.setIfInBounds j true) a' S' C' q2 hcl' hfree' hr' (.inl (hy'.sub (q3 i fun hw => (hw.late hcl (getD_tf hiun)).1 hj))) ?_
          rw [Array.setIfInBounds_comm _ _ hji]; exact q4
        · exact absurd hj ((hp j hej hjun).late hcl (getD_tf hiun)).1

/-! ### plans -/
inductive Plan where
  | done
  | look (i : Nat) (pin : Nat) (p : Plan)
  | eff1 (i : Nat) (rel : Bool) (p : Plan)
  | eff2 (i : Nat) (rel : Bool) (p : Plan) (j : Nat) (rel' : Bool) (q : Plan)
def Plan.len : Plan → Nat
  | .done => 0
  | .look _ _ p => p.len + 1
  | .eff1 _ _ p => p.len + 1
  | .eff2 _ _ p _ _ _ => p.len + 1
/-- A change that releases waits for all late looks. -/
def relB (ms : List Nat) (lt : List Nat) (i : Nat) (rel : Bool) : Bool := !rel || lt.all fun k => (ms.getD i 0).testBit k
def planB (ops : Array Oper) (ms : List Nat) (effs lt : List Nat) : Plan → Array Bool → Bool
  | .done, l => (Region.ready .any ops l).isEmpty
  | .look i pin p, l => !effs.contains i && (Region.ready .any ops l).contains i && Region.free .any ops l i &&
      (match pin with | 0 => !lt.contains i | 1 => effs.all fun j => l.getD j true || (ms.getD j 0).testBit i | _ => lt.contains i) && planB ops ms effs lt p (l.setIfInBounds i true)
  | .eff1 i rel p, l => effs.contains i && decide (Region.ready .any ops l = [i]) && relB ms lt i rel && planB ops ms effs lt p (l.setIfInBounds i true)
  | .eff2 i rel p j rel' q, l => effs.contains i && effs.contains j && decide (Region.ready .any ops l = [i, j]) && decide (q.len = p.len) && relB ms lt i rel && relB ms lt j rel' &&
      planB ops ms effs lt p (l.setIfInBounds i true) && planB ops ms effs lt q (l.setIfInBounds j true)
def planTop (ops : Array Oper) (effs lt : List Nat) (p : Plan) : Bool :=
  Region.noSelect ops && decide (p.len = ops.size) && planB ops (masks ops ops.size) effs lt p (Array.replicate ops.size false)
/-- What a change keeps for the late looks. -/
def relL (rel : Bool) (L : List HProp) : List HProp := match rel with | true => [] | false => L
/-- What is kept for a look. -/
def KL (W0 : World) (lt : List Nat) (K L : List HProp) (i : Nat) : Cls := fun w => match lt.contains i with | true => Sat W0 L w | false => Sat W0 K w
end

section
variable (P : Program) (W0 : World) (n : Nat) (ds : List Deferred) (ops : Array Oper) (effs lt : List Nat) (Q : Exit → Act → World → Prop)
/-- Along the plan p: from the slots e, with K kept (and L, for the late looks) and G at hand, the region comes to Q. -/
def DG (p : Plan) (e : Env) (K L G : List HProp) : Prop := ∀ (l : Array Bool) (a : Act) (f : Nat), Region.noSelect ops = true → planB ops (masks ops ops.size) effs lt p l = true → Closed ops l → At n ds e a → Imp G K → Imp G L →
  AnyC P ops (fun i => effs.contains i) Q (f + p.len) l a (KL W0 lt K L) (Sat W0 G)
end

section
variable {P : Program} {W0 : World} {n : Nat} {ds : List Deferred} {ops : Array Oper} {effs lt : List Nat} {Q : Exit → Act → World → Prop} {e : Env} {K L G : List HProp}

theorem KL.of {w : World} (h : Sat W0 G w) (hK : Imp G K) (hL : Imp G L) (i : Nat) : KL W0 lt K L i w := by
  unfold KL; split
  · exact h.imp hL
  · exact h.imp hK

/-- Is the operation wanted, as far as is known? -/
def guardS (ops : Array Oper) (e : Env) (o : Oper) : Option Bool :=
  match o.guard with
  | none => some true
  | some (j, want) => match (ops[j]?).bind (·.dst) with
    | some t => match e.get t with
      | some (.bool b) => some (b == want)
      | some _ => some false
      | none => none
    | none => none
theorem guardS_spec {o : Oper} {b : Bool} {a : Act} (h : guardS ops e o = some b) (ha : At n ds e a) : Region.wanted o (yielded ops a.tmps) = b := by
  unfold guardS at h
  split at h
  · rename_i hg; simp only [Option.some.injEq] at h; subst h; simp [Region.wanted, hg]
  · rename_i j want hg
    split at h
    · rename_i t ht
      split at h
      · rename_i b' hv
        simp only [Option.some.injEq] at h
        subst h
        have h2 := ha.slot t _ hv
        have hy : yielded ops a.tmps j = some b' := by
          unfold yielded
          rw [ht]
          simp only [Option.bind_some]
          by_cases hlt : t < a.tmps.size
          · simp only [Array.getD, hlt, dif_pos] at h2
            rw [Array.getElem?_eq_getElem hlt]
            have : a.tmps[t] = .bool b' := h2
            rw [this]
          · simp only [Array.getD, hlt, dif_neg, not_false_eq_true] at h2; cases h2
        simp only [Region.wanted, hg, hy]
        cases b' <;> cases want <;> rfl
      · rename_i v hne hv
        simp only [Option.some.injEq] at h
        subst h
        have h2 := ha.slot t _ hv
        have hy : yielded ops a.tmps j = none := by
          unfold yielded
          rw [ht]
          simp only [Option.bind_some]
          by_cases hlt : t < a.tmps.size
          · simp only [Array.getD, hlt, dif_pos] at h2
            rw [Array.getElem?_eq_getElem hlt]
            have : a.tmps[t] = v := h2
            rw [this]
            cases v <;> first | rfl | (rename_i b; exact absurd rfl (hne b))
          · rw [Array.getElem?_eq_none (Nat.le_of_not_lt hlt)]
        simp [Region.wanted, hg, hy]
      · cases h
    · cases h

theorem DG.done (k : QG W0 n ds Q .normal e G) : DG P W0 n ds ops effs lt Q .done e K L G := fun l a f _ hB _ ha _ _ => by
  have hr : Region.ready .any ops l = [] := by simpa [planB] using hB
  cases f with
  | zero => exact ⟨hr, fun w hw => k a w ha hw⟩
  | succ f => exact ⟨fun _ w hw => k a w ha hw, fun i hi => by rw [hr] at hi; cases hi⟩

/-- In which worlds a look must yield its value. -/
def pinG (pin : Nat) (K L G : List HProp) : List HProp := match pin with | 0 => K | 1 => G | _ => L
theorem look_ok {i pin : Nat} {p : Plan} {l : Array Bool} (hB : planB ops (masks ops ops.size) effs lt (.look i pin p) l = true) {o : Oper} {v : Value} {a : Act} (h : YldC P ops (Sat W0 (pinG pin K L G)) o v a) :
    YldC P ops (KL W0 lt K L i) o v a ∨ (YldC P ops (Sat W0 G) o v a ∧ ∀ j, effs.contains j = true → l.getD j true = false → Waits ops i j) := by
  simp only [planB, Bool.and_eq_true] at hB
  have h4 := hB.1.2
  match pin, h, h4 with
  | 0, h, h4 =>
    refine .inl (h.sub fun w hw => ?_)
    have h5 : lt.contains i = false := by simpa using h4
    unfold KL at hw; rw [h5] at hw; exact hw
  | 1, h, h4 =>
    refine .inr ⟨h, fun j hj hun => ?_⟩
    simp only [List.all_eq_true, Bool.or_eq_true] at h4
    rcases h4 j (by simpa using hj) with h | h
    · rw [hun] at h; cases h
    · exact masks_waits _ j h
  | m + 2, h, h4 =>
    refine .inl (h.sub fun w hw => ?_)
    have h5 : lt.contains i = true := by simpa using h4
    unfold KL at hw; rw [h5] at hw; exact hw
theorem DG.look {i : Nat} {pin : Nat} {p : Plan} {d : Nat} {op : Op} {ty : TypeId} {pos : String} {af : Array Edge} {g : Option (Nat × Bool)} {v : Value} (ho : ops[i]? = some ⟨some d, op, ty, pos, af, g⟩)
    (hg : guardS ops e ⟨some d, op, ty, pos, af, g⟩ = some true) (hy : Yield P W0 op ty e (pinG pin K L G) v) (hd : Nat.ble (d + 1) n = true) (k : DG P W0 n ds ops effs lt Q p ((d, v) :: e) K L G) : DG P W0 n ds ops effs lt Q (.look i pin p) e K L G := fun l a f hs hB hcl ha hGK hGL => by
  have hB' := hB
  simp only [planB, Bool.and_eq_true, Bool.not_eq_true'] at hB
  obtain ⟨⟨⟨⟨h1, h2⟩, h3⟩, _⟩, h5⟩ := hB
  have hr : i ∈ Region.ready .any ops l := by simpa using h2
  have hw := guardS_spec hg ha
  have hwd : Region.wanted ⟨some d, op, ty, pos, af, g⟩ (yielded ops a.tmps) = true := hw
  refine AnyC.first ho (by simpa using h1) (Region.noSelect_spec hs) (f + p.len) l a _ _ (fun k w hw => KL.of hw hGK hGL k) hcl (Region.free_spec ho h3) hr (v := v) ?_ ?_
  · exact look_ok hB' (.inl ⟨hwd, fun w hw' => hy a.eval ha.agrees w hw' _ _ _ _⟩)
  · exact k _ _ f hs h5 (hcl.set hr) (ha.put (Nat.le_of_ble_eq_true hd)) hGK hGL
/-- An operation whose guard says no. -/
theorem DG.pass {i : Nat} {pin : Nat} {p : Plan} {d : Nat} {op : Op} {ty : TypeId} {pos : String} {af : Array Edge} {g : Option (Nat × Bool)} (ho : ops[i]? = some ⟨some d, op, ty, pos, af, g⟩)
    (hg : guardS ops e ⟨some d, op, ty, pos, af, g⟩ = some false) (hd : Nat.ble (d + 1) n = true) (k : DG P W0 n ds ops effs lt Q p ((d, undef) :: e) K L G) : DG P W0 n ds ops effs lt Q (.look i pin p) e K L G := fun l a f hs hB hcl ha hGK hGL => by
  simp only [planB, Bool.and_eq_true, Bool.not_eq_true'] at hB
  obtain ⟨⟨⟨⟨h1, h2⟩, h3⟩, h4⟩, h5⟩ := hB
  have hr : i ∈ Region.ready .any ops l := by simpa using h2
  have hw : Region.wanted ⟨some d, op, ty, pos, af, g⟩ (yielded ops a.tmps) = false := guardS_spec hg ha
  refine AnyC.first ho (by simpa using h1) (Region.noSelect_spec hs) (f + p.len) l a _ _ (fun k w hw => KL.of hw hGK hGL k) hcl (Region.free_spec ho h3) hr (v := undef) (.inl (.inr ⟨hw, rfl⟩)) ?_
  exact k _ _ f hs h5 (hcl.set hr) (ha.put (Nat.le_of_ble_eq_true hd)) hGK hGL

/-- The slots behind an operation. -/
def putE (e : Env) : Option Nat → Value → Env
  | some d, v => (d, v) :: e
  | none, _ => e
def fitsE (n : Nat) : Option Nat → Bool
  | some d => Nat.ble (d + 1) n
  | none => true
theorem At.putE {a : Act} (h : At n ds e a) {dst : Option Nat} {v : Value} (hd : fitsE n dst = true) : At n ds (Sl.putE e dst v) (a.put dst v) := by
  cases dst with
  | none => exact h
  | some d => exact h.put (Nat.le_of_ble_eq_true hd)

/-- A change, at its place in a region: behind it K' x is kept, which says no less than K. -/
def Chg (P : Program) (W0 : World) (n : Nat) (ds : List Deferred) (ops : Array Oper) (effs lt : List Nat) (Q : Exit → Act → World → Prop) (i : Nat) (rel : Bool) (p : Plan) (e : Env) (K L G : List HProp) : Prop :=
  ∃ o, ops[i]? = some o ∧ ∀ a, At n ds e a → ∀ w, Sat W0 G w → wpOp P ops QF i (fun a' w' => ∃ (e' : Env) (K' G' : List HProp), At n ds e' a' ∧ Sat W0 G' w' ∧ Imp G' K' ∧ Imp K' K ∧ Imp G' (relL rel L) ∧ DG P W0 n ds ops effs lt Q p e' K' (relL rel L) G') a w

theorem Chg.eff {i : Nat} {rel : Bool} {p : Plan} {dst : Option Nat} {op : Op} {ty : TypeId} {pos : String} {af : Array Edge} {g : Option (Nat × Bool)} {α : Type} {φ : α → Prop} {v : α → Value} {G' : α → List HProp} {K' : α → List HProp} (ho : ops[i]? = some ⟨dst, op, ty, pos, af, g⟩)
    (hg : guardS ops e ⟨dst, op, ty, pos, af, g⟩ = some true) (hy : Eff P W0 op ty e G φ v G') (hd : fitsE n dst = true) (hk : ∀ x, Imp (G' x) (K' x)) (hk' : ∀ x, Imp (K' x) K) (hl : ∀ x, Imp (G' x) (relL rel L))
    (k : ∀ x, φ x → DG P W0 n ds ops effs lt Q p (putE e dst (v x)) (K' x) (relL rel L) (G' x)) : Chg P W0 n ds ops effs lt Q i rel p e K L G := by
  refine ⟨_, ho, fun a ha w hw => ?_⟩
  unfold wpOp
  simp only [ho]
  rw [if_pos (guardS_spec hg ha)]
  refine .inl ?_
  unfold Oper.wp
  obtain ⟨x, w', hx, hs, hr | ⟨hr, hu⟩⟩ := hy a.eval ha.agrees w hw dst pos af g
  · rw [hr, Oper.upon_value]; exact ⟨_, _, _, ha.putE hd, hs, hk x, hk' x, hl x, k x hx⟩
  · rw [hr, Oper.upon_skip, ← hu]; exact ⟨_, _, _, ha.putE hd, hs, hk x, hk' x, hl x, k x hx⟩
theorem Chg.callo {i : Nat} {rel : Bool} {p : Plan} {dst : Option Nat} {ty : TypeId} {pos : String} {af : Array Edge} {g : Option (Nat × Bool)} {f : FuncId} {args : List Operand} {ats : Array TypeId} {vs : List Value} {G1 : List HProp} {α : Type} {φ : α → Prop} {v : α → Value} {G' K' : α → List HProp}
    (ho : ops[i]? = some ⟨dst, .call { callee := .value (.func f), args := args.toArray, argTypes := ats }, ty, pos, af, g⟩) (hg : guardS ops e ⟨dst, .call { callee := .value (.func f), args := args.toArray, argTypes := ats }, ty, pos, af, g⟩ = some true)
    (hc : CallOK P f) (ha : e.evs args = some vs) (hi : Imp G G1) (hs : Ctr P W0 f vs G1 φ v G') (hd : fitsE n dst = true) (hk : ∀ x, Imp (G' x) (K' x)) (hk' : ∀ x, Imp (K' x) K) (hl : ∀ x, Imp (G' x) (relL rel L))
    (k : ∀ x, φ x → DG P W0 n ds ops effs lt Q p (putE e dst (v x)) (K' x) (relL rel L) (G' x)) : Chg P W0 n ds ops effs lt Q i rel p e K L G := by
  obtain ⟨fn, c, hf, hb, hn⟩ := hc
  refine ⟨_, ho, fun a hat w hw => ?_⟩
  unfold wpOp
  simp only [ho]
  rw [if_pos (guardS_spec hg hat)]
  refine .inl ?_
  unfold Oper.wp
  rw [run_call hf hb hn hat.agrees ha w, Oper.upon_enter]
  refine (hs w (hw.imp hi)).mono ?_
  rintro r w' ⟨x, hx, rfl, hs'⟩
  exact ⟨_, _, _, hat.putE hd, hs', hk x, hk' x, hl x, k x hx⟩
theorem Chg.pass {i : Nat} {rel : Bool} {p : Plan} {o : Oper} (ho : ops[i]? = some o) (hg : guardS ops e o = some false) (hd : fitsE n o.dst = true) (k : DG P W0 n ds ops effs lt Q p (putE e o.dst undef) K (relL rel L) G) (hGK : Imp G K) (hl : Imp G (relL rel L)) : Chg P W0 n ds ops effs lt Q i rel p e K L G := by
  refine ⟨_, ho, fun a hat w hw => ?_⟩
  unfold wpOp
  simp only [ho]
  rw [if_neg (by rw [guardS_spec hg hat]; simp)]
  exact ⟨_, _, _, hat.putE hd, hw, hGK, Imp.refl _, hl, k⟩

theorem rel_keep {i : Nat} {rel : Bool} {K' : List HProp} (h : relB (masks ops ops.size) lt i rel = true) (hK : Imp K' K) : ∀ k, ¬ Waits ops k i → ∀ x, KL W0 lt K' (relL rel L) k x → KL W0 lt K L k x := fun k hk x hx => by
  unfold KL at *
  cases hc : lt.contains k with
  | false => rw [hc] at hx; exact hx.imp hK
  | true =>
    rw [hc] at hx
    cases rel with
    | false => exact hx
    | true =>
      exfalso
      simp only [relB, Bool.not_true, Bool.false_or, List.all_eq_true] at h
      exact hk (masks_waits _ _ (h k (by simpa using hc)))
theorem DG.eff1 {i : Nat} {rel : Bool} {p : Plan} (h : Chg P W0 n ds ops effs lt Q i rel p e K L G) : DG P W0 n ds ops effs lt Q (.eff1 i rel p) e K L G := fun l a f hs hB hcl ha hGK hGL => by
  simp only [planB, Bool.and_eq_true, decide_eq_true_eq] at hB
  obtain ⟨⟨⟨h1, h2⟩, hrel⟩, h3⟩ := hB
  obtain ⟨o, ho, hE⟩ := h
  show AnyC P ops _ Q ((f + p.len) + 1) l a _ _
  refine ⟨fun h0 => (by rw [h2] at h0; cases h0), fun j hj => ?_⟩
  rw [h2] at hj
  obtain rfl : j = i := by simpa using hj
  have hr : j ∈ Region.ready .any ops l := by rw [h2]; simp
  refine ⟨o, ho, .inr ⟨h1, fun w hw => wpOp_mono (fun a' w' ⟨e', K', G', q1, q2, q3, q4, q6, q5⟩ => ?_) (hE a ha w hw)⟩⟩
  exact ⟨KL W0 lt K' (relL rel L), Sat W0 G', q2, fun k x hx => KL.of hx q3 q6 k, rel_keep hrel q4, q5 _ _ f hs h3 (hcl.set hr) q1 q3 q6⟩
theorem DG.eff2 {i j : Nat} {rel rel' : Bool} {p q : Plan} (h : Chg P W0 n ds ops effs lt Q i rel p e K L G) (h' : Chg P W0 n ds ops effs lt Q j rel' q e K L G) : DG P W0 n ds ops effs lt Q (.eff2 i rel p j rel' q) e K L G := fun l a f hs hB hcl ha hGK hGL => by
  simp only [planB, Bool.and_eq_true, decide_eq_true_eq] at hB
  obtain ⟨⟨⟨⟨⟨⟨⟨h1, h1'⟩, h2⟩, h4⟩, hrel⟩, hrel'⟩, h3⟩, h3'⟩ := hB
  show AnyC P ops _ Q ((f + p.len) + 1) l a _ _
  refine ⟨fun h0 => (by rw [h2] at h0; cases h0), fun m hm => ?_⟩
  have hr := hm
  rw [h2] at hm
  simp only [List.mem_cons, List.not_mem_nil, or_false] at hm
  rcases hm with rfl | rfl
  · obtain ⟨o, ho, hE⟩ := h
    refine ⟨o, ho, .inr ⟨h1, fun w hw => wpOp_mono (fun a' w' ⟨e', K', G', q1, q2, q3, q4, q6, q5⟩ => ?_) (hE a ha w hw)⟩⟩
    exact ⟨KL W0 lt K' (relL rel L), Sat W0 G', q2, fun k x hx => KL.of hx q3 q6 k, rel_keep hrel q4, q5 _ _ f hs h3 (hcl.set hr) q1 q3 q6⟩
  · obtain ⟨o, ho, hE⟩ := h'
    refine ⟨o, ho, .inr ⟨h1', fun w hw => wpOp_mono (fun a' w' ⟨e', K', G', q1, q2, q3, q4, q6, q5⟩ => ?_) (hE a ha w hw)⟩⟩
    exact ⟨KL W0 lt K' (relL rel' L), Sat W0 G', q2, fun k x hx => KL.of hx q3 q6 k, rel_keep hrel' q4, by have := q5 _ _ f hs h3' (hcl.set hr) q1 q3 q6; rw [h4] at this; exact this⟩

/-- A region that draws its order, by a plan. -/
theorem CG.draw {r : Option Nat} {id : Nat} {l : List Oper} (p : Plan) (effs lt : List Nat) (K L : List HProp) (hm : P.follows .mixedOrders = true) (hB : planTop l.toArray effs lt p = true) (hK : Imp G K) (hL : Imp G L) (k : DG P W0 n ds l.toArray effs lt Q p e K L G) (hd : ndB r l = true := by rfl) :
    CG r P W0 n ds (.region id l.toArray true) Q e G := fun a w ha hw => by
  simp only [planTop, Bool.and_eq_true, decide_eq_true_eq] at hB
  obtain ⟨⟨h1, h2⟩, h3⟩ := hB
  refine wpIn_region_any hm ?_
  have := k _ a 0 h1 h3 (fun j oj _ hl => by
    rw [show (Array.replicate l.toArray.size false).getD j false = false by
      rcases Nat.lt_or_ge j l.length with h | h <;> simp [h]] at hl
    cases hl) ha hK hL
  rw [Nat.zero_add, h2] at this
  exact AnyC.anyIn (by rw [List.toList_toArray]; exact nd_of hd) _ _ _ _ _ _ (hw.draw _) this
end
end Go.Sl
