/- A small separation logic over the model's memory: lists of assertions, each with blocks of its own. No program in sight. -/
import Derived.WalkKit
namespace Go.Sl
open Go Go.RowKit

/-- A part of the memory. -/
abbrev Heaplet := Nat → Option Obj
/-- An assertion on a part of the memory. -/
abbrev HProp := Heaplet → Prop

def hle (a b : Heaplet) : Prop := ∀ k o, a k = some o → b k = some o
def minus (a b : Heaplet) : Heaplet := fun k => if (b k).isSome then none else a k

theorem hle_refl (a : Heaplet) : hle a a := fun _ _ h => h
theorem hle_trans {a b c : Heaplet} (h : hle a b) (k : hle b c) : hle a c := fun x o e => k x o (h x o e)
theorem minus_some {a b : Heaplet} {k : Nat} {o : Obj} : minus a b k = some o ↔ b k = none ∧ a k = some o := by
  unfold minus
  cases h : b k <;> simp
theorem minus_le (a b : Heaplet) : hle (minus a b) a := fun _ _ h => (minus_some.1 h).2
theorem minus_mono {a b f : Heaplet} (h : hle a b) : hle (minus a f) (minus b f) := fun k o e =>
  minus_some.2 ⟨(minus_some.1 e).1, h k o (minus_some.1 e).2⟩

/-- All assertions of the list hold, each on blocks of its own. -/
def Sep : List HProp → HProp
  | [], _ => True
  | A :: G, h => ∃ f : Heaplet, hle f h ∧ A f ∧ Sep G (minus h f)

theorem Sep.mono : ∀ {G : List HProp} {a b : Heaplet}, Sep G a → hle a b → Sep G b
  | [], _, _, _, _ => trivial
  | _ :: _, _, _, ⟨f, hf, hA, hs⟩, h => ⟨f, hle_trans hf h, hA, Sep.mono hs (minus_mono h)⟩

theorem Sep.swap {A B : HProp} {G : List HProp} {h : Heaplet} (s : Sep (A :: B :: G) h) : Sep (B :: A :: G) h := by
  obtain ⟨f, hf, hA, g, hg, hB, hs⟩ := s
  refine ⟨g, hle_trans hg (minus_le _ _), hB, f, fun k o e => minus_some.2 ⟨?_, hf k o e⟩, hA, hs.mono fun k o e => ?_⟩
  · cases hgk : g k with
    | none => rfl
    | some x => have := (minus_some.1 (hg k x hgk)).1; rw [e] at this; cases this
  · obtain ⟨h1, h2⟩ := minus_some.1 e
    obtain ⟨h3, h4⟩ := minus_some.1 h2
    exact minus_some.2 ⟨h3, minus_some.2 ⟨h1, h4⟩⟩

/-- The world's memory as a part. -/
def heapOf (w : World) : Heaplet := fun k => w.heap[k]?

/-- One list says at least what another one says. -/
def Imp (G G' : List HProp) : Prop := ∀ h, Sep G h → Sep G' h

theorem Imp.refl (G : List HProp) : Imp G G := fun _ s => s
theorem Imp.trans {A B C : List HProp} (h : Imp A B) (k : Imp B C) : Imp A C := fun x s => k x (h x s)
theorem Imp.cons {A : HProp} {G G' : List HProp} (h : Imp G G') : Imp (A :: G) (A :: G') := fun _ ⟨f, hf, hA, hs⟩ => ⟨f, hf, hA, h _ hs⟩
theorem Imp.head {A B : HProp} {G : List HProp} (h : ∀ x, A x → B x) : Imp (A :: G) (B :: G) := fun _ ⟨f, hf, hA, hs⟩ => ⟨f, hf, h _ hA, hs⟩
theorem Imp.drop {A : HProp} {G : List HProp} : Imp (A :: G) G := fun _ ⟨_, _, _, hs⟩ => hs.mono (minus_le _ _)

/-- A stands in G; without it there is R. -/
def Ext (G : List HProp) (A : HProp) (R : List HProp) : Prop := Imp G (A :: R) ∧ Imp (A :: R) G
theorem Ext.here {A : HProp} {G : List HProp} : Ext (A :: G) A G := ⟨Imp.refl _, Imp.refl _⟩
theorem Ext.there {A B : HProp} {G R : List HProp} (e : Ext G A R) : Ext (B :: G) A (B :: R) :=
  ⟨fun _ s => Sep.swap (Imp.cons e.1 _ s), fun _ s => Imp.cons e.2 _ (Sep.swap s)⟩

/-- A stands in G at a place where something else may stand: 'put X' is G with X there. -/
def Foc (G : List HProp) (A : HProp) (put : HProp → List HProp) : Prop := ∃ R, Ext G A R ∧ ∀ X, Imp (X :: R) (put X)
theorem Foc.here {A : HProp} {G : List HProp} : Foc (A :: G) A (fun X => X :: G) := ⟨G, Ext.here, fun _ => Imp.refl _⟩
theorem Foc.there {A B : HProp} {G : List HProp} {put : HProp → List HProp} (f : Foc G A put) : Foc (B :: G) A (fun X => B :: put X) := by
  obtain ⟨R, e, hp⟩ := f
  exact ⟨B :: R, e.there, fun X h s => Imp.cons (hp X) _ (Sep.swap s)⟩

theorem Sep.sub {A : HProp} {G R : List HProp} {h : Heaplet} (e : Ext G A R) (s : Sep G h) : ∃ f, hle f h ∧ A f :=
  let ⟨f, hf, hA, _⟩ := e.1 _ s; ⟨f, hf, hA⟩

/-- A list within a list. -/
def Star (D : List HProp) : HProp := Sep D

/-- Two lists side by side: the first on the part f, the second beside f. -/
theorem Sep.append : ∀ {D G : List HProp} {h f : Heaplet}, Sep D f → hle f h → Sep G (minus h f) → Sep (D ++ G) h
  | [], _, _, _, _, _, hs => hs.mono (minus_le _ _)
  | A :: D, G, h, f, ⟨g, hg, hA, hD⟩, hf, hs => by
    refine ⟨g, hle_trans hg hf, hA, Sep.append hD (minus_mono hf) (hs.mono fun k o e => ?_)⟩
    obtain ⟨h1, h2⟩ := minus_some.1 e
    have h3 : g k = none := by
      cases hgk : g k with
      | none => rfl
      | some x => rw [hg k x hgk] at h1; cases h1
    refine minus_some.2 ⟨?_, minus_some.2 ⟨h3, h2⟩⟩
    unfold minus; rw [h3]; simpa using h1

/-- A list parted: a part of the memory that bears the first, and the rest beside it. -/
theorem Sep.split : ∀ {D G : List HProp} {h : Heaplet}, Sep (D ++ G) h → ∃ f, hle f h ∧ Sep D f ∧ Sep G (minus h f)
  | [], G, h, s => ⟨fun _ => none, fun _ _ e => by simp at e, trivial, s.mono fun k o e => minus_some.2 ⟨rfl, e⟩⟩
  | A :: D, G, h, ⟨g, hg, hA, s⟩ => by
    obtain ⟨f, hf, hD, hG⟩ := Sep.split s
    refine ⟨fun k => if (g k).isSome then g k else f k, fun k o e => ?_, ⟨g, fun k o e => ?_, hA, hD.mono fun k o e => ?_⟩, hG.mono fun k o e => ?_⟩
    · dsimp only at e
      split at e
      · exact hg k o e
      · exact (minus_some.1 (hf k o e)).2
    · simp [e]
    · have h1 := (minus_some.1 (hf k o e)).1
      exact minus_some.2 ⟨h1, by simp [h1, e]⟩
    · obtain ⟨h1, h2⟩ := minus_some.1 e
      obtain ⟨h3, h4⟩ := minus_some.1 h2
      exact minus_some.2 ⟨by simp [h1, h3], h4⟩

theorem star_open {D G : List HProp} : Imp (Star D :: G) (D ++ G) := fun _ ⟨_, hf, hA, hs⟩ => Sep.append hA hf hs
theorem star_close {D G : List HProp} : Imp (D ++ G) (Star D :: G) := fun _ s => let ⟨f, hf, hD, hG⟩ := Sep.split s; ⟨f, hf, hD, hG⟩

end Go.Sl
