/- Blocks, slices and what may be read: assertions on the memory, and how stores and new blocks change them. No program in sight. -/
import Derived.Test.YtmlfcfbblfcpdaaLog
namespace Go.Sl
open Go Go.RowKit

/-- Block b has the cells cs, of elements of type t. -/
def blk (b : Nat) (cs : List Value) (t : TypeId) : HProp := fun h => h b = some (.cells cs.toArray t (0, 0))
/-- Block b is this object. -/
def obj (b : Nat) (o : Obj) : HProp := fun h => h b = some o
/-- All blocks that were there at first are as they were. -/
def old (W0 : World) : HProp := fun h => ∀ b, b < W0.heap.size → h b = W0.heap[b]?

def updH (h : Heaplet) (b : Nat) (o : Obj) : Heaplet := fun k => if k = b then some o else h k

/-- The world with another object at a block. -/
def setObjW (w : World) (b : Nat) (o : Obj) : World := { w with heap := w.heap.setIfInBounds b o }

theorem heapOf_set {w : World} {b : Nat} {o x : Obj} (h : w.heap[b]? = some x) : heapOf (setObjW w b o) = updH (heapOf w) b o := by
  funext k
  unfold heapOf setObjW updH
  have hlt : b < w.heap.size := by
    rcases Nat.lt_or_ge b w.heap.size with h1 | h1
    · exact h1
    · rw [Array.getElem?_eq_none h1] at h; cases h
  by_cases hk : k = b
  · subst hk; simp [hlt]
  · rw [if_neg hk]; simp only [Array.getElem?_setIfInBounds]; rw [if_neg (by omega)]

theorem Sep.write {A B : HProp} {R : List HProp} {h : Heaplet} {b : Nat} {o o' : Obj} (s : Sep (A :: R) h)
    (hA : ∀ f, hle f h → A f → f b = some o ∧ B (updH f b o')) : Sep (B :: R) (updH h b o') := by
  obtain ⟨f, hf, ha, hs⟩ := s
  obtain ⟨h1, h2⟩ := hA f hf ha
  refine ⟨updH f b o', fun k x e => ?_, h2, hs.mono fun k x e => ?_⟩
  · unfold updH at *
    split at e
    · rename_i h; rw [if_pos h]; exact e
    · rename_i h; rw [if_neg h]; exact hf k x e
  · obtain ⟨e1, e2⟩ := minus_some.1 e
    have hne : k ≠ b := fun q => by subst q; rw [h1] at e1; cases e1
    refine minus_some.2 ⟨by unfold updH; rw [if_neg hne]; exact e1, by unfold updH; rw [if_neg hne]; exact e2⟩

theorem Foc.write {G : List HProp} {A B : HProp} {put : HProp → List HProp} (fc : Foc G A put) {h : Heaplet} {b : Nat} {o o' : Obj} (s : Sep G h)
    (hA : ∀ f, hle f h → A f → f b = some o ∧ B (updH f b o')) : Sep (put B) (updH h b o') := by
  obtain ⟨R, e, hp⟩ := fc
  exact hp B _ (Sep.write (e.1 _ s) hA)

theorem Tr.set {W0 w : World} (t : Tr W0 w) (b : Nat) (o : Obj) : Tr W0 (setObjW w b o) := ⟨t.os, t.tape, t.output, by simpa [setObjW] using t.size⟩

theorem Sat.write {W0 w : World} {G : List HProp} {A B : HProp} {put : HProp → List HProp} (fc : Foc G A put) {b : Nat} {o o' : Obj} (s : Sat W0 G w) (hb : w.heap[b]? = some o)
    (hA : ∀ f, hle f (heapOf w) → A f → f b = some o ∧ B (updH f b o')) : Sat W0 (put B) (setObjW w b o') :=
  ⟨s.1.set b o', by rw [heapOf_set hb]; exact fc.write s.2 hA⟩

/-- A new block. -/
theorem Sat.new {W0 w : World} {G : List HProp} (s : Sat W0 G w) (o : Obj) : Sat W0 (obj w.heap.size o :: G) { w with heap := w.heap.push o } := by
  refine ⟨⟨s.1.os, s.1.tape, s.1.output, by have := s.1.size; simp; omega⟩, fun k => if k = w.heap.size then some o else none, fun k x e => ?_, by simp [obj], s.2.mono fun k x e => ?_⟩
  · dsimp only at e
    split at e
    · rename_i h; subst h; unfold heapOf; simp at e ⊢; exact e
    · cases e
  · unfold heapOf at *
    have hlt : k < w.heap.size := by
      rcases Nat.lt_or_ge k w.heap.size with h1 | h1
      · exact h1
      · rw [Array.getElem?_eq_none h1] at e; cases e
    refine minus_some.2 ⟨by rw [if_neg (by omega)], ?_⟩
    show (w.heap.push o)[k]? = _
    rw [Array.getElem?_push, if_neg (by omega)]; exact e

theorem Sat.draw {W0 w : World} {G : List HProp} (s : Sat W0 G w) (m : Nat) : Sat W0 G { w with drawn := m } := ⟨⟨s.1.os, s.1.tape, s.1.output, s.1.size⟩, s.2⟩

theorem Sat.ext {W0 w : World} {G R : List HProp} {A : HProp} (e : Ext G A R) (s : Sat W0 G w) : ∃ f, hle f (heapOf w) ∧ A f := Sep.sub e s.2

theorem Sat.get_blk {W0 w : World} {G R : List HProp} {b : Nat} {cs : List Value} {t : TypeId} (e : Ext G (blk b cs t) R) (s : Sat W0 G w) : w.heap[b]? = some (.cells cs.toArray t (0, 0)) :=
  let ⟨_, hf, hA⟩ := Sat.ext e s; hf _ _ hA
theorem Sat.get_obj {W0 w : World} {G R : List HProp} {b : Nat} {o : Obj} (e : Ext G (obj b o) R) (s : Sat W0 G w) : w.heap[b]? = some o :=
  let ⟨_, hf, hA⟩ := Sat.ext e s; hf _ _ hA
theorem Sat.get_old {W0 w : World} {G R : List HProp} (e : Ext G (old W0) R) (s : Sat W0 G w) (b : Nat) (hb : b < W0.heap.size) : w.heap[b]? = W0.heap[b]? := by
  obtain ⟨f, hf, hA⟩ := Sat.ext e s
  have h1 := hA b hb
  rw [Array.getElem?_eq_getElem hb] at h1 ⊢
  exact hf _ _ h1

theorem Sat.start (W0 : World) : Sat W0 [old W0] W0 := ⟨Tr.refl _, heapOf W0, hle_refl _, fun _ _ => rfl, trivial⟩
theorem Sat.below {W0 w : World} {G R : List HProp} (e : Ext G (old W0) R) (s : Sat W0 G w) : Below W0.heap.size W0 w :=
  ⟨s.1.os, s.1.tape, s.1.output, s.1.size, fun k hk => Sat.get_old e s k hk⟩

theorem foc_ext {G : List HProp} {A : HProp} {put : HProp → List HProp} (f : Foc G A put) : ∃ R, Ext G A R := let ⟨R, e, _⟩ := f; ⟨R, e⟩

/-! ### Cells that may be read -/
section
variable (W0 : World) (G : List HProp)
/-- The cell a holds v. -/
def Cel (a : Addr) (v : Value) : Prop := ∀ w, Sat W0 G w → w.cell? a = some v
/-- From offset o of block b on the cells are xs. -/
def Row (b o : Nat) (xs : List Value) : Prop := ∀ i v, xs[i]? = some v → Cel W0 G ⟨b, o + i, none⟩ v
end

theorem cell_of_heap {w : World} {b o : Nat} {cs : List Value} {t : TypeId} {fr : Nat × Nat} (h : w.heap[b]? = some (.cells cs.toArray t fr)) : w.cell? ⟨b, o, none⟩ = cs[o]? := by
  unfold World.cell?; rw [h]; simp

theorem Cel.of_blk {W0 : World} {G R : List HProp} {b o : Nat} {cs : List Value} {t : TypeId} {v : Value} (e : Ext G (blk b cs t) R) (h : cs[o]? = some v) : Cel W0 G ⟨b, o, none⟩ v := fun w s => by
  rw [cell_of_heap (Sat.get_blk e s)]; exact h
theorem Cel.of_old {W0 : World} {G R : List HProp} {a : Addr} {v : Value} (e : Ext G (old W0) R) (h : W0.cell? a = some v) : Cel W0 G a v := fun w s => by
  have hlt : a.block < W0.heap.size := by
    rcases Nat.lt_or_ge a.block W0.heap.size with h1 | h1
    · exact h1
    · unfold World.cell? at h; rw [Array.getElem?_eq_none h1] at h; cases h
  have := Sat.get_old e s a.block hlt
  unfold World.cell? at *; rw [this]; exact h
theorem Row.of_blk {W0 : World} {G R : List HProp} {b o : Nat} {cs xs : List Value} {t : TypeId} (e : Ext G (blk b cs t) R) (h : (cs.drop o).take xs.length = xs) : Row W0 G b o xs := fun i v hi =>
  Cel.of_blk e (by
    have hlt : i < xs.length := by
      rcases Nat.lt_or_ge i xs.length with h1 | h1
      · exact h1
      · rw [List.getElem?_eq_none h1] at hi; cases hi
    rw [← h, List.getElem?_take_of_lt hlt, List.getElem?_drop] at hi
    exact hi)
theorem Row.of_old {W0 : World} {G R : List HProp} {b o : Nat} {xs : List Value} (e : Ext G (old W0) R) (h : ∀ i v, xs[i]? = some v → W0.cell? ⟨b, o + i, none⟩ = some v) : Row W0 G b o xs := fun i v hi =>
  Cel.of_old e (h i v hi)
theorem Row.imp {W0 : World} {G G' : List HProp} {b o : Nat} {xs : List Value} (h : Row W0 G' b o xs) (hi : Imp G G') : Row W0 G b o xs := fun i v q w s => h i v q w (s.imp hi)
/-! ### Runs over rows -/
section
variable {P : Program}

theorem run_bind_ok {α β : Type} {x : Sem α} {f : α → Sem β} {w w' : World} {a : α} (h : x.run P w = .ok a w') : (x.bind f).run P w = (f a).run P w' := by
  induction x generalizing w with
  | pure b => simp [Sem.run] at h; obtain ⟨rfl, rfl⟩ := h; simp [Sem.bind]
  | load m ad k ih =>
    simp only [Sem.run, Sem.bind] at h ⊢
    split at h
    · exact ih _ h
    · split at h
      · exact ih _ h
      · cases h
  | store m ad v k ih =>
    cases v <;> simp only [Sem.run, Sem.bind] at h ⊢ <;> first
      | (cases h; done)
      | (split at h
         · split at h
           · cases h
           · rename_i h2; simp only [h2]; exact ih h
         · split at h
           · exact ih h
           · cases h)
  | new o k ih => simp only [Sem.run, Sem.bind] at h ⊢; exact ih _ h
  | shape r k ih => simp only [Sem.run, Sem.bind] at h ⊢; exact ih _ h
  | freeze a n k ih => simp only [Sem.run, Sem.bind] at h ⊢; exact ih h
  | frozen a k ih => simp only [Sem.run, Sem.bind] at h ⊢; exact ih _ h
  | getObj r k ih =>
    simp only [Sem.run, Sem.bind] at h ⊢
    split at h
    · cases h
    · exact ih _ h
    · cases h
  | setObj r o k ih =>
    simp only [Sem.run, Sem.bind] at h ⊢
    split at h
    · cases h
    · exact ih h
    · cases h
  | choose q k ih =>
    simp only [Sem.run, Sem.bind] at h ⊢
    split at h
    · rename_i h2; rw [if_pos h2]; exact ih _ h
    · rename_i h2; rw [if_neg h2]; exact ih _ h
  | sys c k ih => simp only [Sem.run, Sem.bind] at h ⊢; exact ih _ h
  | program k ih => simp only [Sem.run, Sem.bind] at h ⊢; exact ih _ h
  | mark m k ih => simp only [Sem.run, Sem.bind] at h ⊢; exact ih h
  | halt x => simp [Sem.run] at h

theorem add_at (b o i : Nat) : Addr.add ⟨b, o, none⟩ i = ⟨b, o + i, none⟩ := by
  unfold Addr.add; split
  · rename_i h; subst h; rfl
  · rfl

theorem run_loadCellsFrom {b o : Nat} {w : World} : ∀ (m i : Nat) (xs : List Value) (acc : Array Value), xs.length = m → (∀ j v, xs[j]? = some v → w.cell? ⟨b, o + (i + j), none⟩ = some v) →
    (loadCellsFrom ⟨b, o, none⟩ i m acc).run P w = .ok (acc ++ xs.toArray) w
  | 0, _, xs, acc, hl, _ => by
    have : xs = [] := List.length_eq_zero_iff.1 hl
    subst this; simp [loadCellsFrom, pure]
  | m + 1, i, [], acc, hl, _ => by simp at hl
  | m + 1, i, x :: xs, acc, hl, hc => by
    have h0 : w.cell? ⟨b, o + i, none⟩ = some x := by simpa using hc 0 x (by simp)
    have h1 : (load (Addr.add ⟨b, o, none⟩ i)).run P w = .ok x w := by rw [add_at]; simp [load, Sem.run, h0]
    show ((load (Addr.add ⟨b, o, none⟩ i)).bind fun v => loadCellsFrom ⟨b, o, none⟩ (i + 1) m (acc.push v)).run P w = _
    rw [run_bind_ok h1, run_loadCellsFrom m (i + 1) xs _ (by simpa using hl) (fun j v hj => by
      have := hc (j + 1) v (by simpa using hj)
      rw [show i + 1 + j = i + (j + 1) by omega]; exact this)]
    simp
theorem run_loadCells {b o : Nat} {w : World} {xs : List Value} {m : Nat} (hl : xs.length = m) (hc : ∀ j v, xs[j]? = some v → w.cell? ⟨b, o + j, none⟩ = some v) :
    (loadCells ⟨b, o, none⟩ m).run P w = .ok xs.toArray w := by
  unfold loadCells
  rw [run_loadCellsFrom m 0 xs #[] hl (fun j v hj => by rw [Nat.zero_add]; exact hc j v hj)]
  simp

/-- cs, with vs written over it from o on. -/
def over (cs : List Value) (o : Nat) (vs : List Value) : List Value := cs.take o ++ vs ++ cs.drop (o + vs.length)
theorem over_length {cs : List Value} {o : Nat} {vs : List Value} (h : o + vs.length ≤ cs.length) : (over cs o vs).length = cs.length := by
  unfold over; simp; omega
theorem over_nil (cs : List Value) (o : Nat) : over cs o [] = cs := by unfold over; simp
theorem over_one {cs : List Value} {o : Nat} {v : Value} (h : o < cs.length) : over cs o [v] = cs.set o v := by
  unfold over; rw [List.set_eq_take_append_cons_drop, if_pos h]; simp
theorem over_cons {cs : List Value} {o : Nat} {v : Value} {vs : List Value} (h : o + (v :: vs).length ≤ cs.length) : over (cs.set o v) (o + 1) vs = over cs o (v :: vs) := by
  simp only [List.length_cons] at h
  have ho : o < cs.length := by omega
  have h1 : (cs.set o v).take (o + 1) = cs.take o ++ [v] := by
    rw [List.set_eq_take_append_cons_drop, if_pos ho, List.take_append]
    simp [Nat.min_eq_left (Nat.le_of_lt ho), List.take_take, Nat.min_eq_right (Nat.le_succ o)]
  have h2 : (cs.set o v).drop (o + 1 + vs.length) = cs.drop (o + 1 + vs.length) := by
    rw [List.drop_set, if_pos (by omega)]
  unfold over
  rw [h1, h2]
  simp only [List.length_cons, List.append_assoc, List.cons_append, List.nil_append]
  rw [show o + 1 + vs.length = o + (vs.length + 1) by omega]

/-- No cell of the first m is frozen. -/
def NoFr (fr : Nat × Nat) (m : Nat) : Prop := fr.1 = fr.2 ∨ m ≤ fr.1
theorem NoFr.zero (m : Nat) : NoFr (0, 0) m := .inl rfl
theorem cells_frozen {w : World} {b o : Nat} {cs : Array Value} {t : TypeId} {fr : Nat × Nat} (h : w.heap[b]? = some (.cells cs t fr)) (hf : NoFr fr cs.size) (ho : o < cs.size) : w.frozen? ⟨b, o, none⟩ = false := by
  unfold World.frozen?; rw [h]
  unfold NoFr at hf
  simp; omega

/-- A value that fills one cell. -/
def one : Value → Bool
  | .agg _ | .tuple _ => false
  | _ => true

theorem setCell_eq {w : World} {b o : Nat} {cs : List Value} {t : TypeId} {fr : Nat × Nat} (h : w.heap[b]? = some (.cells cs.toArray t fr)) (v : Value) : w.setCell ⟨b, o, none⟩ v = setObjW w b (.cells (cs.set o v).toArray t fr) := by
  unfold World.setCell setObjW
  have hlt : b < w.heap.size := by
    rcases Nat.lt_or_ge b w.heap.size with h1 | h1
    · exact h1
    · rw [Array.getElem?_eq_none h1] at h; cases h
  congr 1
  apply Array.ext_getElem?
  intro i
  simp only [Array.getElem?_modify, Array.getElem?_setIfInBounds]
  by_cases hi : b = i
  · subst hi
    rw [if_pos rfl, h]; simp [hlt]
  · rw [if_neg hi, if_neg hi]

theorem setObjW_set (w : World) (b : Nat) (o o' : Obj) : setObjW (setObjW w b o) b o' = setObjW w b o' := by
  unfold setObjW; simp
theorem setObjW_get {w : World} {b : Nat} {o x : Obj} (h : w.heap[b]? = some x) : (setObjW w b o).heap[b]? = some o := by
  have := congrFun (heapOf_set (o := o) h) b
  unfold heapOf updH at this; simpa using this
theorem setObjW_same {w : World} {b : Nat} {o : Obj} (h : w.heap[b]? = some o) : setObjW w b o = w := by
  unfold setObjW
  have : w.heap.setIfInBounds b o = w.heap := by
    apply Array.ext_getElem?
    intro i
    simp only [Array.getElem?_setIfInBounds]
    by_cases hi : b = i
    · subst hi
      rw [if_pos rfl, h]
      have hlt : b < w.heap.size := by
        rcases Nat.lt_or_ge b w.heap.size with h1 | h1
        · exact h1
        · rw [Array.getElem?_eq_none h1] at h; cases h
      simp [hlt]
    · rw [if_neg hi]
  rw [this]

theorem run_store {w : World} {b o : Nat} {cs : List Value} {t : TypeId} {fr : Nat × Nat} {v : Value} (h : w.heap[b]? = some (.cells cs.toArray t fr)) (hf : NoFr fr cs.length) (ho : o < cs.length) (hv : one v = true) :
    (store ⟨b, o, none⟩ v).run P w = .ok () (setObjW w b (.cells (cs.set o v).toArray t fr)) := by
  have h1 : w.cell? ⟨b, o, none⟩ = some cs[o] := by rw [cell_of_heap h]; simp [ho]
  have h2 := cells_frozen (o := o) h (by simpa using hf) (by simpa using ho)
  have h3 := setCell_eq (o := o) h v
  cases v <;> simp [one] at hv <;> simp [store, Sem.run, h1, h2, h3]

theorem run_storeCells {b o : Nat} {t : TypeId} {fr : Nat × Nat} : ∀ (vs : List Value) (i : Nat) (w : World) (cs : List Value), w.heap[b]? = some (.cells cs.toArray t fr) → NoFr fr cs.length → o + i + vs.length ≤ cs.length → (∀ v ∈ vs, one v = true) →
    (storeCells ⟨b, o, none⟩ vs i).run P w = .ok () (setObjW w b (.cells (over cs (o + i) vs).toArray t fr))
  | [], i, w, cs, h, _, _, _ => by
    unfold storeCells; rw [over_nil, setObjW_same h]; simp [pure]
  | v :: vs, i, w, cs, h, hf, hl, hv => by
    simp only [List.length_cons] at hl
    have h1 := run_store (P := P) (o := o + i) h hf (show o + i < cs.length by omega) (hv v (by simp))
    show ((store (Addr.add ⟨b, o, none⟩ i) v).bind fun _ => storeCells ⟨b, o, none⟩ vs (i + 1)).run P w = _
    rw [add_at, run_bind_ok h1, run_storeCells vs (i + 1) _ (cs.set (o + i) v) (setObjW_get h) (by simpa using hf) (by simp; omega) (fun u hu => hv u (by simp [hu]))]
    rw [setObjW_set, show o + (i + 1) = o + i + 1 by omega, over_cons (by simp; omega)]

end
end Go.Sl
