/- Slices: what is read through one, what is owned, append, copy, make, strings and bytes. No program in sight. -/
import Derived.Test.YtmlfcfbblfcpdaaFn
namespace Go.Sl
open Go Go.RowKit
set_option linter.unusedSimpArgs false
set_option linter.unusedVariables false

/-- In the world w the slice (a, m elements of sz cells) reads as the cells xs. -/
def SlAt (w : World) (sz : Nat) (a : Option Addr) (m : Nat) (xs : List Value) : Prop :=
  xs.length = m * sz ∧ (xs = [] ∨ ∃ b o, a = some ⟨b, o, none⟩ ∧ ∀ i v, xs[i]? = some v → w.cell? ⟨b, o + i, none⟩ = some v)
/-- .. in every world that bears G. -/
def SlR (W0 : World) (G : List HProp) (sz : Nat) (a : Option Addr) (m : Nat) (xs : List Value) : Prop := ∀ w, Sat W0 G w → SlAt w sz a m xs
/-- The slice with address a, m elements of sz cells, capacity c owns its array; its elements' cells are xs. -/
def osl (E sz : Nat) (a : Option Addr) (c m : Nat) (xs : List Value) : HProp := fun h => xs.length = m * sz ∧ m ≤ c ∧ ((a = none ∧ c = 0 ∧ xs = []) ∨
  ∃ (b o : Nat) (cs : List Value) (fr : Nat × Nat), a = some ⟨b, o, none⟩ ∧ h b = some (.cells cs.toArray E fr) ∧ NoFr fr cs.length ∧ o + c * sz ≤ cs.length ∧ (cs.drop o).take (m * sz) = xs)

theorem take_get {cs xs : List Value} {o k i : Nat} {v : Value} (h : (cs.drop o).take k = xs) (hi : xs[i]? = some v) : cs[o + i]? = some v := by
  subst h
  rw [List.getElem?_take] at hi
  split at hi
  · rw [List.getElem?_drop] at hi; exact hi
  · cases hi
theorem le_of_get {xs : List Value} {i : Nat} {v : Value} (hi : xs[i]? = some v) : i < xs.length := by
  rcases Nat.lt_or_ge i xs.length with h1 | h1
  · exact h1
  · rw [List.getElem?_eq_none h1] at hi; cases hi

section
variable {P : Program} {W0 : World} {e : Env} {G R : List HProp} {ty : TypeId} {E sz : Nat} {a : Option Addr} {c m : Nat} {xs : List Value}

theorem SlR.imp {G' : List HProp} (h : SlR W0 G' sz a m xs) (hi : Imp G G') : SlR W0 G sz a m xs := fun w hw => h w (hw.imp hi)
theorem SlR.of_osl (x : Ext G (osl E sz a c m xs) R) : SlR W0 G sz a m xs := fun w hw => by
  obtain ⟨f, hf, h1, _, h3⟩ := Sat.ext x hw
  refine ⟨h1, ?_⟩
  rcases h3 with ⟨_, _, h⟩ | ⟨b, o, cs, fr, ha, hb, _, _, ht⟩
  · exact .inl h
  · exact .inr ⟨b, o, ha, fun i v hi => by rw [cell_of_heap (hf _ _ hb)]; exact take_get ht hi⟩
theorem SlR.of_osl_eq {m' : Nat} {xs' : List Value} (x : Ext G (osl E sz a c m xs) R) (h1 : m = m') (h2 : xs = xs') : SlR W0 G sz a m' xs' := by
  subst h1 h2; exact SlR.of_osl x
theorem SlR.of_row {b o : Nat} (h : Row W0 G b o xs) (hl : xs.length = m * sz) : SlR W0 G sz (some ⟨b, o, none⟩) m xs := fun w hw => ⟨hl, .inr ⟨b, o, rfl, fun i v hi => h i v hi w hw⟩⟩
theorem SlR.nil : SlR W0 G sz none 0 [] := fun _ _ => ⟨by simp, .inl rfl⟩
theorem SlAt.len {w : World} (h : SlAt w sz a m xs) : xs.length = m * sz := h.1

theorem SlR.cel {b o i : Nat} {v : Value} (h : SlR W0 G sz (some ⟨b, o, none⟩) m xs) (hi : xs[i]? = some v) : Cel W0 G ⟨b, o + i, none⟩ v := fun w hw => by
  obtain ⟨_, h2 | ⟨b', o', ha, h2⟩⟩ := h w hw
  · subst h2; simp at hi
  · cases ha; exact h2 i v hi
theorem SlR.row {b o : Nat} (h : SlR W0 G sz (some ⟨b, o, none⟩) m xs) (i k : Nat) {ys : List Value} (hy : (xs.drop i).take k = ys) : Row W0 G b (o + i) ys := fun j v hj => by
  rw [Nat.add_assoc]; exact h.cel (take_get hy hj)
/-- A slice that is not empty has an address. -/
theorem SlR.shape (h : SlR W0 G sz a m xs) (h0 : xs ≠ []) (w : World) (hw : Sat W0 G w) : ∃ b o, a = some ⟨b, o, none⟩ := by
  obtain ⟨_, h2 | ⟨b', o', ha, _⟩⟩ := h w hw
  · exact absurd h2 h0
  · exact ⟨b', o', ha⟩
theorem osl_facts (x : Ext G (osl E sz a c m xs) R) (w : World) (hw : Sat W0 G w) : xs.length = m * sz ∧ m ≤ c := by
  obtain ⟨f, hf, h1, h2, _⟩ := Sat.ext x hw
  exact ⟨h1, h2⟩

/-- A piece of what is read. -/
theorem SlR.cut {l h cc : Nat} {ys : List Value} (s : SlR W0 G sz a m xs) (hlh : l ≤ h) (hh : h ≤ m) (hc : m ≤ cc) (hy : (xs.drop (l * sz)).take ((h - l) * sz) = ys) : SlR W0 G sz (a.map fun a => cutAt a l cc sz) (h - l) ys := fun w hw => by
  obtain ⟨h1, h2⟩ := s w hw
  have hle : h * sz ≤ m * sz := Nat.mul_le_mul_right _ hh
  have hlen : ys.length = (h - l) * sz := by
    subst hy; simp only [List.length_take, List.length_drop, h1, Nat.sub_mul]; omega
  refine ⟨hlen, ?_⟩
  rcases h2 with h2 | ⟨b, o, rfl, h2⟩
  · subst h2; exact .inl (by simpa using hy.symm)
  · by_cases hq : cc = l
    · have : h - l = 0 := by omega
      rw [this] at hlen; simp at hlen; exact .inl hlen
    · refine .inr ⟨b, o + l * sz, by simp [cutAt, hq, add_at], fun i v hi => ?_⟩
      rw [Nat.add_assoc]; exact h2 _ v (take_get hy hi)

/-! ### append -/
theorem growBy_le (need : Nat) : ∀ (r c : Nat), c ≤ 2 * need + 768 → Builtin.growBy need r c ≤ 2 * need + 768
  | 0, c, h => h
  | r + 1, c, h => by
    unfold Builtin.growBy
    split
    · exact h
    · exact growBy_le need r _ (by omega)
theorem nextslicecap_le {need c : Nat} (h : c < need) : Builtin.nextslicecap need c ≤ 2 * need + 768 := by
  unfold Builtin.nextslicecap
  split
  · omega
  · split
    · omega
    · exact growBy_le need 4 c (by omega)

theorem run_firstCells {w : World} {cc : Nat} (h : SlAt w sz a m xs) : (Builtin.firstCells sz m (.slice a m cc)).run P w = .ok xs.toArray w := by
  obtain ⟨h1, h2⟩ := h
  cases a with
  | none =>
    rcases h2 with h2 | ⟨_, _, h2, _⟩
    · subst h2; simp [Builtin.firstCells, pure, Sem.run]
    · cases h2
  | some ad =>
    rcases h2 with h2 | ⟨b, o, h2, h3⟩
    · subst h2
      have : m * sz = 0 := by simpa using h1.symm
      simp [Builtin.firstCells, this, loadCells, loadCellsFrom, pure, Sem.run]
    · cases h2; exact run_loadCells h1 h3
theorem run_firstCells_le {w : World} {cc k : Nat} (h : SlAt w sz a m xs) (hk : k ≤ m) : (Builtin.firstCells sz k (.slice a m cc)).run P w = .ok (xs.take (k * sz)).toArray w := by
  have h1 := h.1
  have hle : k * sz ≤ m * sz := Nat.mul_le_mul_right _ hk
  have : SlAt w sz a k (xs.take (k * sz)) := by
    refine ⟨by rw [List.length_take, h1]; omega, ?_⟩
    rcases h.2 with h2 | ⟨b, o, h2, h3⟩
    · subst h2; simp
    · exact .inr ⟨b, o, h2, fun i v hi => h3 i v (by rw [List.getElem?_take] at hi; split at hi; exact hi; cases hi)⟩
  have h2 := run_firstCells (P := P) (cc := cc) this
  cases a <;> exact h2

theorem osl_over {o : Nat} {cs ys : List Value} (h : (cs.drop o).take (m * sz) = xs) (hl : xs.length = m * sz) (ho : o + (m * sz + ys.length) ≤ cs.length) :
    ((over cs (o + m * sz) ys).drop o).take (m * sz + ys.length) = xs ++ ys := by
  unfold over
  have h0 : o + m * sz ≤ cs.length := by omega
  have e1 : cs.take (o + m * sz) = cs.take o ++ xs := by rw [List.take_add, h]
  rw [e1]
  simp only [List.append_assoc]
  rw [List.drop_append, List.drop_eq_nil_of_le (by simp; omega)]
  have : o - (List.take o cs).length = 0 := by simp; omega
  rw [this]
  simp only [List.drop_zero, List.nil_append]
  rw [← List.append_assoc, List.take_append_of_le_length (by simp [hl])]
  rw [List.take_of_length_le (by simp [hl])]

theorem run_built {b : Builtin} {args : List Operand} {vs : List Value} {ats : Array TypeId} {ρ : Operand → Value} {s : Sem Value} (hρ : Agrees e ρ) (ha : e.evs args = some vs) {w w' : World} {u : Value} {dst pos after guard}
    (hb : ∀ cb, builtin b ats ty cb vs.toArray = s.bind fun v => .pure (.value v)) (h : s.run P w = .ok u w') :
    (execOp ρ ⟨dst, .call { callee := .builtin b, args := args.toArray, argTypes := ats }, ty, pos, after, guard⟩).run P w = .ok (.value u) w' := by
  refine run_builtin hρ ha ?_
  rw [hb, run_bind_ok h]; rfl

theorem run_append_room {st st2 el el2 : TypeId} {a2 : Option Addr} {k c2 by' : Nat} {z : Value} {ag : Bool} {ys cs : List Value} {w : World} {b o : Nat} {fr : Nat × Nat}
    (hu : P.underlying st = some (.slice el)) (hu2 : P.underlying st2 = some (.slice el2)) (ht : TI P el sz by' z ag) (hcap : m + k ≤ c) (hs2 : SlAt w sz a2 k ys)
    (hb : w.heap[b]? = some (.cells cs.toArray E fr)) (hf : NoFr fr cs.length) (ho : o + c * sz ≤ cs.length) (hone : ∀ v ∈ ys, one v = true) :
    (Builtin.append_ #[st, st2] ty #[.slice (some ⟨b, o, none⟩) m c, .slice a2 k c2]).run P w = .ok (.slice (some ⟨b, o, none⟩) (m + k) c) (setObjW w b (.cells (over cs (o + m * sz) ys).toArray E fr)) := by
  unfold Builtin.append_
  simp only [List.getElem?_toArray, List.getElem?_cons_zero, List.getElem?_cons_succ]
  show ((underlying st).bind _).run P w = _
  rw [run_bind_ok (run_underlying hu w)]
  simp only []
  show ((sizeOf el).bind _).run P w = _
  rw [run_bind_ok (ht.run_size w)]
  simp only [bind]
  rw [run_bind_ok (run_underlying hu2 w)]
  simp only []
  rw [run_bind_ok (show (Pure.pure false : Sem Bool).run P w = .ok false w from rfl)]
  simp only [Bool.false_eq_true, if_false]
  rw [run_bind_ok (show (Builtin.lenOf (.slice a2 k c2)).run P w = .ok k w by rfl)]
  simp only [Bool.not_false, if_true]
  rw [if_pos hcap, run_bind_ok (run_firstCells hs2)]
  simp only []
  have hle : (m + k) * sz ≤ c * sz := Nat.mul_le_mul_right _ hcap
  rw [Nat.add_mul] at hle
  have hl := hs2.1
  have h1 := run_storeCells (P := P) (b := b) (o := o + m * sz) (t := E) ys 0 w cs hb hf (by rw [hl]; omega) hone
  rw [add_at, run_bind_ok h1]
  rfl

theorem run_append_grow {st st2 el el2 : TypeId} {a2 : Option Addr} {k c2 by' : Nat} {z : Value} {ag : Bool} {ys : List Value} {w : World}
    (hu : P.underlying st = some (.slice el)) (hu2 : P.underlying st2 = some (.slice el2)) (ht : TI P el sz by' z ag) (hz : z.cells.size = sz) (hcap : ¬ m + k ≤ c) (hs : SlAt w sz a m xs) (hs2 : SlAt w sz a2 k ys)
    (hb : (2 * (m + k) + 768) * by' ≤ 2 ^ 48) (hb2 : m + k < 2 ^ 62) (hby : 0 < by') :
    ∃ (nc : Nat) (cs : List Value), m + k ≤ nc ∧ nc * sz = cs.length ∧ cs.take ((m + k) * sz) = xs ++ ys ∧
    (Builtin.append_ #[st, st2] ty #[.slice a m c, .slice a2 k c2]).run P w = .ok (.slice (some ⟨w.heap.size, 0, none⟩) (m + k) nc) { w with heap := w.heap.push (.cells cs.toArray el (0, 0)), drawn := w.drawn + 1 } := by
  obtain ⟨i, hi, hi1, hi2, hi3⟩ := ht.run_info w
  have hnc := nextslicecap_le (need := m + k) (c := c) (by omega)
  have hnc2 : Builtin.nextslicecap (m + k) c * by' ≤ 2 ^ 48 := Nat.le_trans (Nat.mul_le_mul_right _ hnc) hb
  let nc := (m + k) + w.tape w.drawn (.appendCap (m + k) c el) % (2 ^ 63 - (m + k))
  have hge : m + k ≤ nc := Nat.le_add_right _ _
  refine ⟨nc, xs ++ ys ++ (Builtin.zeroCells z.cells (nc - (m + k))).toList, hge, ?_, ?_, ?_⟩
  · simp only [List.length_append, hs.1, hs2.1, Builtin.zeroCells, Array.length_toList, Array.size_map, Array.size_range, hz, Nat.sub_mul, Nat.add_mul]
    have : m * sz + k * sz ≤ nc * sz := by rw [← Nat.add_mul]; exact Nat.mul_le_mul_right _ hge
    omega
  · rw [List.take_append_of_le_length (by simp [hs.1, hs2.1, Nat.add_mul]), List.take_of_length_le (by simp [hs.1, hs2.1, Nat.add_mul])]
  · unfold Builtin.append_
    simp only [List.getElem?_toArray, List.getElem?_cons_zero, List.getElem?_cons_succ]
    show ((underlying st).bind _).run P w = _
    rw [run_bind_ok (run_underlying hu w)]
    simp only []
    show ((sizeOf el).bind _).run P w = _
    rw [run_bind_ok (ht.run_size w)]
    simp only [bind]
    rw [run_bind_ok (run_underlying hu2 w)]
    simp only []
    rw [run_bind_ok (show (Pure.pure false : Sem Bool).run P w = .ok false w from rfl)]
    simp only [Bool.false_eq_true, if_false]
    rw [run_bind_ok (show (Builtin.lenOf (.slice a2 k c2)).run P w = .ok k w by rfl)]
    simp only [Bool.not_false, if_true]
    rw [if_neg hcap, run_bind_ok hi]
    rw [if_neg (by rw [hi2]; rintro ⟨_, h | h⟩ <;> first | omega | cases h)]
    rw [run_bind_ok hi, if_neg (by rw [hi2]; omega)]
    have hch : (choose (.appendCap (m + k) c el)).run P w = .ok nc { w with drawn := w.drawn + 1 } := by
      simp [choose, Sem.run, Question.forced, Question.cut, nc]
    rw [run_bind_ok hch]
    let w1 : World := { w with drawn := w.drawn + 1 }
    have hw1 : ∀ ad, w1.cell? ad = w.cell? ad := fun _ => rfl
    have hs' : SlAt w1 sz a m xs := hs
    have hs2' : SlAt w1 sz a2 k ys := hs2
    obtain ⟨i', hi', hj1, hj2, hj3⟩ := ht.run_info w1
    rw [run_bind_ok hi']
    rw [run_bind_ok (show (askRoom (nc * i'.bytes)).run P w1 = .ok () w1 by unfold askRoom; split <;> simp [mark, pure, Sem.run])]
    rw [run_bind_ok (run_firstCells hs'), run_bind_ok (run_firstCells hs2')]
    rw [run_bind_ok (ht.run_zero w1)]
    simp only [newRow, newObj, bind, Sem.bind, pure, Sem.run]
    have : (Array.mk (xs ++ ys ++ (Builtin.zeroCells z.cells (nc - (m + k))).toList)) = xs.toArray ++ ys.toArray ++ Builtin.zeroCells z.cells (nc - (m + k)) := by
      apply Array.ext'; simp
    rw [← this]

/-- append onto a slice of one's own. -/
theorem Eff.append {x y : Operand} {st st2 el el2 : TypeId} {a2 : Option Addr} {k c2 by' : Nat} {z : Value} {ag : Bool} {ys : List Value} {put : HProp → List HProp} {ats : Array TypeId}
    (hx : e.ev x = some (.slice a m c)) (hy : e.ev y = some (.slice a2 k c2)) (hats : ats = #[st, st2]) (hu : P.underlying st = some (.slice el)) (hu2 : P.underlying st2 = some (.slice el2)) (ht : TI P el sz by' z ag) (hz : z.cells.size = sz) (hby : 0 < by')
    (fc : Foc G (osl el sz a c m xs) put) (hr : SlR W0 G sz a2 k ys) (hone : ∀ v ∈ ys, one v = true) (hb : (2 * (m + k) + 768) * by' ≤ 2 ^ 48) :
    Eff P W0 (.call { callee := .builtin .append, args := #[x, y], argTypes := ats }) ty e G (fun _ : Option Addr × Nat => True) (fun p => .slice p.1 (m + k) p.2) (fun p => put (osl el sz p.1 p.2 (m + k) (xs ++ ys))) := fun ρ hρ w hw _ _ _ _ => by
  subst hats
  obtain ⟨R, hR⟩ := foc_ext fc
  have hs0 := SlR.of_osl (W0 := W0) hR w hw
  have hy0 := hr w hw
  have hevs : e.evs [x, y] = some [.slice a m c, .slice a2 k c2] := by simp only [Env.evs, hx, hy]
  have hb2 : m + k < 2 ^ 62 := by
    have : (2 * (m + k) + 768) * 1 ≤ (2 * (m + k) + 768) * by' := Nat.mul_le_mul_left _ hby
    omega
  by_cases hcap : m + k ≤ c
  · obtain ⟨f, hf, hA⟩ := Sat.ext hR hw
    obtain ⟨h1, h2, h3⟩ := hA
    rcases h3 with ⟨rfl, rfl, rfl⟩ | ⟨b, o, cs, fr, rfl, hbk, hfr, ho, htk⟩
    · -- a nil slice, and nothing to append
      have hm : m = 0 := by omega
      have hk : k = 0 := by omega
      subst hm hk
      have hys : ys = [] := List.length_eq_zero_iff.1 (by rw [hy0.1]; simp)
      subst hys
      refine ⟨(none, 0), w, trivial, ?_, .inl ?_⟩
      · simp only [List.append_nil]
        obtain ⟨R', e', hp⟩ := fc
        exact hw.imp (Imp.trans e'.1 (hp _))
      · refine run_built (s := Builtin.append_ #[st, st2] ty #[.slice none 0 0, .slice a2 0 c2]) hρ hevs (fun _ => rfl) ?_
        unfold Builtin.append_
        simp only [List.getElem?_toArray, List.getElem?_cons_zero, List.getElem?_cons_succ]
        show ((underlying st).bind _).run P w = _
        rw [run_bind_ok (run_underlying hu w)]
        simp only []
        show ((sizeOf el).bind _).run P w = _
        rw [run_bind_ok (ht.run_size w)]
        simp only [bind]
        rw [run_bind_ok (run_underlying hu2 w)]
        simp only []
        rw [run_bind_ok (show (Pure.pure false : Sem Bool).run P w = .ok false w from rfl)]
        simp only [Bool.false_eq_true, if_false]
        rw [run_bind_ok (show (Builtin.lenOf (.slice a2 0 c2)).run P w = .ok 0 w by rfl)]
        simp only [Bool.not_false, if_true]
        rw [if_pos hcap, run_bind_ok (run_firstCells hy0)]
        rfl
    · have hwb := hf _ _ hbk
      have hle : (m + k) * sz ≤ c * sz := Nat.mul_le_mul_right _ hcap
      have hle' := hle
      rw [Nat.add_mul] at hle'
      refine ⟨(some ⟨b, o, none⟩, c), setObjW w b (.cells (over cs (o + m * sz) ys).toArray el fr), trivial, ?_, .inl ?_⟩
      · refine Sat.write (b := b) (o := .cells cs.toArray el fr) fc hw hwb ?_
        intro f' hle' hf'
        obtain ⟨h1', _, h3'⟩ := hf'
        rcases h3' with ⟨h, _⟩ | ⟨b', o', cs', fr', hq, hbk', _, _, htk'⟩
        · cases h
        · cases hq
          have hsame : some (Obj.cells cs'.toArray el fr') = some (Obj.cells cs.toArray el fr) := (hle' _ _ hbk').symm.trans hwb
          have hcs : cs' = cs := by
            simp only [Option.some.injEq, Obj.cells.injEq] at hsame
            exact List.toArray_inj hsame.1
          have hfr' : fr' = fr := by
            simp only [Option.some.injEq, Obj.cells.injEq] at hsame
            exact hsame.2.2
          subst hcs hfr'
          have hl2 := hy0.1
          refine ⟨hbk', by simp [h1, hl2, Nat.add_mul], hcap, .inr ⟨b, o, over cs' (o + m * sz) ys, fr', rfl, by simp [updH], ?_, ?_, ?_⟩⟩
          · rw [over_length (by omega)]; exact hfr
          · rw [over_length (by omega)]; exact ho
          · have := osl_over htk' h1 (ys := ys) (by omega)
            rw [Nat.add_mul, ← hl2]; exact this
      · exact run_built (s := Builtin.append_ #[st, st2] ty #[.slice (some ⟨b, o, none⟩) m c, .slice a2 k c2]) hρ hevs (fun _ => rfl) (run_append_room hu hu2 ht hcap hy0 hwb hfr ho hone)
  · obtain ⟨nc, cs, h1, h2, h3, h4⟩ := run_append_grow (P := P) (ty := ty) (c := c) (c2 := c2) hu hu2 ht hz hcap hs0 hy0 hb hb2 hby
    refine ⟨(some ⟨w.heap.size, 0, none⟩, nc), _, trivial, ?_, .inl (run_built (s := Builtin.append_ #[st, st2] ty #[.slice a m c, .slice a2 k c2]) hρ hevs (fun _ => rfl) h4)⟩
    have hnew := Sat.draw (Sat.new hw (.cells cs.toArray el (0, 0))) (w.drawn + 1)
    obtain ⟨R', e', hp⟩ := fc
    refine (hnew.imp (Imp.trans (Imp.cons (Imp.trans e'.1 Imp.drop)) (Imp.trans (Imp.head (fun f hf => ?_)) (hp _))))
    refine ⟨by simp [hs0.1, hy0.1, Nat.add_mul], h1, .inr ⟨w.heap.size, 0, cs, (0, 0), rfl, hf, NoFr.zero _, by show 0 + nc * sz ≤ _; omega, by simpa using h3⟩⟩
/-- append onto an empty slice of one's own. -/
theorem Eff.append0 {x y : Operand} {st st2 el el2 : TypeId} {a2 : Option Addr} {k c2 by' : Nat} {z : Value} {ag : Bool} {ys : List Value} {put : HProp → List HProp} {ats : Array TypeId}
    (hx : e.ev x = some (.slice a 0 c)) (hy : e.ev y = some (.slice a2 k c2)) (hats : ats = #[st, st2]) (hu : P.underlying st = some (.slice el)) (hu2 : P.underlying st2 = some (.slice el2)) (ht : TI P el sz by' z ag) (hz : z.cells.size = sz) (hby : 0 < by')
    (fc : Foc G (osl el sz a c 0 []) put) (hr : SlR W0 G sz a2 k ys) (hone : ∀ v ∈ ys, one v = true) (hb : (2 * k + 768) * by' ≤ 2 ^ 48) :
    Eff P W0 (.call { callee := .builtin .append, args := #[x, y], argTypes := ats }) ty e G (fun _ : Option Addr × Nat => True) (fun p => .slice p.1 k p.2) (fun p => put (osl el sz p.1 p.2 k ys)) := by
  have := Eff.append (ty := ty) hx hy hats hu hu2 ht hz hby fc hr hone (by rw [Nat.zero_add]; exact hb)
  simpa only [Nat.zero_add, List.nil_append] using this
end
end Go.Sl
