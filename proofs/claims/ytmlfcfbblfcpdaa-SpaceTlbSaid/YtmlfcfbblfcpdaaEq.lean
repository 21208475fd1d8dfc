/- Equality of structs and arrays of plain cells. No program in sight. -/
import Derived.Test.YtmlfcfbblfcpdaaMk
namespace Go.Sl
open Go Go.RowKit
set_option linter.unusedSimpArgs false
set_option linter.unusedVariables false

/-- Are two cells that may be compared equal? -/
def cellEq : Value → Value → Bool
  | .int _ a, .int _ b => a == b
  | .bool a, .bool b => a == b
  | _, _ => false
/-- Is the value a cell of the kind: none, a bool; some k, an integer of kind k? -/
def kindB : Option IntKind → Value → Bool
  | none, .bool _ => true
  | some k, .int k' _ => decide (k = k')
  | _, _ => false
def fitK : List (Option IntKind) → List Value → Bool
  | [], [] => true
  | k :: ks, x :: xs => kindB k x && fitK ks xs
  | _, _ => false
theorem fitK_len : ∀ {ks : List (Option IntKind)} {xs : List Value}, fitK ks xs = true → xs.length = ks.length
  | [], [], _ => rfl
  | k :: ks, y :: ys, h => by
    simp only [fitK, Bool.and_eq_true] at h
    simp [fitK_len h.2]
  | [], _ :: _, h => by cases h
  | _ :: _, [], h => by cases h
theorem fitK_append : ∀ {a b : List (Option IntKind)} {xs : List Value}, fitK (a ++ b) xs = true → fitK a (xs.take a.length) = true ∧ fitK b (xs.drop a.length) = true
  | [], b, xs, h => by simpa [fitK] using h
  | k :: a, b, x :: xs, h => by
    simp only [List.cons_append, fitK, Bool.and_eq_true] at h
    obtain ⟨h1, h2⟩ := fitK_append h.2
    simp only [List.length_cons, List.take_succ_cons, List.drop_succ_cons, fitK, Bool.and_eq_true]
    exact ⟨⟨h.1, h1⟩, h2⟩
  | _ :: _, _, [], h => by cases h
def eqCells : List Value → List Value → Bool
  | [], [] => true
  | x :: xs, y :: ys => cellEq x y && eqCells xs ys
  | _, _ => false
theorem eqCells_append : ∀ {a b c d : List Value}, a.length = c.length → eqCells (a ++ b) (c ++ d) = (eqCells a c && eqCells b d)
  | [], b, [], d, _ => by simp [eqCells]
  | x :: a, b, y :: c, d, h => by
    simp only [List.cons_append, eqCells, eqCells_append (a := a) (c := c) (b := b) (d := d) (by simpa using h), Bool.and_assoc]
  | [], _, _ :: _, _, h => by simp at h
  | _ :: _, _, [], _, h => by simp at h
section
variable {P : Program} {W0 : World} {e : Env} {G R : List HProp} {ty : TypeId}

/-- Fields that lie one behind another, from o on: the kinds of their cells. -/
def flatFs (g : TypeId → Option (List (Option IntKind) × Bool)) : Nat → List Field → Option (List (Option IntKind))
  | _, [] => some []
  | o, f :: fs => if f.name ≠ "_" ∧ f.offset = o then (match g f.type with
      | some (ks, _) => (match flatFs g (o + ks.length) fs with | some r => some (ks ++ r) | none => none)
      | none => none) else none
/-- A type whose values are plain cells, in order: the kinds of its cells, and is it a struct or an array? -/
def flat? (P : Program) : Nat → TypeId → Option (List (Option IntKind) × Bool)
  | 0, _ => none
  | d + 1, t =>
    match P.underlying t, P.info? t with
    | some .bool, some i => if i.size = 1 then some ([none], false) else none
    | some (.int k), some i => if i.size = 1 then some ([some k], false) else none
    | some (.struct fs), some i => if P.stoodInHeld t = true then none else
        (match flatFs (flat? P d) 0 fs.toList with | some ks => if ks.length = i.size then some (ks, true) else none | none => none)
    | some (.array len el), some i => match flat? P d el with
        | some (ks, _) => if len * ks.length = i.size then some ((List.replicate len ks).flatten, true) else none
        | none => none
    | _, _ => none
/-- The value of a type over its cells. -/
def valOf (ag : Bool) (xs : List Value) : Value := match ag with | true => .agg xs.toArray | false => xs.headD undef

theorem run_forIn_all {α β : Type} {w : World} (f : α → β → Sem (ForInStep β)) (b0 bF : β) (p : α → Bool) : ∀ (l : List α), (∀ a ∈ l, (f a b0).run P w = .ok (if p a then .yield b0 else .done bF) w) → (forIn (m := Sem) l b0 f).run P w = .ok (if l.all p then b0 else bF) w
  | [], _ => by simp [pure, Sem.run]
  | a :: l, h => by
    rw [List.forIn_cons]
    have h1 := h a (by simp)
    show ((f a b0).bind _).run P w = _
    rw [run_bind_ok h1]
    cases hp : p a with
    | true =>
      simp only [if_true]
      rw [run_forIn_all f b0 bF p l (fun x hx => h x (by simp [hx]))]
      simp [hp]
    | false => simp [hp, pure, Sem.run]

theorem eq_split {xs ys : List Value} (hl : xs.length = ys.length) (o m : Nat) : eqCells (xs.drop o) (ys.drop o) = (eqCells ((xs.drop o).take m) ((ys.drop o).take m) && eqCells (xs.drop (o + m)) (ys.drop (o + m))) := by
  have h1 : xs.drop o = (xs.drop o).take m ++ xs.drop (o + m) := by rw [← List.drop_drop, List.take_append_drop]
  have h2 : ys.drop o = (ys.drop o).take m ++ ys.drop (o + m) := by rw [← List.drop_drop, List.take_append_drop]
  have h3 := eqCells_append (a := (xs.drop o).take m) (b := xs.drop (o + m)) (c := (ys.drop o).take m) (d := ys.drop (o + m)) (by simp; omega)
  rw [← h1, ← h2] at h3; exact h3
theorem run_part {t m off : Nat} {ag : Bool} {xs : List Value} {w : World} (hs : ∃ i, P.info? t = some i ∧ i.size = m) (ha : (isAgg t).run P w = .ok ag w) (h1 : ag = false → m = 1) (ho : off + m ≤ xs.length) :
    (part t xs.toArray off).run P w = .ok (valOf ag ((xs.drop off).take m)) w := by
  obtain ⟨i, hi, rfl⟩ := hs
  unfold part
  show ((isAgg t).bind _).run P w = _
  rw [run_bind_ok ha]
  cases ag with
  | true =>
    simp only [if_true]
    have hz : (sizeOf t).run P w = .ok i.size w := by simp [sizeOf, typeInfo, program, bind, Sem.bind, pure, hi, Sem.run]
    show ((sizeOf t).bind _).run P w = _
    rw [run_bind_ok hz]
    simp only [pure, Sem.run, List.extract_toArray, List.extract_eq_take_drop, Nat.add_sub_cancel_left, valOf]
  | false =>
    have h2 := h1 rfl
    rw [h2] at ho ⊢
    have hlt : off < xs.length := by omega
    have h3 : (xs.drop off).take 1 = [xs[off]] := by rw [List.drop_eq_getElem_cons hlt]; rfl
    simp [h3, valOf, hlt, pure, Sem.run]
abbrev KB := List (Option IntKind) × Bool
theorem flatFs_all {g : TypeId → Option KB} {xs ys : List Value} : ∀ {l : List Field} {o : Nat} {ks : List (Option IntKind)}, flatFs g o l = some ks → fitK ks (xs.drop o) = true → fitK ks (ys.drop o) = true → o ≤ xs.length → xs.length = ys.length →
    (∀ f ∈ l, f.name ≠ "_" ∧ ∃ m b, g f.type = some (m, b) ∧ f.offset + m.length ≤ xs.length ∧ fitK m ((xs.drop f.offset).take m.length) = true ∧ fitK m ((ys.drop f.offset).take m.length) = true) ∧
    (l.all fun f => eqCells ((xs.drop f.offset).take ((g f.type).getD ([], false)).1.length) ((ys.drop f.offset).take ((g f.type).getD ([], false)).1.length)) = eqCells (xs.drop o) (ys.drop o)
  | [], o, ks, h, hx, hy, ho, hl => by
    simp only [flatFs, Option.some.injEq] at h
    subst h
    have h1 := fitK_len hx
    have h2 := fitK_len hy
    rw [List.length_eq_zero_iff.1 h1, List.length_eq_zero_iff.1 h2]
    simp [eqCells]
  | f :: l, o, ks, h, hx, hy, ho, hl => by
    simp only [flatFs] at h
    split at h
    · rename_i hc
      obtain ⟨hn, rfl⟩ := hc
      split at h
      · rename_i m b hg
        split at h
        · rename_i r hr
          simp only [Option.some.injEq] at h
          subst h
          obtain ⟨hx1, hx2⟩ := fitK_append hx
          obtain ⟨hy1, hy2⟩ := fitK_append hy
          rw [List.drop_drop] at hx2 hy2
          have hlen := fitK_len hx
          simp only [List.length_drop, List.length_append] at hlen
          obtain ⟨h2, h3⟩ := flatFs_all hr hx2 hy2 (by omega) hl
          refine ⟨?_, ?_⟩
          · intro f' hf'
            rcases List.mem_cons.1 hf' with rfl | hf'
            · exact ⟨hn, m, b, hg, by omega, hx1, hy1⟩
            · exact h2 f' hf'
          · rw [List.all_cons, h3, hg]
            exact (eq_split hl f.offset m.length).symm
        · cases h
      · cases h
    · cases h
theorem rep_all {ks : List (Option IntKind)} {xs ys : List Value} (hl : xs.length = ys.length) : ∀ (len o : Nat), fitK ((List.replicate len ks).flatten) (xs.drop (o * ks.length)) = true → fitK ((List.replicate len ks).flatten) (ys.drop (o * ks.length)) = true → o * ks.length ≤ xs.length →
    (∀ i ∈ List.range' o len, i * ks.length + ks.length ≤ xs.length ∧ fitK ks ((xs.drop (i * ks.length)).take ks.length) = true ∧ fitK ks ((ys.drop (i * ks.length)).take ks.length) = true) ∧
    ((List.range' o len).all fun i => eqCells ((xs.drop (i * ks.length)).take ks.length) ((ys.drop (i * ks.length)).take ks.length)) = eqCells (xs.drop (o * ks.length)) (ys.drop (o * ks.length))
  | 0, o, hx, hy, ho => by
    have h1 := fitK_len hx
    have h2 := fitK_len hy
    simp only [List.replicate_zero, List.flatten_nil, List.length_nil] at h1 h2
    rw [List.length_eq_zero_iff.1 h1, List.length_eq_zero_iff.1 h2]
    simp [eqCells]
  | len + 1, o, hx, hy, ho => by
    simp only [List.replicate_succ, List.flatten_cons] at hx hy
    have hlen := fitK_len hx
    simp only [List.length_drop, List.length_append] at hlen
    obtain ⟨hx1, hx2⟩ := fitK_append hx
    obtain ⟨hy1, hy2⟩ := fitK_append hy
    rw [List.drop_drop, ← Nat.succ_mul] at hx2 hy2
    obtain ⟨h2, h3⟩ := rep_all hl len (o + 1) hx2 hy2 (by rw [Nat.succ_mul]; omega)
    refine ⟨?_, ?_⟩
    · intro i hi
      rw [List.range'_succ] at hi
      rcases List.mem_cons.1 hi with rfl | hi
      · exact ⟨by omega, hx1, hy1⟩
      · exact h2 i hi
    · rw [List.range'_succ, List.all_cons, h3, Nat.succ_mul]
      exact (eq_split hl (o * ks.length) ks.length).symm

/-- One step of a comparison: a part against a part. -/
theorem run_step {d t off : Nat} {ks : List (Option IntKind)} {ag : Bool} {xs ys : List Value} {w : World} {β : Type} {b0 bF : β} (hs : ∃ i, P.info? t = some i ∧ i.size = ks.length) (ha : ∀ w, (isAgg t).run P w = .ok ag w) (h1 : ag = false → ks.length = 1) (ho : off + ks.length ≤ xs.length) (hl : xs.length = ys.length)
    (h : ∀ w, (Op.equalIn d t (valOf ag ((xs.drop off).take ks.length)) (valOf ag ((ys.drop off).take ks.length))).run P w = .ok (eqCells ((xs.drop off).take ks.length) ((ys.drop off).take ks.length)) w) :
    ((part t xs.toArray off).bind fun a => (part t ys.toArray off).bind fun b => (Op.equalIn d t a b).bind fun r => (if (!r) = true then Sem.pure (ForInStep.done bF) else Sem.pure (ForInStep.yield b0) : Sem (ForInStep β))).run P w =
      .ok (if eqCells ((xs.drop off).take ks.length) ((ys.drop off).take ks.length) then .yield b0 else .done bF) w := by
  rw [run_bind_ok (run_part hs (ha w) h1 ho), run_bind_ok (run_part hs (ha w) h1 (by omega)), run_bind_ok (h w)]
  cases eqCells ((xs.drop off).take ks.length) ((ys.drop off).take ks.length) <;> rfl

theorem flat_spec : ∀ (d : Nat) (t : TypeId) (ks : List (Option IntKind)) (ag : Bool), flat? P d t = some (ks, ag) → (∃ i, P.info? t = some i ∧ i.size = ks.length) ∧ (∀ w, (isAgg t).run P w = .ok ag w) ∧ (ag = false → ks.length = 1) ∧
    ∀ (j : Nat) (xs ys : List Value), fitK ks xs = true → fitK ks ys = true → ∀ w, (Op.equalIn (d + j) t (valOf ag xs) (valOf ag ys)).run P w = .ok (eqCells xs ys) w
  | 0, t, n, ag, h => by cases h
  | d + 1, t, n, ag, h => by
    have hdj : ∀ j, d + 1 + j = (d + j) + 1 := by omega
    unfold flat? at h
    split at h
    · rename_i i hu hi
      split at h
      · rename_i hs
        simp only [Option.some.injEq, Prod.mk.injEq] at h
        obtain ⟨rfl, rfl⟩ := h
        refine ⟨⟨i, hi, hs⟩, fun w => by simp [isAgg, underlying, program, bind, Sem.bind, pure, hu, Sem.run], fun _ => rfl, fun j xs ys hx hy w => ?_⟩
        obtain ⟨x, rfl⟩ := List.length_eq_one_iff.1 (fitK_len hx)
        obtain ⟨y, rfl⟩ := List.length_eq_one_iff.1 (fitK_len hy)
        rw [hdj, Op.equalIn]
        show ((underlying t).bind _).run P w = _
        rw [run_bind_ok (run_underlying hu w)]
        cases x <;> simp [fitK, kindB] at hx
        cases y <;> simp [fitK, kindB] at hy
        simp [valOf, eqCells, cellEq, pure, Sem.run]
      · cases h
    · rename_i k i hu hi
      split at h
      · rename_i hs
        simp only [Option.some.injEq, Prod.mk.injEq] at h
        obtain ⟨rfl, rfl⟩ := h
        refine ⟨⟨i, hi, hs⟩, fun w => by simp [isAgg, underlying, program, bind, Sem.bind, pure, hu, Sem.run], fun _ => rfl, fun j xs ys hx hy w => ?_⟩
        obtain ⟨x, rfl⟩ := List.length_eq_one_iff.1 (fitK_len hx)
        obtain ⟨y, rfl⟩ := List.length_eq_one_iff.1 (fitK_len hy)
        rw [hdj, Op.equalIn]
        show ((underlying t).bind _).run P w = _
        rw [run_bind_ok (run_underlying hu w)]
        cases x <;> simp [fitK, kindB] at hx
        cases y <;> simp [fitK, kindB] at hy
        subst hx hy
        simp [valOf, eqCells, cellEq, pure, Sem.run]
      · cases h
    · rename_i fs i hu hi
      split at h
      · cases h
      · rename_i hst
        split at h
        · rename_i ks hk
          split at h
          · rename_i hs
            simp only [Option.some.injEq, Prod.mk.injEq] at h
            obtain ⟨rfl, rfl⟩ := h
            refine ⟨⟨i, hi, hs.symm⟩, fun w => by simp [isAgg, underlying, program, bind, Sem.bind, pure, hu, Sem.run], fun q => (by cases q), fun j xs ys hx hy w => ?_⟩
            rw [hdj, Op.equalIn]
            show ((underlying t).bind _).run P w = _
            rw [run_bind_ok (run_underlying hu w)]
            have hl : xs.length = ys.length := by rw [fitK_len hx, fitK_len hy]
            obtain ⟨h2, h3⟩ := flatFs_all (xs := xs) (ys := ys) hk (by simpa using hx) (by simpa using hy) (Nat.zero_le _) hl
            simp only [List.drop_zero] at h3
            simp only [valOf, program, bind, Sem.bind, hst, pure, if_false, Sem.run, Bool.false_eq_true]
            rw [← Array.forIn_toList]
            rw [run_bind_ok (run_forIn_all _ _ (some false, ()) (fun f => eqCells ((xs.drop f.offset).take ((flat? P d f.type).getD ([], false)).1.length) ((ys.drop f.offset).take ((flat? P d f.type).getD ([], false)).1.length)) fs.toList ?_)]
            · rw [h3]
              cases eqCells xs ys <;> rfl
            · intro f hf
              obtain ⟨hn, m, b, hg, ho, hx1, hy1⟩ := h2 f hf
              obtain ⟨q1, q2, q3, q4⟩ := flat_spec d f.type m b hg
              rw [if_pos hn, hg]
              exact run_step q1 q2 q3 ho hl (q4 j _ _ hx1 hy1)
          · cases h
        · cases h
    · rename_i len el i hu hi
      split at h
      · rename_i ks b hg
        split at h
        · rename_i hs
          simp only [Option.some.injEq, Prod.mk.injEq] at h
          obtain ⟨rfl, rfl⟩ := h
          have hfl : ((List.replicate len ks).flatten).length = len * ks.length := by simp
          obtain ⟨q1, q2, q3, q4⟩ := flat_spec d el ks b hg
          refine ⟨⟨i, hi, by rw [hfl]; exact hs.symm⟩, fun w => by simp [isAgg, underlying, program, bind, Sem.bind, pure, hu, Sem.run], fun q => (by cases q), fun j xs ys hx hy w => ?_⟩
          rw [hdj, Op.equalIn]
          show ((underlying t).bind _).run P w = _
          rw [run_bind_ok (run_underlying hu w)]
          have hl : xs.length = ys.length := by rw [fitK_len hx, fitK_len hy]
          obtain ⟨h2, h3⟩ := rep_all (ks := ks) hl len 0 (by simpa using hx) (by simpa using hy) (by simp)
          simp only [Nat.zero_mul, List.drop_zero] at h3
          obtain ⟨ii, hii, hiz⟩ := q1
          have hz : (sizeOf el).run P w = .ok ks.length w := by simp [sizeOf, typeInfo, program, bind, Sem.bind, pure, hii, Sem.run, hiz]
          simp only [valOf]
          show ((sizeOf el).bind _).run P w = _
          rw [run_bind_ok hz]
          simp only [program, bind, Sem.bind, pure, Std.Legacy.Range.forIn_eq_forIn_range']
          rw [run_bind_ok (run_forIn_all _ _ (some false, ()) (fun i => eqCells ((xs.drop (i * ks.length)).take ks.length) ((ys.drop (i * ks.length)).take ks.length)) _ ?_)]
          · simp only [Std.Legacy.Range.size, Nat.sub_zero, Nat.add_sub_cancel, Nat.div_one]
            rw [h3]
            cases eqCells xs ys <;> rfl
          · intro k hk
            simp only [Std.Legacy.Range.size, Nat.sub_zero, Nat.add_sub_cancel, Nat.div_one] at hk
            obtain ⟨ho, hx1, hy1⟩ := h2 k hk
            exact run_step ⟨ii, hii, hiz⟩ q2 q3 ho hl (q4 j _ _ hx1 hy1)
        · cases h
      · cases h
    · cases h

/-- Structs and arrays of plain cells, compared. -/
theorem run_agg_equal {d : Nat} {t : TypeId} {ks : List (Option IntKind)} {xs ys : List Value} {w : World} (hd : d ≤ 10000) (ht : flat? P d t = some (ks, true)) (hx : fitK ks xs = true) (hy : fitK ks ys = true) :
    (Op.equal t (.agg xs.toArray) (.agg ys.toArray)).run P w = .ok (eqCells xs ys) w := by
  have := (flat_spec d t ks true ht).2.2.2 (10000 - d) xs ys hx hy w
  rw [Nat.add_sub_of_le hd] at this
  exact this
theorem run_agg_guard {op : BinOp} {t : TypeId} {x y : Operand} {a b : Array Value} {w : World} (hg : P.eqGuardType P.depth t = false) : (eqGuard op t x y (.agg a) (.agg b)).run P w = .ok () w := by
  cases op <;> simp [eqGuard, program, bind, Sem.bind, pure, hg, Sem.run]
theorem Yield.agg_eql (d : Nat) {t t' : TypeId} {x y : Operand} {ks : List (Option IntKind)} {xs ys : List Value} {b : Bool} (hx : e.ev x = some (.agg xs.toArray)) (hy : e.ev y = some (.agg ys.toArray)) (hd : d ≤ 10000) (ht : flat? P d t = some (ks, true)) (hg : P.eqGuardType P.depth t = false)
    (hfx : fitK ks xs = true) (hfy : fitK ks ys = true) (hb : eqCells xs ys = b) : Yield P W0 (.binOp .eql t x y t') ty e G (.bool b) := fun ρ hρ w _ _ _ _ _ => by
  refine run_eqOf (hρ x _ hx) (hρ y _ hy) (run_agg_guard hg) ?_
  show ((Op.equal t (.agg xs.toArray) (.agg ys.toArray)).bind _).run P w = _
  rw [run_bind_ok (run_agg_equal hd ht hfx hfy), hb]; rfl
theorem Yield.agg_neq (d : Nat) {t t' : TypeId} {x y : Operand} {ks : List (Option IntKind)} {xs ys : List Value} {b : Bool} (hx : e.ev x = some (.agg xs.toArray)) (hy : e.ev y = some (.agg ys.toArray)) (hd : d ≤ 10000) (ht : flat? P d t = some (ks, true)) (hg : P.eqGuardType P.depth t = false)
    (hfx : fitK ks xs = true) (hfy : fitK ks ys = true) (hb : (!eqCells xs ys) = b) : Yield P W0 (.binOp .neq t x y t') ty e G (.bool b) := fun ρ hρ w _ _ _ _ _ => by
  refine run_eqOf (hρ x _ hx) (hρ y _ hy) (run_agg_guard hg) ?_
  show ((Op.equal t (.agg xs.toArray) (.agg ys.toArray)).bind _).run P w = _
  rw [run_bind_ok (run_agg_equal hd ht hfx hfy), hb]; rfl

/-- An element of an array that is a value. -/
theorem Yield.index_agg {t el : TypeId} {len : Nat} {x i : Operand} {cs : List Value} {v : Value} {sz by' z} {k : IntKind} {j : Int} (hu : P.underlying t = some (.array len el)) (ht : TI P el sz by' z false) (hx : e.ev x = some (.agg cs.toArray)) (hi : e.ev i = some (.int k j))
    (h0 : 0 ≤ j) (h1 : j < len) (hv : cs[j.toNat * sz]? = some v) : Yield P W0 (.index t x i) ty e G v := fun ρ hρ w _ _ _ _ _ => by
  have h2 : (part el cs.toArray (j.toNat * sz)).run P w = .ok v w := by
    unfold part
    show ((isAgg el).bind _).run P w = _
    rw [run_bind_ok (ht.run_agg w)]
    simp [hv, pure, Sem.run]
  have h3 : (Instr.index t (.agg cs.toArray) (.int k j)).run P w = .ok v w := by
    unfold Instr.index
    simp only [asIntOf, bind, pure, Sem.bind]
    rw [run_bind_ok (run_underlying hu w)]
    simp only [h0, h1, and_self, if_true]
    rw [run_bind_ok (ht.run_size w)]
    exact h2
  show ((Instr.index t (ρ x) (ρ i)).bind _).run P w = _
  rw [hρ x _ hx, hρ i _ hi, run_bind_ok h3]; rfl
end
end Go.Sl
