/- The operations, one by one: what each yields and how it changes what the memory bears. No program in sight. -/
import Derived.Test.YtmlfcfbblfcpdaaMem
import Derived.Laws.BitsLemmas
namespace Go.Sl
open Go Go.RowKit
set_option linter.unusedSimpArgs false

/-- What is asked of a type: its cells, its bytes, its zero value; is it a struct or an array? -/
def tyInfo (P : Program) (t : TypeId) : Option (Nat × Nat × Option Value × Bool) :=
  match P.info? t, P.underlying t with
  | some i, some d => some (i.size, i.bytes, i.zero, match d with | .struct _ => true | .array _ _ => true | _ => false)
  | _, _ => none
def TI (P : Program) (t : TypeId) (sz by' : Nat) (z : Value) (ag : Bool) : Prop := tyInfo P t = some (sz, by', some z, ag)

section
variable {P : Program} {W0 : World} {e : Env} {G : List HProp} {ty : TypeId}

theorem TI.info {t sz by' z ag} (h : TI P t sz by' z ag) : ∃ i, P.info? t = some i ∧ i.size = sz ∧ i.bytes = by' ∧ i.zero = some z := by
  unfold TI tyInfo at h
  split at h
  · rename_i i d h1 h2
    simp only [Option.some.injEq, Prod.mk.injEq] at h
    exact ⟨i, h1, h.1, h.2.1, h.2.2.1⟩
  · cases h
theorem TI.run_size {t sz by' z ag} (h : TI P t sz by' z ag) (w : World) : (sizeOf t).run P w = .ok sz w := by
  obtain ⟨i, hi, rfl, _, _⟩ := h.info
  simp [sizeOf, typeInfo, program, bind, Sem.bind, pure, hi, Sem.run]
theorem TI.run_zero {t sz by' z ag} (h : TI P t sz by' z ag) (w : World) : (zeroValue t).run P w = .ok z w := by
  obtain ⟨i, hi, _, _, hz⟩ := h.info
  simp [zeroValue, typeInfo, program, bind, Sem.bind, pure, hi, Sem.run, hz]
theorem TI.run_info {t sz by' z ag} (h : TI P t sz by' z ag) (w : World) : ∃ i, (typeInfo t).run P w = .ok i w ∧ i.size = sz ∧ i.bytes = by' ∧ i.zero = some z := by
  obtain ⟨i, hi, h1, h2, h3⟩ := h.info
  exact ⟨i, by simp [typeInfo, program, bind, Sem.bind, pure, hi, Sem.run], h1, h2, h3⟩
theorem TI.run_agg {t sz by' z ag} (h : TI P t sz by' z ag) (w : World) : (isAgg t).run P w = .ok ag w := by
  unfold TI tyInfo at h
  split at h
  · rename_i i d h1 h2
    simp only [Option.some.injEq, Prod.mk.injEq] at h
    have h3 := h.2.2.2
    cases d <;> simp [isAgg, underlying, program, bind, Sem.bind, pure, h2, Sem.run] <;> simpa using h3
  · cases h
theorem run_underlying {t : TypeId} {d : TypeDesc} (h : P.underlying t = some d) (w : World) : (underlying t).run P w = .ok d w := by
  simp [underlying, program, bind, Sem.bind, pure, h, Sem.run]

/-! ### without memory -/
theorem Yield.move {x : Operand} {v : Value} (h : e.ev x = some v) : Yield P W0 (.move x) ty e G v := fun ρ hρ w _ _ _ _ _ => by
  simp [execOp, hρ x v h, pure, Sem.run]
theorem Yield.assign {x : Operand} {v : Value} (h : e.ev x = some v) : Yield P W0 (.assign x) ty e G v := fun ρ hρ w _ _ _ _ _ => by
  simp [execOp, hρ x v h, pure, Sem.run]
theorem Yield.nilCheck {x : Operand} {a : Addr} (h : e.ev x = some (.pointer (some a))) : Yield P W0 (.nilCheck x) ty e G (.pointer (some a)) := fun ρ hρ w _ _ _ _ _ => by
  simp [execOp, hρ x _ h, pure, Sem.run]

/-- The field f of the struct type s lies at offset o. -/
def fieldAt? (P : Program) (s f : Nat) : Option Nat :=
  match P.underlying s with
  | some (.struct fs) =>
    match fs[f]? with
    | some d =>
      match P.info? d.type with
      | some i => if i.size = 0 then none else some d.offset
      | none => none
    | none => none
  | _ => none
def FieldAt (P : Program) (s f o : Nat) : Prop := fieldAt? P s f = some o
/-- The type and the offset of a field. -/
def fieldOf? (P : Program) (s f : Nat) : Option (Nat × Nat) :=
  match P.underlying s with
  | some (.struct fs) =>
    match fs[f]? with
    | some d => some (d.type, d.offset)
    | none => none
  | _ => none
theorem Yield.fieldAddr {s f o : Nat} {x : Operand} {b p : Nat} (hf : FieldAt P s f o) (h : e.ev x = some (.pointer (some ⟨b, p, none⟩))) : Yield P W0 (.fieldAddr s x f) ty e G (.pointer (some ⟨b, p + o, none⟩)) := fun ρ hρ w _ _ _ _ _ => by
  unfold FieldAt fieldAt? at hf
  split at hf
  · rename_i fs hu
    split at hf
    · rename_i d hd
      split at hf
      · rename_i i hi
        split at hf
        · cases hf
        · rename_i hs
          simp only [Option.some.injEq] at hf
          subst hf
          simp [execOp, hρ x _ h, pure, Sem.run, Instr.fieldAt, underlying, program, bind, Sem.bind, hu, hd, Instr.sureAddr, fieldPlace, sizeOf, typeInfo, hi, hs, add_at]
      · cases hf
    · cases hf
  · cases hf

theorem Yield.field {s f o : Nat} {x : Operand} {cs : List Value} {v : Value} {ft sz by' z} (hf : fieldOf? P s f = some (ft, o))
    (ht : TI P ft sz by' z false) (h : e.ev x = some (.agg cs.toArray)) (hv : cs[o]? = some v) : Yield P W0 (.field s x f) ty e G v := fun ρ hρ w _ _ _ _ _ => by
  unfold fieldOf? at hf
  split at hf
  · rename_i fs hu
    split at hf
    · rename_i d hd
      simp only [Option.some.injEq, Prod.mk.injEq] at hf
      obtain ⟨rfl, rfl⟩ := hf
      have h1 := ht.run_agg w
      have h2 : (part d.type cs.toArray d.offset).run P w = .ok v w := by
        unfold part
        show ((isAgg d.type).bind _).run P w = _
        rw [run_bind_ok h1]
        simp [hv, pure, Sem.run]
      have h3 : (Instr.field s (ρ x) f).run P w = .ok v w := by
        unfold Instr.field
        show ((underlying s).bind _).run P w = _
        rw [run_bind_ok (run_underlying hu w), hρ x _ h]
        simp [hd, asAgg, bind, Sem.bind, pure, h2]
      show (((Instr.field s (ρ x) f)).bind _).run P w = _
      rw [run_bind_ok h3]; rfl
    · cases hf
  · cases hf
/-- A field that is a struct or an array itself. -/
theorem Yield.field_agg {s f o : Nat} {x : Operand} {cs vs : List Value} {ft sz by' z} (hf : fieldOf? P s f = some (ft, o))
    (ht : TI P ft sz by' z true) (h : e.ev x = some (.agg cs.toArray)) (hv : (cs.drop o).take sz = vs) : Yield P W0 (.field s x f) ty e G (.agg vs.toArray) := fun ρ hρ w _ _ _ _ _ => by
  unfold fieldOf? at hf
  split at hf
  · rename_i fs hu
    split at hf
    · rename_i d hd
      simp only [Option.some.injEq, Prod.mk.injEq] at hf
      obtain ⟨rfl, rfl⟩ := hf
      have h1 := ht.run_agg w
      have h2 : (part d.type cs.toArray d.offset).run P w = .ok (.agg vs.toArray) w := by
        unfold part
        show ((isAgg d.type).bind _).run P w = _
        rw [run_bind_ok h1]
        simp only [if_true]
        show ((sizeOf d.type).bind _).run P w = _
        rw [run_bind_ok (ht.run_size w)]
        simp only [pure, Sem.run, List.extract_toArray, List.extract_eq_take_drop, Nat.add_sub_cancel_left, hv]
      have h3 : (Instr.field s (ρ x) f).run P w = .ok (.agg vs.toArray) w := by
        unfold Instr.field
        show ((underlying s).bind _).run P w = _
        rw [run_bind_ok (run_underlying hu w), hρ x _ h]
        simp [hd, asAgg, bind, Sem.bind, pure, h2]
      show (((Instr.field s (ρ x) f)).bind _).run P w = _
      rw [run_bind_ok h3]; rfl
    · cases hf
  · cases hf

/-! ### integers -/
theorem guard_int {op : BinOp} {t : TypeId} {x y : Operand} {k k' : IntKind} {a b : Int} (w : World) : (eqGuard op t x y (.int k a) (.int k' b)).run P w = .ok () w := by
  unfold eqGuard; split <;> simp [pure, Sem.run]
theorem Yield.arith {op : BinOp} {t t' : TypeId} {x y : Operand} {k : IntKind} {a b c : Int} (hx : e.ev x = some (.int k a)) (hy : e.ev y = some (.int k b))
    (ho : (match op with | .add => some (k.wrap (a + b)) | .sub => some (k.wrap (a - b)) | .mul => some (k.wrap (a * b)) | _ => none) = some c) : Yield P W0 (.binOp op t x y t') ty e G (.int k c) := fun ρ hρ w _ _ _ _ _ => by
  have h0 := guard_int (P := P) (op := op) (t := t) (x := x) (y := y) (k := k) (k' := k) (a := a) (b := b) w
  have h1 : (binOp op t (.int k a) (.int k b)).run P w = .ok (.int k c) w := by
    cases op <;> simp at ho <;> simp [binOp, Op.intArith, pure, Sem.run, ho]
  show (((eqGuard op t x y (ρ x) (ρ y)).bind fun _ => binOp op t (ρ x) (ρ y)).bind _).run P w = _
  rw [hρ x _ hx, hρ y _ hy]
  rw [run_bind_ok (show ((eqGuard op t x y (.int k a) (.int k b)).bind fun _ => binOp op t (.int k a) (.int k b)).run P w = .ok (.int k c) w by rw [run_bind_ok h0, h1])]
  rfl
theorem Yield.add {t t' : TypeId} {x y : Operand} {k : IntKind} {a b c : Int} (hx : e.ev x = some (.int k a)) (hy : e.ev y = some (.int k b)) (hc : k.wrap (a + b) = c) : Yield P W0 (.binOp .add t x y t') ty e G (.int k c) := Yield.arith hx hy (by simp [hc])
theorem Yield.sub {t t' : TypeId} {x y : Operand} {k : IntKind} {a b c : Int} (hx : e.ev x = some (.int k a)) (hy : e.ev y = some (.int k b)) (hc : k.wrap (a - b) = c) : Yield P W0 (.binOp .sub t x y t') ty e G (.int k c) := Yield.arith hx hy (by simp [hc])
theorem Yield.mul {t t' : TypeId} {x y : Operand} {k : IntKind} {a b c : Int} (hx : e.ev x = some (.int k a)) (hy : e.ev y = some (.int k b)) (hc : k.wrap (a * b) = c) : Yield P W0 (.binOp .mul t x y t') ty e G (.int k c) := Yield.arith hx hy (by simp [hc])

/-- The comparisons. -/
def cmpB : BinOp → Int → Int → Option Bool
  | .eql, a, b => some (decide (a = b))
  | .neq, a, b => some (decide (a ≠ b))
  | .lss, a, b => some (decide (a < b))
  | .leq, a, b => some (decide (a ≤ b))
  | .gtr, a, b => some (decide (b < a))
  | .geq, a, b => some (decide (b ≤ a))
  | _, _, _ => none
theorem Yield.cmp {op : BinOp} {t t' : TypeId} {x y : Operand} {k : IntKind} {a b : Int} {c : Bool} (hx : e.ev x = some (.int k a)) (hy : e.ev y = some (.int k b)) (hc : cmpB op a b = some c) : Yield P W0 (.binOp op t x y t') ty e G (.bool c) := fun ρ hρ w _ _ _ _ _ => by
  have h0 := guard_int (P := P) (op := op) (t := t) (x := x) (y := y) (k := k) (k' := k) (a := a) (b := b) w
  have h1 : (binOp op t (.int k a) (.int k b)).run P w = .ok (.bool c) w := by
    cases op <;> simp only [cmpB, Option.some.injEq, reduceCtorEq] at hc <;> subst hc <;> simp [binOp, Op.intCmp, pure, Sem.run]
    all_goals (by_cases h : a = b <;> simp [h])
  show (((eqGuard op t x y (ρ x) (ρ y)).bind fun _ => binOp op t (ρ x) (ρ y)).bind _).run P w = _
  rw [hρ x _ hx, hρ y _ hy]
  rw [run_bind_ok (show ((eqGuard op t x y (.int k a) (.int k b)).bind fun _ => binOp op t (.int k a) (.int k b)).run P w = .ok (.bool c) w by rw [run_bind_ok h0, h1])]
  rfl
theorem Yield.lss {t t' : TypeId} {x y : Operand} {k : IntKind} {a b : Int} (hx : e.ev x = some (.int k a)) (hy : e.ev y = some (.int k b)) : Yield P W0 (.binOp .lss t x y t') ty e G (.bool (decide (a < b))) := Yield.cmp hx hy rfl
theorem Yield.leq {t t' : TypeId} {x y : Operand} {k : IntKind} {a b : Int} (hx : e.ev x = some (.int k a)) (hy : e.ev y = some (.int k b)) : Yield P W0 (.binOp .leq t x y t') ty e G (.bool (decide (a ≤ b))) := Yield.cmp hx hy rfl
theorem Yield.gtr {t t' : TypeId} {x y : Operand} {k : IntKind} {a b : Int} (hx : e.ev x = some (.int k a)) (hy : e.ev y = some (.int k b)) : Yield P W0 (.binOp .gtr t x y t') ty e G (.bool (decide (b < a))) := Yield.cmp hx hy rfl
theorem Yield.geq {t t' : TypeId} {x y : Operand} {k : IntKind} {a b : Int} (hx : e.ev x = some (.int k a)) (hy : e.ev y = some (.int k b)) : Yield P W0 (.binOp .geq t x y t') ty e G (.bool (decide (b ≤ a))) := Yield.cmp hx hy rfl
theorem Yield.eql {t t' : TypeId} {x y : Operand} {k : IntKind} {a b : Int} (hx : e.ev x = some (.int k a)) (hy : e.ev y = some (.int k b)) : Yield P W0 (.binOp .eql t x y t') ty e G (.bool (decide (a = b))) := Yield.cmp hx hy rfl
theorem Yield.neq {t t' : TypeId} {x y : Operand} {k : IntKind} {a b : Int} (hx : e.ev x = some (.int k a)) (hy : e.ev y = some (.int k b)) : Yield P W0 (.binOp .neq t x y t') ty e G (.bool (decide (a ≠ b))) := Yield.cmp hx hy rfl

theorem Yield.rem {t t' : TypeId} {x y : Operand} {k : IntKind} {a b c : Int} (hx : e.ev x = some (.int k a)) (hy : e.ev y = some (.int k b)) (hb : b ≠ 0) (hc : a.tmod b = c) : Yield P W0 (.binOp .rem t x y t') ty e G (.int k c) := fun ρ hρ w _ _ _ _ _ => by
  simp [execOp, hρ x _ hx, hρ y _ hy, eqGuard, binOp, Op.intDiv, hb, hc, bind, Sem.bind, pure, Sem.run]
theorem Yield.quo {t t' : TypeId} {x y : Operand} {k : IntKind} {a b c : Int} (hx : e.ev x = some (.int k a)) (hy : e.ev y = some (.int k b)) (hb : b ≠ 0) (hc : k.wrap (a.tdiv b) = c) : Yield P W0 (.binOp .quo t x y t') ty e G (.int k c) := fun ρ hρ w _ _ _ _ _ => by
  simp [execOp, hρ x _ hx, hρ y _ hy, eqGuard, binOp, Op.intDiv, hb, hc, bind, Sem.bind, pure, Sem.run]
theorem Yield.bitop {op : BinOp} {t t' : TypeId} {x y : Operand} {k : IntKind} {a b c : Int} (hx : e.ev x = some (.int k a)) (hy : e.ev y = some (.int k b)) (hop : (match op with | .and | .or | .xor | .andNot => true | _ => false) = true) (hc : Go.bits op k a b = c) : Yield P W0 (.binOp op t x y t') ty e G (.int k c) := fun ρ hρ w _ _ _ _ _ => by
  have h0 := guard_int (P := P) (op := op) (t := t) (x := x) (y := y) (k := k) (k' := k) (a := a) (b := b) w
  have h1 : (binOp op t (.int k a) (.int k b)).run P w = .ok (.int k c) w := by
    subst hc
    cases op <;> simp at hop <;> simp [binOp, Op.intBits, Go.bits, pure, Sem.run]
  show (((eqGuard op t x y (ρ x) (ρ y)).bind fun _ => binOp op t (ρ x) (ρ y)).bind _).run P w = _
  rw [hρ x _ hx, hρ y _ hy]
  rw [run_bind_ok (show ((eqGuard op t x y (.int k a) (.int k b)).bind fun _ => binOp op t (.int k a) (.int k b)).run P w = .ok (.int k c) w by rw [run_bind_ok h0, h1])]
  rfl
theorem Yield.shl {t t' : TypeId} {x y : Operand} {k k' : IntKind} {a c b : Int} {m : Nat} (hx : e.ev x = some (.int k a)) (hy : e.ev y = some (.int k' b)) (hb : b = (m : Int)) (hm : m ≤ k.bits) (hc : k.wrap (a * 2 ^ m) = c) : Yield P W0 (.binOp .shl t x y t') ty e G (.int k c) := fun ρ hρ w _ _ _ _ _ => by
  have hb0 : ¬ b < 0 := by omega
  have hb1 : min b.toNat k.bits = m := by omega
  simp [execOp, hρ x _ hx, hρ y _ hy, eqGuard, binOp, Op.shift, hb0, hb1, hc, bind, Sem.bind, pure, Sem.run]
theorem Yield.shr {t t' : TypeId} {x y : Operand} {k k' : IntKind} {a c b : Int} {m : Nat} (hx : e.ev x = some (.int k a)) (hy : e.ev y = some (.int k' b)) (hb : b = (m : Int)) (hm : m ≤ k.bits) (hc : a / 2 ^ m = c) : Yield P W0 (.binOp .shr t x y t') ty e G (.int k c) := fun ρ hρ w _ _ _ _ _ => by
  have hb0 : ¬ b < 0 := by omega
  have hb1 : min b.toNat k.bits = m := by omega
  have hc' : a.fdiv (2 ^ m) = c := by rw [Int.fdiv_eq_ediv_of_nonneg _ (Int.pow_nonneg (by decide))]; exact hc
  simp [execOp, hρ x _ hx, hρ y _ hy, eqGuard, binOp, Op.shift, hb0, hb1, hc', bind, Sem.bind, pure, Sem.run]
theorem Yield.conv {src dst : TypeId} {x : Operand} {k k' : IntKind} {a c : Int} (hd : P.underlying dst = some (.int k')) (hs : (P.underlying src).isSome = true) (hx : e.ev x = some (.int k a)) (hc : k'.wrap a = c) : Yield P W0 (.convert src dst x) ty e G (.int k' c) := fun ρ hρ w _ _ _ _ _ => by
  obtain ⟨d, hs⟩ := Option.isSome_iff_exists.1 hs
  have h1 : (convert src dst (.int k a)).run P w = .ok (.int k' c) w := by
    unfold convert
    show ((underlying src).bind _).run P w = _
    rw [run_bind_ok (run_underlying hs w)]
    show ((underlying dst).bind _).run P w = _
    rw [run_bind_ok (run_underlying hd w)]
    simp [Conv.intToInt, pure, Sem.run, hc]
  show ((convert src dst (ρ x)).bind _).run P w = _
  rw [hρ x _ hx, run_bind_ok h1]; rfl
theorem Yield.not {t : TypeId} {x : Operand} {b : Bool} (hx : e.ev x = some (.bool b)) : Yield P W0 (.unOp .not t x) ty e G (.bool (!b)) := fun ρ hρ w _ _ _ _ _ => by
  simp [execOp, hρ x _ hx, Op.unary, bind, Sem.bind, pure, Sem.run]
theorem Yield.pick {c a b : Operand} {q : Bool} {u v : Value} (hc : e.ev c = some (.bool q)) (ha : q = true → e.ev a = some u) (hb : q = false → e.ev b = some v) : Yield P W0 (.pick c a b) ty e G (if q then u else v) := fun ρ hρ w _ _ _ _ _ => by
  cases q
  · simp [execOp, hρ c _ hc, hρ b _ (hb rfl), asBool, bind, Sem.bind, pure, Sem.run]
  · simp [execOp, hρ c _ hc, hρ a _ (ha rfl), asBool, bind, Sem.bind, pure, Sem.run]
theorem Yield.pick_t {c a b : Operand} {u : Value} (hc : e.ev c = some (.bool true)) (ha : e.ev a = some u) : Yield P W0 (.pick c a b) ty e G u :=
  Yield.pick (q := true) (u := u) (v := u) hc (fun _ => ha) (fun h => by cases h)
theorem Yield.pick_f {c a b : Operand} {v : Value} (hc : e.ev c = some (.bool false)) (hb : e.ev b = some v) : Yield P W0 (.pick c a b) ty e G v :=
  Yield.pick (q := false) (u := v) (v := v) hc (fun h => by cases h) (fun _ => hb)
theorem Yield.extract {x : Operand} {i : Nat} {vs : Array Value} {v : Value} (hx : e.ev x = some (.tuple vs)) (hv : vs[i]? = some v) : Yield P W0 (.extract x i) ty e G v := fun ρ hρ w _ _ _ _ _ => by
  simp [execOp, hρ x _ hx, Instr.extract, hv, bind, Sem.bind, pure, Sem.run]

theorem Yield.as {op : Op} {v v' : Value} (h : Yield P W0 op ty e G v) (q : v = v') : Yield P W0 op ty e G v' := q ▸ h
theorem bT {p : Prop} [Decidable p] (h : p) : Value.bool (decide p) = .bool true := by rw [decide_eq_true h]
theorem bF {p : Prop} [Decidable p] (h : ¬ p) : Value.bool (decide p) = .bool false := by rw [decide_eq_false h]
theorem run_equal_ptr_nil {t el : TypeId} {a : Addr} (hu : P.underlying t = some (.pointer el)) (w : World) : (Op.equal t (.pointer (some a)) (.pointer none)).run P w = .ok false w := by
  show (Op.equalIn (9999 + 1) t (.pointer (some a)) (.pointer none)).run P w = _
  rw [Op.equalIn]
  show ((underlying t).bind _).run P w = _
  rw [run_bind_ok (run_underlying hu w)]
  rfl
theorem run_equal_nil_nil {t el : TypeId} (hu : P.underlying t = some (.pointer el)) (w : World) : (Op.equal t (.pointer none) (.pointer none)).run P w = .ok true w := by
  show (Op.equalIn (9999 + 1) t (.pointer none) (.pointer none)).run P w = _
  rw [Op.equalIn]
  show ((underlying t).bind _).run P w = _
  rw [run_bind_ok (run_underlying hu w)]
  rfl
theorem run_eqOf {op : BinOp} {t t' : TypeId} {x y : Operand} {u v : Value} {q : Bool} {ρ : Operand → Value} {w : World} (hx : ρ x = u) (hy : ρ y = v) (hg : (eqGuard op t x y u v).run P w = .ok () w) (hb : (binOp op t u v).run P w = .ok (.bool q) w) {dst pos after guard} :
    (execOp ρ ⟨dst, .binOp op t x y t', ty, pos, after, guard⟩).run P w = .ok (.value (.bool q)) w := by
  show (((eqGuard op t x y (ρ x) (ρ y)).bind fun _ => binOp op t (ρ x) (ρ y)).bind _).run P w = _
  rw [hx, hy]
  rw [run_bind_ok (show ((eqGuard op t x y u v).bind fun _ => binOp op t u v).run P w = .ok (.bool q) w by rw [run_bind_ok hg, hb])]
  rfl
theorem Yield.ptr_nil {t t' el : TypeId} {x y : Operand} {a : Addr} (hu : P.underlying t = some (.pointer el)) (hx : e.ev x = some (.pointer (some a))) (hy : e.ev y = some (.pointer none)) : Yield P W0 (.binOp .eql t x y t') ty e G (.bool false) := fun ρ hρ w _ _ _ _ _ => by
  refine run_eqOf (hρ x _ hx) (hρ y _ hy) rfl ?_
  show ((Op.equal t (.pointer (some a)) (.pointer none)).bind _).run P w = _
  rw [run_bind_ok (run_equal_ptr_nil hu w)]; rfl
theorem Yield.ptr_nonnil {t t' el : TypeId} {x y : Operand} {a : Addr} (hu : P.underlying t = some (.pointer el)) (hx : e.ev x = some (.pointer (some a))) (hy : e.ev y = some (.pointer none)) : Yield P W0 (.binOp .neq t x y t') ty e G (.bool true) := fun ρ hρ w _ _ _ _ _ => by
  refine run_eqOf (hρ x _ hx) (hρ y _ hy) rfl ?_
  show ((Op.equal t (.pointer (some a)) (.pointer none)).bind _).run P w = _
  rw [run_bind_ok (run_equal_ptr_nil hu w)]; rfl
theorem Yield.nil_nil {t t' el : TypeId} {x y : Operand} (hu : P.underlying t = some (.pointer el)) (hx : e.ev x = some (.pointer none)) (hy : e.ev y = some (.pointer none)) : Yield P W0 (.binOp .eql t x y t') ty e G (.bool true) := fun ρ hρ w _ _ _ _ _ => by
  refine run_eqOf (hρ x _ hx) (hρ y _ hy) rfl ?_
  show ((Op.equal t (.pointer none) (.pointer none)).bind _).run P w = _
  rw [run_bind_ok (run_equal_nil_nil hu w)]; rfl
theorem Yield.nil_nonnil {t t' el : TypeId} {x y : Operand} (hu : P.underlying t = some (.pointer el)) (hx : e.ev x = some (.pointer none)) (hy : e.ev y = some (.pointer none)) : Yield P W0 (.binOp .neq t x y t') ty e G (.bool false) := fun ρ hρ w _ _ _ _ _ => by
  refine run_eqOf (hρ x _ hx) (hρ y _ hy) rfl ?_
  show ((Op.equal t (.pointer none) (.pointer none)).bind _).run P w = _
  rw [run_bind_ok (run_equal_nil_nil hu w)]; rfl

theorem run_equal_bool {t : TypeId} {a b : Bool} (hu : P.underlying t = some .bool) (w : World) : (Op.equal t (.bool a) (.bool b)).run P w = .ok (a == b) w := by
  show (Op.equalIn (9999 + 1) t (.bool a) (.bool b)).run P w = _
  rw [Op.equalIn]
  show ((underlying t).bind _).run P w = _
  rw [run_bind_ok (run_underlying hu w)]
  rfl
theorem Yield.bool_eql {t t' : TypeId} {x y : Operand} {a b : Bool} (hu : P.underlying t = some .bool) (hx : e.ev x = some (.bool a)) (hy : e.ev y = some (.bool b)) : Yield P W0 (.binOp .eql t x y t') ty e G (.bool (a == b)) := fun ρ hρ w _ _ _ _ _ => by
  refine run_eqOf (hρ x _ hx) (hρ y _ hy) rfl ?_
  show ((Op.equal t (.bool a) (.bool b)).bind _).run P w = _
  rw [run_bind_ok (run_equal_bool hu w)]; rfl
theorem Yield.bool_neq {t t' : TypeId} {x y : Operand} {a b : Bool} (hu : P.underlying t = some .bool) (hx : e.ev x = some (.bool a)) (hy : e.ev y = some (.bool b)) : Yield P W0 (.binOp .neq t x y t') ty e G (.bool (!(a == b))) := fun ρ hρ w _ _ _ _ _ => by
  refine run_eqOf (hρ x _ hx) (hρ y _ hy) rfl ?_
  show ((Op.equal t (.bool a) (.bool b)).bind _).run P w = _
  rw [run_bind_ok (run_equal_bool hu w)]; rfl
theorem Yield.bool_same {t t' : TypeId} {x y : Operand} {a : Bool} (hu : P.underlying t = some .bool) (hx : e.ev x = some (.bool a)) (hy : e.ev y = some (.bool a)) : Yield P W0 (.binOp .eql t x y t') ty e G (.bool true) :=
  (Yield.bool_eql hu hx hy).as (by simp)
theorem Yield.bool_samen {t t' : TypeId} {x y : Operand} {a : Bool} (hu : P.underlying t = some .bool) (hx : e.ev x = some (.bool a)) (hy : e.ev y = some (.bool a)) : Yield P W0 (.binOp .neq t x y t') ty e G (.bool false) :=
  (Yield.bool_neq hu hx hy).as (by simp)

/-! ### builtins that only look -/
theorem run_builtin {b : Builtin} {args : List Operand} {vs : List Value} {ats : Array TypeId} {ρ : Operand → Value} (hρ : Agrees e ρ) (ha : e.evs args = some vs) {w : World} {dst pos after guard} {nx : Result Next}
    (h : (builtin b ats ty (args.toArray.map fun | .const _ => true | _ => false) vs.toArray).run P w = nx) :
    (execOp ρ ⟨dst, .call { callee := .builtin b, args := args.toArray, argTypes := ats }, ty, pos, after, guard⟩).run P w = nx := by
  have h2 : args.map ρ = vs := hρ.evs ha
  simp only [execOp, resolve, bind, Sem.bind, pure, invoke, List.map_toArray, h2]
  rw [List.map_toArray] at h
  exact h
theorem Yield.len_slice {x : Operand} {t el : TypeId} {a : Option Addr} {m c : Nat} {ats : Array TypeId} (hu : P.underlying t = some (.slice el)) (hx : e.ev x = some (.slice a m c)) (ht : ats = #[t]) :
    Yield P W0 (.call { callee := .builtin .len, args := #[x], argTypes := ats }) ty e G (.int .i64 m) := fun ρ hρ w _ _ _ _ _ => by
  subst ht
  refine run_builtin (args := [x]) (vs := [_]) hρ (by simp only [Env.evs, hx]; rfl) ?_
  simp [builtin, Builtin.len_, underlying, program, hu, goInt, bind, Sem.bind, pure, Sem.run]
theorem Yield.len_string {x : Operand} {t : TypeId} {s : ByteArray} {ats : Array TypeId} (hu : P.underlying t = some .string) (hx : e.ev x = some (.string s)) (ht : ats = #[t]) :
    Yield P W0 (.call { callee := .builtin .len, args := #[x], argTypes := ats }) ty e G (.int .i64 s.size) := fun ρ hρ w _ _ _ _ _ => by
  subst ht
  refine run_builtin (args := [x]) (vs := [_]) hρ (by simp only [Env.evs, hx]; rfl) ?_
  simp [builtin, Builtin.len_, underlying, program, hu, goInt, bind, Sem.bind, pure, Sem.run]
theorem Yield.min2 {x y : Operand} {k : IntKind} {a b : Int} {ats : Array TypeId} (hx : e.ev x = some (.int k a)) (hy : e.ev y = some (.int k b)) :
    Yield P W0 (.call { callee := .builtin .min, args := #[x, y], argTypes := ats }) ty e G (.int k (min a b)) := fun ρ hρ w _ _ _ _ _ => by
  refine run_builtin (args := [x, y]) (vs := [_, _]) hρ (by simp only [Env.evs, hx, hy]; rfl) ?_
  have : (if b < a then b else a) = min a b := by rw [Int.min_def]; split <;> split <;> omega
  simp [builtin, Builtin.min_, Builtin.min2, bind, Sem.bind, pure, Sem.run, this]
theorem Yield.max2 {x y : Operand} {k : IntKind} {a b : Int} {ats : Array TypeId} (hx : e.ev x = some (.int k a)) (hy : e.ev y = some (.int k b)) :
    Yield P W0 (.call { callee := .builtin .max, args := #[x, y], argTypes := ats }) ty e G (.int k (max a b)) := fun ρ hρ w _ _ _ _ _ => by
  refine run_builtin (args := [x, y]) (vs := [_, _]) hρ (by simp only [Env.evs, hx, hy]; rfl) ?_
  have : (if a < b then b else a) = max a b := by rw [Int.max_def]; split <;> split <;> omega
  simp [builtin, Builtin.max_, Builtin.max2, bind, Sem.bind, pure, Sem.run, this]

/-! ### addresses and slices -/
theorem Yield.index_slice {t el : TypeId} {x i : Operand} {b o m c sz by' z ag k} {j : Int} (hu : P.underlying t = some (.slice el)) (ht : TI P el sz by' z ag) (hx : e.ev x = some (.slice (some ⟨b, o, none⟩) m c)) (hi : e.ev i = some (.int k j))
    (h0 : 0 ≤ j) (h1 : j < m) : Yield P W0 (.indexAddr t x i) ty e G (.pointer (some ⟨b, o + j.toNat * sz, none⟩)) := fun ρ hρ w _ _ _ _ _ => by
  have h2 : (Instr.indexAt t (.slice (some ⟨b, o, none⟩) m c) (.int k j)).run P w = .ok (.pointer (some ⟨b, o + j.toNat * sz, none⟩)) w := by
    unfold Instr.indexAt
    obtain ⟨i', hi', rfl, _, _⟩ := ht.info
    simp [asIntOf, underlying, program, hu, h0, h1, sizeOf, typeInfo, hi', bind, Sem.bind, pure, Sem.run, add_at]
  show ((Instr.indexAt t (ρ x) (ρ i)).bind _).run P w = _
  rw [hρ x _ hx, hρ i _ hi, run_bind_ok h2]; rfl
theorem Yield.index_array {t el : TypeId} {len : Nat} {x i : Operand} {b o sz by' z ag k} {j : Int} (hu : P.underlying t = some (.array len el)) (ht : TI P el sz by' z ag) (hx : e.ev x = some (.pointer (some ⟨b, o, none⟩))) (hi : e.ev i = some (.int k j))
    (h0 : 0 ≤ j) (h1 : j < len) : Yield P W0 (.indexAddr t x i) ty e G (.pointer (some ⟨b, o + j.toNat * sz, none⟩)) := fun ρ hρ w _ _ _ _ _ => by
  have h2 : (Instr.indexAt t (.pointer (some ⟨b, o, none⟩)) (.int k j)).run P w = .ok (.pointer (some ⟨b, o + j.toNat * sz, none⟩)) w := by
    unfold Instr.indexAt
    obtain ⟨i', hi', rfl, _, _⟩ := ht.info
    simp [asIntOf, underlying, program, hu, h0, h1, sizeOf, typeInfo, hi', bind, Sem.bind, pure, Sem.run, add_at, Instr.sureAddr]
  show ((Instr.indexAt t (ρ x) (ρ i)).bind _).run P w = _
  rw [hρ x _ hx, hρ i _ hi, run_bind_ok h2]; rfl

/-- The value of a bound that may be left out. -/
def Bound (e : Env) (x : Option Operand) (dflt : Int) (v : Int) : Prop := match x with | none => v = dflt | some x => ∃ k, e.ev x = some (.int k v)
theorem Bound.none {e : Env} {d : Int} : Bound e none d d := rfl
theorem Bound.some {e : Env} {x : Operand} {d v : Int} {k : IntKind} (h : e.ev x = some (.int k v)) : Bound e (some x) d v := ⟨k, h⟩

theorem run_sliceBounds {isSl : Bool} {len cap : Nat} {lo hi : Option Operand} {l h : Int} {ρ : Operand → Value} (hρ : Agrees e ρ) (hl : Bound e lo 0 l) (hh : Bound e hi len h) (h0 : 0 ≤ l) (h1 : l ≤ h) (h2 : h ≤ cap) (w : World) :
    (Instr.sliceBounds isSl len cap (lo.map ρ) (hi.map ρ) none).run P w = .ok (l.toNat, h.toNat, cap) w := by
  unfold Instr.sliceBounds
  have hh0 : 0 ≤ h := by omega
  have e1 : ((h.toNat : Nat) : Int) = h := by omega
  cases lo with
  | none =>
    simp only [Bound] at hl; subst hl
    cases hi with
    | none => simp only [Bound] at hh; subst hh; simp [pure, bind, Sem.bind, Sem.run]
    | some x => obtain ⟨k, hx⟩ := hh; simp [hρ x _ hx, Instr.sliceBound, asIntOf, hh0, h2, pure, bind, Sem.bind, Sem.run]
  | some y =>
    obtain ⟨k', hy⟩ := hl
    cases hi with
    | none => simp only [Bound] at hh; subst hh; simp [hρ y _ hy, Instr.sliceBound, asIntOf, h0, h1, pure, bind, Sem.bind, Sem.run]
    | some x => obtain ⟨k, hx⟩ := hh; simp [hρ x _ hx, hρ y _ hy, Instr.sliceBound, asIntOf, hh0, h2, h0, h1, e1, pure, bind, Sem.bind, Sem.run]

/-- The address at which a cut begins: the old one where nothing is left behind it. -/
def cutAt (a : Addr) (l c sz : Nat) : Addr := if c = l then a else a.add (l * sz)
theorem Yield.slice {t el : TypeId} {x : Operand} {lo hi : Option Operand} {a : Option Addr} {m c sz by' z ag} {l h : Int} (hu : P.underlying t = some (.slice el)) (ht : TI P el sz by' z ag) (hx : e.ev x = some (.slice a m c))
    (hl : Bound e lo 0 l) (hh : Bound e hi m h) (h0 : 0 ≤ l) (h1 : l ≤ h) (h2 : h ≤ c) : Yield P W0 (.slice t x lo hi none) ty e G (.slice (a.map fun a => cutAt a l.toNat c sz) (h.toNat - l.toNat) (c - l.toNat)) := fun ρ hρ w _ _ _ _ _ => by
  have hs : (Instr.sliceAt t (.slice a m c) (lo.map ρ) (hi.map ρ) none).run P w = .ok (.slice (a.map fun a => cutAt a l.toNat c sz) (h.toNat - l.toNat) (c - l.toNat)) w := by
    unfold Instr.sliceAt
    show ((underlying t).bind _).run P w = _
    rw [run_bind_ok (run_underlying hu w)]
    simp only []
    unfold Instr.slice
    show ((underlying t).bind _).run P w = _
    rw [run_bind_ok (run_underlying hu w)]
    simp only []
    show ((Instr.sliceBounds _ _ _ _ _ _).bind _).run P w = _
    rw [run_bind_ok (run_sliceBounds hρ hl hh h0 h1 h2 w)]
    simp only []
    show ((sizeOf el).bind _).run P w = _
    rw [run_bind_ok (ht.run_size w)]
    simp only [pure, Sem.run]
    congr 2
    unfold cutAt
    cases a <;> simp <;> split <;> rfl
  show ((Instr.sliceAt t (ρ x) (lo.map ρ) (hi.map ρ) ((Option.none : Option Operand).map ρ)).bind _).run P w = _
  rw [hρ x _ hx, Option.map_none, run_bind_ok hs]; rfl

/-- A cut whose lower bound is left out keeps its address. -/
theorem Yield.slice_hi {t el : TypeId} {x : Operand} {hi : Option Operand} {a : Option Addr} {m c sz by' z ag} {h : Int} (hu : P.underlying t = some (.slice el)) (ht : TI P el sz by' z ag) (hx : e.ev x = some (.slice a m c))
    (hh : Bound e hi m h) (h1 : 0 ≤ h) (h2 : h ≤ c) : Yield P W0 (.slice t x none hi none) ty e G (.slice a h.toNat c) := by
  have := Yield.slice (W0 := W0) (G := G) (ty := ty) (lo := none) hu ht hx Bound.none hh (by omega) h1 h2
  have e1 : (a.map fun a => cutAt a (0 : Int).toNat c sz) = a := by
    cases a with
    | none => rfl
    | some a => simp [cutAt, Addr.add]
  rw [e1] at this
  simpa using this

/-! ### loads and stores -/
theorem Yield.load {t : TypeId} {x : Operand} {a : Addr} {v : Value} {sz by' z} (ht : TI P t sz by' z false) (hx : e.ev x = some (.pointer (some a))) (hc : Cel W0 G a v) : Yield P W0 (.load t x) ty e G v := fun ρ hρ w hw _ _ _ _ => by
  have h1 : (loadVar t a).run P w = .ok v w := by
    unfold loadVar
    show ((isAgg t).bind _).run P w = _
    rw [run_bind_ok (ht.run_agg w)]
    simp [Go.load, Sem.run, hc w hw]
  show (((Instr.loadAt t (ρ x))).bind _).run P w = _
  rw [hρ x _ hx]
  rw [run_bind_ok (show (Instr.loadAt t (.pointer (some a))).run P w = .ok v w by simp [Instr.loadAt, Instr.sureAddr, bind, Sem.bind, pure, h1])]
  rfl
theorem Yield.load_agg {t : TypeId} {x : Operand} {b o : Nat} {vs : List Value} {sz by' z} (ht : TI P t sz by' z true) (hx : e.ev x = some (.pointer (some ⟨b, o, none⟩))) (hl : vs.length = sz) (hc : Row W0 G b o vs) : Yield P W0 (.load t x) ty e G (.agg vs.toArray) := fun ρ hρ w hw _ _ _ _ => by
  have h1 : (loadVar t ⟨b, o, none⟩).run P w = .ok (.agg vs.toArray) w := by
    unfold loadVar
    show ((isAgg t).bind _).run P w = _
    rw [run_bind_ok (ht.run_agg w)]
    simp only [if_true]
    show ((sizeOf t).bind _).run P w = _
    rw [run_bind_ok (ht.run_size w)]
    show ((loadCells _ _).bind _).run P w = _
    rw [run_bind_ok (run_loadCells hl (fun j v hj => hc j v hj w hw))]
    rfl
  show (((Instr.loadAt t (ρ x))).bind _).run P w = _
  rw [hρ x _ hx]
  rw [run_bind_ok (show (Instr.loadAt t (.pointer (some ⟨b, o, none⟩))).run P w = .ok (.agg vs.toArray) w by simp [Instr.loadAt, Instr.sureAddr, bind, Sem.bind, pure, h1])]
  rfl

theorem run_storeVar {t : TypeId} {b o : Nat} {v : Value} {w : World} {cs : List Value} {bt : TypeId} {sz by' z ag} (ht : TI P t sz by' z ag) (hv : v.cells.size = sz) (h1 : ∀ c ∈ v.cells.toList, one c = true)
    {fr : Nat × Nat} (hb : w.heap[b]? = some (.cells cs.toArray bt fr)) (hf : NoFr fr cs.length) (ho : o + sz ≤ cs.length) :
    (storeVar t ⟨b, o, none⟩ v).run P w = .ok () (setObjW w b (.cells (over cs o v.cells.toList).toArray bt fr)) := by
  unfold storeVar
  show ((sizeOf t).bind _).run P w = _
  rw [run_bind_ok (ht.run_size w)]
  simp only [hv, ne_eq, not_true, if_false]
  have := run_storeCells (P := P) (o := o) v.cells.toList 0 w cs hb hf (by simp [hv]; omega) h1
  simpa [pure, bind, Sem.bind] using this

/-- A store into a block. -/
theorem Eff.store {t : TypeId} {x y : Operand} {b o : Nat} {v : Value} {cs cs' : List Value} {bt : TypeId} {put : HProp → List HProp} {sz by' z ag} (ht : TI P t sz by' z ag) (hx : e.ev x = some (.pointer (some ⟨b, o, none⟩))) (hy : e.ev y = some v)
    (fc : Foc G (blk b cs bt) put) (hv : v.cells.size = sz) (h1 : ∀ c ∈ v.cells.toList, one c = true) (ho : o + sz ≤ cs.length) (hcs : over cs o v.cells.toList = cs') :
    Eff P W0 (.store t x y) ty e G (fun _ : Unit => True) (fun _ => undef) (fun _ => put (blk b cs' bt)) := fun ρ hρ w hw _ _ _ _ => by
  obtain ⟨R, hR⟩ := foc_ext fc
  have hb := Sat.get_blk hR hw
  subst hcs
  refine ⟨(), setObjW w b (.cells (over cs o v.cells.toList).toArray bt (0, 0)), trivial, Sat.write (B := blk b (over cs o v.cells.toList) bt) fc hw hb (fun f _ hf => ⟨hf, by show updH f b _ b = _; simp [updH]⟩), .inr ⟨?_, rfl⟩⟩
  show (((Instr.storeAt t (ρ x) (ρ y))).bind _).run P w = _
  rw [hρ x _ hx, hρ y _ hy]
  rw [run_bind_ok (show (Instr.storeAt t (.pointer (some ⟨b, o, none⟩)) v).run P w = _ by
    show ((Instr.sureAddr _).bind _).run P w = _
    simp only [Instr.sureAddr, pure, Sem.bind]
    exact run_storeVar ht hv h1 hb (NoFr.zero _) ho)]
  rfl

theorem ones {v : Value} (h : one v = true) : v.cells = #[v] := by cases v <;> first | rfl | cases h
/-- A store of one cell. -/
theorem Eff.store1 {t : TypeId} {x y : Operand} {b o : Nat} {v : Value} {cs : List Value} {bt : TypeId} {put : HProp → List HProp} {by' z ag} (ht : TI P t 1 by' z ag) (hx : e.ev x = some (.pointer (some ⟨b, o, none⟩))) (hy : e.ev y = some v)
    (fc : Foc G (blk b cs bt) put) (h1 : one v = true) (ho : o < cs.length) : Eff P W0 (.store t x y) ty e G (fun _ : Unit => True) (fun _ => undef) (fun _ => put (blk b (cs.set o v) bt)) :=
  Eff.store ht hx hy fc (by rw [ones h1]; rfl) (by rw [ones h1]; intro c hc; simp at hc; subst hc; exact h1) (by omega) (by rw [ones h1]; exact over_one ho)

/-- A store of a whole struct over a block. -/
theorem Eff.storeAll {t : TypeId} {x y : Operand} {b : Nat} {vs cs : List Value} {bt : TypeId} {put : HProp → List HProp} {sz by' z ag} (ht : TI P t sz by' z ag) (hx : e.ev x = some (.pointer (some ⟨b, 0, none⟩))) (hy : e.ev y = some (.agg vs.toArray))
    (fc : Foc G (blk b cs bt) put) (hv : vs.length = sz) (h1 : ∀ c ∈ vs, one c = true) (ho : cs.length = sz) :
    Eff P W0 (.store t x y) ty e G (fun _ : Unit => True) (fun _ => undef) (fun _ => put (blk b vs bt)) :=
  Eff.store ht hx hy fc (by simpa [Value.cells] using hv) (by simpa [Value.cells] using h1) (by omega) (by
    unfold over; simp only [Value.cells, List.take_zero, List.nil_append, Nat.zero_add]
    rw [List.drop_eq_nil_of_le (by omega), List.append_nil])
/-! ### new blocks -/
theorem Eff.box {t : TypeId} {x : Operand} {v : Value} (hx : e.ev x = some v) :
    Eff P W0 (.box t x) ty e G (fun _ : Nat => True) (fun b => .pointer (some ⟨b, 0, none⟩)) (fun b => blk b v.cells.toList t :: G) := fun ρ hρ w hw _ _ _ _ => by
  refine ⟨w.heap.size, { w with heap := w.heap.push (.cells v.cells t (0, 0)) }, trivial, ?_, .inl ?_⟩
  rotate_left
  · simp only [execOp, hρ x _ hx, Instr.box, newVar, newRow, newObj, bind, Sem.bind, pure, Sem.run]
  · have := Sat.new hw (.cells v.cells t (0, 0))
    unfold obj at this; unfold blk; simpa using this
theorem Eff.alloc {t : TypeId} {v : Value} {sz by' ag} (ht : TI P t sz by' v ag) :
    Eff P W0 (.alloc t) ty e G (fun _ : Nat => True) (fun b => .pointer (some ⟨b, 0, none⟩)) (fun b => blk b v.cells.toList t :: G) := fun ρ hρ w hw _ _ _ _ => by
  refine ⟨w.heap.size, { w with heap := w.heap.push (.cells v.cells t (0, 0)) }, trivial, ?_, .inl ?_⟩
  rotate_left
  · have h1 : (Instr.alloc t true (.tuple #[])).run P w = .ok (.pointer (some ⟨w.heap.size, 0, none⟩)) { w with heap := w.heap.push (.cells v.cells t (0, 0)) } := by
      unfold Instr.alloc
      show ((zeroValue t).bind _).run P w = _
      rw [run_bind_ok (ht.run_zero w)]
      simp only [newVar, newRow, newObj, bind, Sem.bind, pure, Sem.run]
    show ((Instr.alloc t true (.tuple #[])).bind _).run P w = _
    rw [run_bind_ok h1]; rfl
  · have := Sat.new hw (.cells v.cells t (0, 0))
    unfold obj at this; unfold blk; simpa using this

end
end Go.Sl
