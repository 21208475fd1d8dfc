/- Slices that are made, copied, turned into strings. No program in sight. -/
import Derived.Test.YtmlfcfbblfcpdaaSl
namespace Go.Sl
open Go Go.RowKit
set_option linter.unusedSimpArgs false
set_option linter.unusedVariables false

/-- A byte, as a cell; bytes, as cells. -/
def byteV (b : UInt8) : Value := .int .u8 b.toNat
def bytesV (bs : List UInt8) : List Value := bs.map byteV
theorem bytesV_length (bs : List UInt8) : (bytesV bs).length = bs.length := by simp [bytesV]
theorem bytesV_append (a b : List UInt8) : bytesV (a ++ b) = bytesV a ++ bytesV b := by simp [bytesV]
theorem bytesV_one {bs : List UInt8} : ∀ v ∈ bytesV bs, one v = true := by
  intro v hv; simp only [bytesV, List.mem_map] at hv; obtain ⟨b, _, rfl⟩ := hv; rfl
theorem bytesV_get {bs : List UInt8} {i : Nat} {b : UInt8} (h : bs[i]? = some b) : (bytesV bs)[i]? = some (byteV b) := by simp [bytesV, h]
theorem bytesV_take (bs : List UInt8) (k : Nat) : (bytesV bs).take k = bytesV (bs.take k) := by simp [bytesV]
theorem bytesV_drop (bs : List UInt8) (k : Nat) : (bytesV bs).drop k = bytesV (bs.drop k) := by simp [bytesV]
theorem bytesV_inj {a b : List UInt8} (h : bytesV a = bytesV b) : a = b := by
  induction a generalizing b with
  | nil => cases b with
    | nil => rfl
    | cons y b => simp [bytesV] at h
  | cons x a ih => cases b with
    | nil => simp [bytesV] at h
    | cons y b =>
      simp only [bytesV, List.map_cons, List.cons.injEq, byteV, Value.int.injEq, true_and] at h
      obtain ⟨h1, h2⟩ := h
      rw [ih h2, UInt8.toNat_inj.1 (by omega : x.toNat = y.toNat)]
/-- Bytes, as a string. -/
def strOf (bs : List UInt8) : ByteArray := ⟨bs.toArray⟩

section
variable {P : Program} {W0 : World} {e : Env} {G R : List HProp} {ty : TypeId} {E sz : Nat} {a : Option Addr} {c m : Nat} {xs : List Value}

def Env.evps (e : Env) : List (Nat × Operand) → Option (List (Nat × Value))
  | [] => some []
  | (i, x) :: l => match e.ev x, e.evps l with
    | some v, some vs => some ((i, v) :: vs)
    | _, _ => none
theorem Agrees.evps {ρ : Operand → Value} (h : Agrees e ρ) : ∀ {l : List (Nat × Operand)} {vs : List (Nat × Value)}, e.evps l = some vs → (l.map fun (i, x) => (i, ρ x)) = vs
  | [], vs, q => by simpa [Env.evps] using q
  | (i, x) :: l, vs, q => by
    simp only [Env.evps] at q
    split at q
    · rename_i v us h1 h2
      simp only [Option.some.injEq] at q
      subst q
      simp [h x v h1, h.evps h2]
    · cases q

theorem Sat.new_osl {w : World} {cs : List Value} {el : TypeId} (hw : Sat W0 G w) (hl : cs.length = m * sz) (k : Nat) :
    Sat W0 (osl el sz (some ⟨w.heap.size, 0, none⟩) m m cs :: G) { w with heap := w.heap.push (.cells cs.toArray el (0, 0)), drawn := k } := by
  refine (Sat.draw (Sat.new hw (.cells cs.toArray el (0, 0))) k).imp (Imp.head fun f hf => ?_)
  exact ⟨hl, Nat.le_refl _, .inr ⟨w.heap.size, 0, cs, (0, 0), rfl, hf, NoFr.zero _, by omega, by rw [List.drop_zero, ← hl, List.take_length]⟩⟩

/-- A slice literal. -/
theorem Eff.buildSlice {t el : TypeId} {len : Nat} {parts : List (Nat × Operand)} {pvs : List (Nat × Value)} {by' : Nat} {z : Value} {ag : Bool} {cells : List Value}
    (hu : P.underlying t = some (.slice el)) (ht : TI P el sz by' z ag) (hp : e.evps parts = some pvs) (hsz : len * sz ≤ 2 ^ 24)
    (hf : Instr.fill (fun i => some (i * sz, sz)) ((Array.range (len * sz)).map ((if len * sz = 0 then #[] else z.cells)[· % (if len * sz = 0 then #[] else z.cells).size]!)) pvs = some cells.toArray) (hl : cells.length = len * sz) :
    Eff P W0 (.buildSlice t len parts.toArray) ty e G (fun _ : Nat => True) (fun b => .slice (some ⟨b, 0, none⟩) len len) (fun b => osl el sz (some ⟨b, 0, none⟩) len len cells :: G) := fun ρ hρ w hw _ _ _ _ => by
  have h1 : (Instr.buildSlice t len (parts.toArray.map fun (i, x) => (i, ρ x))).run P w = .ok (.slice (some ⟨w.heap.size, 0, none⟩) len len) { w with heap := w.heap.push (.cells cells.toArray el (0, 0)) } := by
    unfold Instr.buildSlice
    have hq : (parts.toArray.map fun (i, x) => (i, ρ x)) = pvs.toArray := by
      rw [List.map_toArray, hρ.evps hp]
    rw [hq]
    show ((underlying t).bind _).run P w = _
    rw [run_bind_ok (run_underlying hu w)]
    simp only []
    show ((sizeOf el).bind _).run P w = _
    rw [run_bind_ok (ht.run_size w)]
    simp only [bind]
    rw [if_neg (by omega)]
    have hz : ((if len * sz = 0 then Pure.pure #[] else (zeroValue el).bind fun v => Pure.pure v.cells : Sem (Array Value))).run P w = .ok (if len * sz = 0 then #[] else z.cells) w := by
      split
      · rfl
      · rw [run_bind_ok (ht.run_zero w)]; rfl
    have hz' : ∀ (f : Array Value → Sem Value), (if len * sz = 0 then (Pure.pure #[] : Sem (Array Value)).bind f else (zeroValue el).bind fun v => (Pure.pure v.cells : Sem (Array Value)).bind f).run P w = (f (if len * sz = 0 then #[] else z.cells)).run P w := by
      intro f
      split
      · rfl
      · rw [run_bind_ok (ht.run_zero w)]; rfl
    first
      | rw [hz']
      | rw [run_bind_ok hz]
    rw [hf]
    simp only [newRow, newObj, bind, Sem.bind, pure, Sem.run]
  refine ⟨w.heap.size, _, trivial, Sat.new_osl hw hl w.drawn, .inl ?_⟩
  show ((Instr.buildSlice t len (parts.toArray.map fun (i, x) => (i, ρ x))).bind _).run P w = _
  rw [run_bind_ok h1]; rfl

/-- make([]T, n). -/
theorem Eff.makeSlice {t el : TypeId} {x : Operand} {n : Int} {by' : Nat} {z : Value} {ag : Bool}
    (hu : P.underlying t = some (.slice el)) (ht : TI P el sz by' z ag) (hz : z.cells.size = sz) (hsz : 0 < sz) (hx : e.ev x = some (.int .i64 n)) (h0 : 0 ≤ n) (hb : by' * n ≤ 2 ^ 48) (hn : n ≤ 9223372036854775807) :
    Eff P W0 (.makeSlice t x x) ty e G (fun _ : Nat => True) (fun b => .slice (some ⟨b, 0, none⟩) n.toNat n.toNat) (fun b => osl el sz (some ⟨b, 0, none⟩) n.toNat n.toNat ((List.replicate n.toNat z.cells.toList).flatten) :: G) := fun ρ hρ w hw _ _ _ _ => by
  have hcells : ∀ (q : Nat), ((Array.range (q * sz)).map (z.cells[· % z.cells.size]!)) = ((List.replicate q z.cells.toList).flatten).toArray := by
    intro q
    apply Array.ext'
    simp only [Array.toList_map, Array.toList_range]
    induction q with
    | zero => simp
    | succ q ih =>
      rw [List.replicate_succ', List.flatten_append, ← ih, Nat.succ_mul, List.range_add, List.map_append]
      congr 1
      simp only [List.map_map, List.flatten_cons, List.flatten_nil, List.append_nil]
      apply List.ext_getElem
      · simp [hz]
      · intro i h1 h2
        simp only [List.length_map, List.length_range] at h1
        simp only [List.getElem_map, List.getElem_range, Function.comp, hz, Array.getElem_toList]
        have : (q * sz + i) % sz = i := by rw [Nat.mul_comm, Nat.mul_add_mod]; exact Nat.mod_eq_of_lt h1
        rw [this, getElem!_pos z.cells i (by rw [hz]; exact h1)]
  have h1 : (Instr.makeSlice t (.int .i64 n) (.int .i64 n)).run P w = .ok (.slice (some ⟨w.heap.size, 0, none⟩) n.toNat n.toNat) { w with heap := w.heap.push (.cells ((List.replicate n.toNat z.cells.toList).flatten).toArray el (0, 0)) } := by
    unfold Instr.makeSlice
    show ((underlying t).bind _).run P w = _
    rw [run_bind_ok (run_underlying hu w)]
    simp only [asInt, asIntOf, bind, pure, Sem.bind]
    obtain ⟨i, hi, hi1, hi2, hi3⟩ := ht.run_info w
    rw [run_bind_ok hi]
    have hw64 : IntKind.i64.wrap n = n := w64 (by omega) hn
    simp only [hw64, hi2]
    rw [if_neg (by simp; omega)]
    rw [run_bind_ok (show (askRoom (n.toNat * by')).run P w = .ok () w by unfold askRoom; split <;> simp [mark, pure, Sem.run])]
    rw [run_bind_ok (ht.run_size w)]
    by_cases hq : n.toNat * sz = 0
    · have hn0 : n.toNat = 0 := by
        rcases Nat.mul_eq_zero.1 hq with h | h
        · exact h
        · omega
      rw [if_pos hq]
      have hr0 : Array.range 0 = #[] := rfl
      simp [hn0, hr0, newRow, newObj, bind, Sem.bind, pure, Sem.run]
    · rw [if_neg hq, run_bind_ok (ht.run_zero w)]
      simp only [newRow, newObj, bind, Sem.bind, pure, Sem.run, hcells]
  refine ⟨w.heap.size, _, trivial, Sat.new_osl hw ?_ w.drawn, .inl ?_⟩
  · simp [hz]
  · show ((Instr.makeSlice t (ρ x) (ρ x)).bind _).run P w = _
    rw [hρ x _ hx, run_bind_ok h1]; rfl

/-- copy into a slice of one's own. -/
theorem Eff.copy {x y : Operand} {st st2 el : TypeId} {a2 : Option Addr} {k c2 by' : Nat} {z : Value} {ag : Bool} {ys : List Value} {put : HProp → List HProp} {ats : Array TypeId}
    (hx : e.ev x = some (.slice a m c)) (hy : e.ev y = some (.slice a2 k c2)) (hats : ats = #[st, st2]) (hu : P.underlying st = some (.slice el)) (ht : TI P el sz by' z ag)
    (fc : Foc G (osl el sz a c m xs) put) (hr : SlR W0 G sz a2 k ys) (hone : ∀ v ∈ ys, one v = true) :
    Eff P W0 (.call { callee := .builtin .copy, args := #[x, y], argTypes := ats }) ty e G (fun _ : Unit => True) (fun _ => .int .i64 (min k m : Nat)) (fun _ => put (osl el sz a c m (over xs 0 (ys.take (min k m * sz))))) := fun ρ hρ w hw _ _ _ _ => by
  subst hats
  obtain ⟨R, hR⟩ := foc_ext fc
  have hy0 := hr w hw
  have hevs : e.evs [x, y] = some [.slice a m c, .slice a2 k c2] := by simp only [Env.evs, hx, hy]
  obtain ⟨f, hf, hA⟩ := Sat.ext hR hw
  obtain ⟨h1, h2, h3⟩ := hA
  have hpre : ∀ (w' : World) , (match a with | some ad => (storeCells ad (ys.take (min k m * sz))).run P w = .ok () w' | none => w' = w) →
      (Builtin.copy_ #[st, st2] ty #[.slice a m c, .slice a2 k c2]).run P w = .ok (.int .i64 (min k m : Nat)) w' := by
    intro w' hst
    unfold Builtin.copy_
    simp only [List.getElem?_toArray, List.getElem?_cons_zero, List.getElem?_cons_succ]
    show ((underlying st).bind _).run P w = _
    rw [run_bind_ok (run_underlying hu w)]
    simp only [bind]
    rw [run_bind_ok (show (Builtin.lenOf (.slice a2 k c2)).run P w = .ok k w by rfl)]
    rw [run_bind_ok (ht.run_size w)]
    rw [run_bind_ok (run_firstCells_le hy0 (Nat.min_le_left k m))]
    cases a with
    | none => simp only at hst; subst hst; rfl
    | some ad => simp only at hst; simp only []; rw [run_bind_ok hst]; rfl
  have hlen : (ys.take (min k m * sz)).length = min k m * sz := by
    rw [List.length_take, hy0.1]
    exact Nat.min_eq_left (Nat.mul_le_mul_right _ (Nat.min_le_left k m))
  have hle : min k m * sz ≤ m * sz := Nat.mul_le_mul_right _ (Nat.min_le_right k m)
  have hcm : m * sz ≤ c * sz := Nat.mul_le_mul_right _ h2
  rcases h3 with ⟨rfl, rfl, rfl⟩ | ⟨b, o, cs, fr, rfl, hbk, hfr, ho, htk⟩
  · have hm : m = 0 := by omega
    subst hm
    refine ⟨(), w, trivial, ?_, .inl (run_built (s := Builtin.copy_ #[st, st2] ty #[.slice none 0 0, .slice a2 k c2]) hρ hevs (fun _ => rfl) (hpre w rfl))⟩
    have : over [] 0 (ys.take (min k 0 * sz)) = [] := by simp [over]
    rw [this]
    obtain ⟨R', e', hp⟩ := fc
    exact hw.imp (Imp.trans e'.1 (hp _))
  · have hwb := hf _ _ hbk
    refine ⟨(), setObjW w b (.cells (over cs o (ys.take (min k m * sz))).toArray el fr), trivial, ?_, .inl (run_built (s := Builtin.copy_ #[st, st2] ty #[.slice (some ⟨b, o, none⟩) m c, .slice a2 k c2]) hρ hevs (fun _ => rfl) (hpre _ ?_))⟩
    · refine Sat.write (b := b) (o := .cells cs.toArray el fr) fc hw hwb ?_
      intro f' hle' hf'
      obtain ⟨h1', _, h3'⟩ := hf'
      rcases h3' with ⟨h, _⟩ | ⟨b', o', cs', fr', hq, hbk', _, _, htk'⟩
      · cases h
      · cases hq
        have hsame : some (Obj.cells cs'.toArray el fr') = some (Obj.cells cs.toArray el fr) := (hle' _ _ hbk').symm.trans hwb
        simp only [Option.some.injEq, Obj.cells.injEq] at hsame
        obtain ⟨q1, _, q3⟩ := hsame
        have q1 := List.toArray_inj q1
        subst q1 q3
        have hol : (over cs' o (ys.take (min k m * sz))).length = cs'.length := over_length (by omega)
        refine ⟨hbk', ?_, h2, .inr ⟨b, o, over cs' o (ys.take (min k m * sz)), fr', rfl, by simp [updH], by rw [hol]; exact hfr, by rw [hol]; exact ho, ?_⟩⟩
        · rw [over_length (by omega)]; exact h1
        · subst htk
          unfold over
          have e1 : o - (List.take o cs').length = 0 := by simp; omega
          simp only [List.append_assoc, List.drop_append, e1, List.drop_zero, List.take_zero, List.nil_append, Nat.zero_add]
          rw [List.drop_eq_nil_of_le (by simp; omega : (List.take o cs').length ≤ o)]
          simp only [List.nil_append]
          generalize hY : ys.take (min k m * sz) = Y at *
          rw [List.take_append, List.take_of_length_le (by omega : Y.length ≤ m * sz)]
          congr 1
          rw [List.drop_take, List.drop_drop, Nat.zero_sub, Nat.add_zero]
          try rw [List.drop_drop]
    · have := run_storeCells (P := P) (b := b) (o := o) (t := el) (ys.take (min k m * sz)) 0 w cs hwb hfr (by omega) (fun v hv => hone v (List.mem_of_mem_take hv))
      simpa using this

/-- string(b) of bytes. -/
theorem run_toStr {w : World} {cc : Nat} {bs : List UInt8} (h : SlAt w 1 a m (bytesV bs)) : (Conv.bytesToString (.slice a m cc)).run P w = .ok (.string (strOf bs)) w := by
  obtain ⟨h1, h2⟩ := h
  rw [bytesV_length] at h1
  have loop : ∀ (l : List UInt8) (acc : ByteArray), (forIn (m := Sem) (bytesV l) acc (fun c s => match c with
      | .int .u8 n => pure (ForInStep.yield (s.push (UInt8.ofNat n.toNat)))
      | _ => (stuck "bytesToString: byte expected").bind fun (_ : PUnit) => pure (ForInStep.yield s))).run P w = .ok ⟨acc.data ++ l.toArray⟩ w := by
    intro l
    induction l with
    | nil => intro acc; simp [bytesV, pure, Sem.run]
    | cons b l ih =>
      intro acc
      simp only [bytesV, List.map_cons, List.forIn_cons, byteV]
      simp only [bind, pure, Sem.bind]
      have := ih (acc.push b)
      simp only [bytesV, byteV, pure] at this
      have hb : UInt8.ofNat ((b.toNat : Int)).toNat = b := by simp
      rw [hb]
      rw [this]
      simp [ByteArray.push]
  unfold Conv.bytesToString
  cases a with
  | none =>
    rcases h2 with h2 | ⟨_, _, h2, _⟩
    · have : bs = [] := bytesV_inj (by simpa [bytesV] using h2)
      subst this; simp [strOf, pure, Sem.run]; rfl
    · cases h2
  | some ad =>
    have hcells : (loadCells ad m).run P w = .ok (bytesV bs).toArray w := by
      rcases h2 with h2 | ⟨b, o, h2, h3⟩
      · have hb0 : bs = [] := bytesV_inj (by simpa [bytesV] using h2)
        subst hb0
        have : m = 0 := by simpa using h1.symm
        subst this
        simp [loadCells, loadCellsFrom, pure, Sem.run, bytesV]
      · cases h2; exact run_loadCells (by rw [bytesV_length]; omega) h3
    simp only [bind]
    rw [run_bind_ok hcells]
    have := loop bs ByteArray.empty
    simp only [List.forIn_toArray]
    refine (run_bind_ok (f := fun s => Sem.pure (Value.string s)) (w' := w) (a := ⟨ByteArray.empty.data ++ bs.toArray⟩) ?_).trans ?_
    · exact this
    · simp [strOf, Sem.run]
theorem Yield.toStr {x : Operand} {src dst : TypeId} {el : TypeId} {cc : Nat} {bs : List UInt8} (hs : P.underlying src = some (.slice el)) (hd : P.underlying dst = some .string) (hel : P.underlying el = some (.int .u8))
    (hx : e.ev x = some (.slice a m cc)) (hr : SlR W0 G 1 a m (bytesV bs)) : Yield P W0 (.convert src dst x) ty e G (.string (strOf bs)) := fun ρ hρ w hw _ _ _ _ => by
  have h1 : (convert src dst (.slice a m cc)).run P w = .ok (.string (strOf bs)) w := by
    unfold convert
    show ((underlying src).bind _).run P w = _
    rw [run_bind_ok (run_underlying hs w)]
    show ((underlying dst).bind _).run P w = _
    rw [run_bind_ok (run_underlying hd w)]
    simp only []
    show ((underlying el).bind _).run P w = _
    rw [run_bind_ok (run_underlying hel w)]
    exact run_toStr (hr w hw)
  show ((convert src dst (ρ x)).bind _).run P w = _
  rw [hρ x _ hx, run_bind_ok h1]; rfl
theorem Yield.str_eql {t t' : TypeId} {x y : Operand} {s u : ByteArray} (hx : e.ev x = some (.string s)) (hy : e.ev y = some (.string u)) : Yield P W0 (.binOp .eql t x y t') ty e G (.bool (s.toList == u.toList)) := fun ρ hρ w _ _ _ _ _ => by
  simp [execOp, hρ x _ hx, hρ y _ hy, eqGuard, binOp, Op.stringOp, bind, Sem.bind, pure, Sem.run]
theorem Yield.str_neq {t t' : TypeId} {x y : Operand} {s u : ByteArray} (hx : e.ev x = some (.string s)) (hy : e.ev y = some (.string u)) : Yield P W0 (.binOp .neq t x y t') ty e G (.bool (!(s.toList == u.toList))) := fun ρ hρ w _ _ _ _ _ => by
  simp [execOp, hρ x _ hx, hρ y _ hy, eqGuard, binOp, Op.stringOp, bind, Sem.bind, pure, Sem.run]
theorem Yield.str_same {t t' : TypeId} {x y : Operand} {s : ByteArray} (hx : e.ev x = some (.string s)) (hy : e.ev y = some (.string s)) : Yield P W0 (.binOp .eql t x y t') ty e G (.bool true) := by
  have := Yield.str_eql (P := P) (W0 := W0) (G := G) (ty := ty) (t := t) (t' := t') hx hy
  simpa using this
theorem Yield.str_samen {t t' : TypeId} {x y : Operand} {s : ByteArray} (hx : e.ev x = some (.string s)) (hy : e.ev y = some (.string s)) : Yield P W0 (.binOp .neq t x y t') ty e G (.bool false) := by
  have := Yield.str_neq (P := P) (W0 := W0) (G := G) (ty := ty) (t := t) (t' := t') hx hy
  simpa using this
theorem Yield.str_add {t t' : TypeId} {x y : Operand} {s u : ByteArray} (hx : e.ev x = some (.string s)) (hy : e.ev y = some (.string u)) (hb : s.size + u.size ≤ 2 ^ 62) : Yield P W0 (.binOp .add t x y t') ty e G (.string (s ++ u)) := fun ρ hρ w _ _ _ _ _ => by
  have hb' : ¬ ((9223372036854775807 : Int) < (s.size : Int) + (u.size : Int)) := by omega
  simp [hb', execOp, hρ x _ hx, hρ y _ hy, eqGuard, binOp, Op.stringOp, bind, Sem.bind, pure, Sem.run]
theorem strOf_append (a b : List UInt8) : strOf a ++ strOf b = strOf (a ++ b) := by
  apply ByteArray.ext; simp [strOf]
theorem Yield.str_cat {t t' : TypeId} {x y : Operand} {a b : List UInt8} (hx : e.ev x = some (.string (strOf a))) (hy : e.ev y = some (.string (strOf b))) (hb : a.length + b.length ≤ 2 ^ 62) : Yield P W0 (.binOp .add t x y t') ty e G (.string (strOf (a ++ b))) := by
  have := Yield.str_add (P := P) (W0 := W0) (G := G) (ty := ty) (t := t) (t' := t') hx hy (by simpa [strOf, ByteArray.size] using hb)
  rwa [strOf_append] at this

/-! ### bytes: slices whose cells are bytes -/
/-- Bytes that may be read: in every world that bears G the slice reads as bs. -/
def RdB (W0 : World) (G : List HProp) (a : Option Addr) (c : Nat) (bs : List UInt8) : Prop := ∀ w, Sat W0 G w → SlAt w 1 a bs.length (bytesV bs) ∧ bs.length ≤ c
theorem RdB.slR {bs : List UInt8} (h : RdB W0 G a c bs) : SlR W0 G 1 a bs.length (bytesV bs) := fun w hw => (h w hw).1
theorem RdB.cap {bs : List UInt8} (h : RdB W0 G a c bs) (w : World) (hw : Sat W0 G w) : bs.length ≤ c := (h w hw).2
theorem RdB.imp {G' : List HProp} {bs : List UInt8} (h : RdB W0 G' a c bs) (hi : Imp G G') : RdB W0 G a c bs := fun w hw => h w (hw.imp hi)
theorem RdB.of_osl {bs : List UInt8} (x : Ext G (osl E 1 a c m xs) R) (h1 : m = bs.length) (h2 : xs = bytesV bs) : RdB W0 G a c bs := fun w hw => by
  subst h1 h2; exact ⟨SlR.of_osl x w hw, (osl_facts x w hw).2⟩
theorem RdB.of_slR {bs : List UInt8} (h : SlR W0 G 1 a bs.length (bytesV bs)) (hc : bs.length ≤ c) : RdB W0 G a c bs := fun w hw => ⟨h w hw, hc⟩
/-- A slice of bytes of one's own. -/
abbrev oby (E : Nat) (a : Option Addr) (c : Nat) (bs : List UInt8) : HProp := osl E 1 a c bs.length (bytesV bs)
theorem Eff.appendB {x y : Operand} {st st2 el el2 : TypeId} {a2 : Option Addr} {c2 : Nat} {z : Value} {ag : Bool} {bs ys : List UInt8} {put : HProp → List HProp} {ats : Array TypeId}
    (hx : e.ev x = some (.slice a bs.length c)) (hy : e.ev y = some (.slice a2 ys.length c2)) (hats : ats = #[st, st2]) (hu : P.underlying st = some (.slice el)) (hu2 : P.underlying st2 = some (.slice el2)) (ht : TI P el 1 1 z ag) (hz : z.cells.size = 1)
    (fc : Foc G (oby el a c bs) put) (hr : SlR W0 G 1 a2 ys.length (bytesV ys)) (hb : bs.length + ys.length ≤ 2 ^ 47 - 500) :
    Eff P W0 (.call { callee := .builtin .append, args := #[x, y], argTypes := ats }) ty e G (fun _ : Option Addr × Nat => True) (fun p => .slice p.1 (bs ++ ys).length p.2) (fun p => put (oby el p.1 p.2 (bs ++ ys))) := by
  have := Eff.append (ty := ty) hx hy hats hu hu2 ht hz (by decide) fc hr bytesV_one (by omega)
  simpa only [oby, List.length_append, bytesV_append] using this
theorem Eff.appendB0 {x y : Operand} {st st2 el el2 : TypeId} {a2 : Option Addr} {c2 : Nat} {z : Value} {ag : Bool} {ys : List UInt8} {put : HProp → List HProp} {ats : Array TypeId}
    (hx : e.ev x = some (.slice a 0 c)) (hy : e.ev y = some (.slice a2 ys.length c2)) (hats : ats = #[st, st2]) (hu : P.underlying st = some (.slice el)) (hu2 : P.underlying st2 = some (.slice el2)) (ht : TI P el 1 1 z ag) (hz : z.cells.size = 1)
    (fc : Foc G (osl el 1 a c 0 []) put) (hr : SlR W0 G 1 a2 ys.length (bytesV ys)) (hb : ys.length ≤ 2 ^ 47 - 500) :
    Eff P W0 (.call { callee := .builtin .append, args := #[x, y], argTypes := ats }) ty e G (fun _ : Option Addr × Nat => True) (fun p => .slice p.1 ys.length p.2) (fun p => put (oby el p.1 p.2 ys)) :=
  Eff.append0 (ty := ty) hx hy hats hu hu2 ht hz (by decide) fc hr bytesV_one (by omega)
/-- An element of a slice of records. -/
theorem flat_get {α : Type} {f : α → List Value} {sz : Nat} (hf : ∀ x, (f x).length = sz) : ∀ {xs : List α} {i : Nat} {x : α}, xs[i]? = some x → (((xs.map f).flatten).drop (i * sz)).take sz = f x
  | [], _, _, h => by simp at h
  | y :: xs, 0, x, h => by
    simp only [List.getElem?_cons_zero, Option.some.injEq] at h
    subst h
    simp only [List.map_cons, List.flatten_cons, Nat.zero_mul, List.drop_zero]
    rw [List.take_append_of_le_length (by rw [hf]; omega), List.take_of_length_le (by rw [hf]; omega)]
  | y :: xs, i + 1, x, h => by
    have ih := flat_get hf (xs := xs) (i := i) (x := x) (by simpa using h)
    simp only [List.map_cons, List.flatten_cons]
    have e1 : (i + 1) * sz - (f y).length = i * sz := by rw [hf, Nat.succ_mul]; omega
    rw [List.drop_append, List.drop_eq_nil_of_le (by rw [hf, Nat.succ_mul]; omega), List.nil_append, e1]
    exact ih
theorem flat_len {α : Type} {f : α → List Value} {sz : Nat} (hf : ∀ x, (f x).length = sz) (xs : List α) : ((xs.map f).flatten).length = xs.length * sz := by
  induction xs with
  | nil => simp
  | cons x xs ih => simp only [List.map_cons, List.flatten_cons, List.length_append, hf, ih, List.length_cons, Nat.succ_mul]; omega
theorem SlR.elem {α : Type} {f : α → List Value} {xs : List α} {b o i : Nat} {x : α} (s : SlR W0 G sz (some ⟨b, o, none⟩) m ((xs.map f).flatten)) (hf : ∀ x, (f x).length = sz) (hi : xs[i]? = some x) : Row W0 G b (o + i * sz) (f x) :=
  s.row (i * sz) sz (flat_get hf hi)
theorem SlR.elem_shape {α : Type} {f : α → List Value} {xs : List α} {i : Nat} (s : SlR W0 G sz a m ((xs.map f).flatten)) (hf : ∀ x, (f x).length = sz) (h0 : 0 < sz) (hi : i < xs.length) (w : World) (hw : Sat W0 G w) : ∃ b o, a = some ⟨b, o, none⟩ := by
  refine s.shape (fun q => ?_) w hw
  have := flat_len hf xs
  rw [q] at this
  have h1 : 1 * 1 ≤ xs.length * sz := Nat.mul_le_mul (by omega) h0
  simp at this h1; omega
theorem osl_nil : Imp G (osl E sz none 0 0 [] :: G) := fun h s => by
  refine ⟨fun _ => none, ?_, ⟨by simp, Nat.le_refl _, .inl ⟨rfl, rfl, rfl⟩⟩, s.mono fun k o q => minus_some.2 ⟨rfl, q⟩⟩
  intro k o q; cases q
theorem oby_nil : Imp G (oby E none 0 [] :: G) := osl_nil

theorem strOf_toList (bs : List UInt8) : (strOf bs).toList = bs := by
  simp [strOf]

/-! ### what an assertion hides is laid open -/
theorem Ctr.ex {f : FuncId} {args : List Value} {α : Type} {φ : α → Prop} {v : α → Value} {G' : α → List HProp} {A : HProp} {ι : Type} {ψ : ι → Prop} {B : ι → HProp} (x : Ext G A R) (h : ∀ y, A y → ∃ i, ψ i ∧ B i y)
    (k : ∀ i, ψ i → Ctr P W0 f args (B i :: R) φ v G') : Ctr P W0 f args G φ v G' := fun w hw => by
  obtain ⟨g, hg, hA, hs⟩ := x.1 _ hw.2
  obtain ⟨i, hi, hB⟩ := h g hA
  exact k i hi w ⟨hw.1, g, hg, hB, hs⟩
theorem OG.ex {n : Nat} {ds : List Deferred} {ops : Array Oper} {Q : Exit → Act → World → Prop} {l : List Oper} {A : HProp} {ι : Type} {ψ : ι → Prop} {B : ι → HProp} (x : Ext G A R) (h : ∀ y, A y → ∃ i, ψ i ∧ B i y)
    (k : ∀ i, ψ i → OG P W0 n ds ops Q l e (B i :: R)) : OG P W0 n ds ops Q l e G := fun a w ha hw => by
  obtain ⟨g, hg, hA, hs⟩ := x.1 _ hw.2
  obtain ⟨i, hi, hB⟩ := h g hA
  exact k i hi a w ha ⟨hw.1, g, hg, hB, hs⟩
theorem CG.ex {r : Option Nat} {n : Nat} {ds : List Deferred} {Q : Exit → Act → World → Prop} {cd : Code} {A : HProp} {ι : Type} {ψ : ι → Prop} {B : ι → HProp} (x : Ext G A R) (h : ∀ y, A y → ∃ i, ψ i ∧ B i y)
    (k : ∀ i, ψ i → CG r P W0 n ds cd Q e (B i :: R)) : CG r P W0 n ds cd Q e G := fun a w ha hw => by
  obtain ⟨g, hg, hA, hs⟩ := x.1 _ hw.2
  obtain ⟨i, hi, hB⟩ := h g hA
  exact k i hi a w ha ⟨hw.1, g, hg, hB, hs⟩

/-- A piece of a slice of one's own is one's own. -/
theorem osl_cut {l h : Nat} {ys : List Value} (hlh : l ≤ h) (hh : h ≤ c) (hm : h ≤ m) (hy : (xs.drop (l * sz)).take ((h - l) * sz) = ys) (x : Heaplet) (o : osl E sz a c m xs x) : osl E sz (a.map fun a => cutAt a l c sz) (c - l) (h - l) ys x := by
  obtain ⟨h1, h2, h3⟩ := o
  have hle : h * sz ≤ m * sz := Nat.mul_le_mul_right _ hm
  refine ⟨by subst hy; simp only [List.length_take, List.length_drop, h1, Nat.sub_mul]; omega, by omega, ?_⟩
  rcases h3 with ⟨rfl, rfl, rfl⟩ | ⟨b, o, cs, fr, rfl, hb, hf, ho, ht⟩
  · exact .inl ⟨rfl, by omega, by simpa using hy.symm⟩
  · have hlc : l * sz ≤ c * sz := Nat.mul_le_mul_right _ (by omega)
    have hmc : m * sz ≤ c * sz := Nat.mul_le_mul_right _ h2
    have hll : l * sz ≤ h * sz := Nat.mul_le_mul_right _ hlh
    by_cases hq : c = l
    · have e1 : h - l = 0 := by omega
      refine .inr ⟨b, o, cs, fr, by simp [cutAt, hq], hb, hf, by rw [hq]; simp; omega, ?_⟩
      rw [e1] at hy ⊢; simpa using hy
    · refine .inr ⟨b, o + l * sz, cs, fr, by simp [cutAt, hq, add_at], hb, hf, by rw [Nat.sub_mul]; omega, ?_⟩
      subst ht hy
      rw [List.drop_take, List.take_take, List.drop_drop, Nat.sub_mul, Nat.min_eq_left (by omega)]

theorem osl_take {h : Nat} (hm : h ≤ m) (x : Heaplet) (o : osl E sz a c m xs x) : osl E sz a c h (xs.take (h * sz)) x := by
  have h2 := o.2.1
  have := osl_cut (l := 0) (h := h) (ys := xs.take (h * sz)) (Nat.zero_le _) (by omega) hm (by simp) x o
  have e1 : (a.map fun a => cutAt a 0 c sz) = a := by
    cases a with
    | none => rfl
    | some a => simp [cutAt, Addr.add]
  rw [e1] at this
  simpa using this
theorem SlR.take {h : Nat} {ys : List Value} (s : SlR W0 G sz a m xs) (hh : h ≤ m) (hy : xs.take (h * sz) = ys) : SlR W0 G sz a h ys := fun w hw => by
  obtain ⟨h1, h2⟩ := s w hw
  have hle : h * sz ≤ m * sz := Nat.mul_le_mul_right _ hh
  subst hy
  refine ⟨by rw [List.length_take, h1]; omega, ?_⟩
  rcases h2 with h2 | ⟨b, o, rfl, h2⟩
  · subst h2; simp
  · exact .inr ⟨b, o, rfl, fun i v hi => h2 i v (by rw [List.getElem?_take] at hi; split at hi; exact hi; cases hi)⟩

theorem SlR.takeB {bs : List UInt8} (s : SlR W0 G 1 a bs.length (bytesV bs)) (k : Nat) : SlR W0 G 1 a (bs.take k).length (bytesV (bs.take k)) :=
  s.take (by simp; omega) (by rw [bytesV_take]; congr 1; rw [Nat.mul_one, List.length_take, List.take_eq_take_iff]; omega)
theorem SlR.preB {as bs : List UInt8} (s : SlR W0 G 1 a (as ++ bs).length (bytesV (as ++ bs))) : SlR W0 G 1 a as.length (bytesV as) := by
  have := s.takeB as.length
  rwa [List.take_left] at this
theorem SlR.dropB {bs : List UInt8} (s : SlR W0 G 1 a bs.length (bytesV bs)) {k cc : Nat} (hc : bs.length ≤ cc) (hk : k ≤ bs.length) : SlR W0 G 1 (a.map fun a => cutAt a k cc 1) (bs.drop k).length (bytesV (bs.drop k)) := by
  have := s.cut (l := k) (h := bs.length) (ys := bytesV (bs.drop k)) hk (Nat.le_refl _) hc (by rw [Nat.mul_one, Nat.mul_one, bytesV_drop, List.take_of_length_le (by simp [bytesV])])
  rw [List.length_drop]; exact this
theorem SlR.midB {bs : List UInt8} (s : SlR W0 G 1 a bs.length (bytesV bs)) {l k cc : Nat} (hc : bs.length ≤ cc) (hk : l + k ≤ bs.length) : SlR W0 G 1 (a.map fun a => cutAt a l cc 1) ((bs.drop l).take k).length (bytesV ((bs.drop l).take k)) := by
  have := s.cut (l := l) (h := l + k) (ys := bytesV ((bs.drop l).take k)) (by omega) hk hc (by rw [Nat.mul_one, Nat.mul_one, bytesV_drop, bytesV_take]; congr 2; omega)
  rw [show ((bs.drop l).take k).length = l + k - l by simp; omega]; exact this
/-! ### slice literals, element by element -/
def zipI : Nat → List Operand → List (Nat × Operand)
  | _, [] => []
  | i, x :: l => (i, x) :: zipI (i + 1) l
def zipV : Nat → List Value → List (Nat × Value)
  | _, [] => []
  | i, x :: l => (i, x) :: zipV (i + 1) l
theorem evps_zip : ∀ {xs : List Operand} {vs : List Value} (i : Nat), e.evs xs = some vs → e.evps (zipI i xs) = some (zipV i vs)
  | [], vs, i, h => by simp [Env.evs] at h; subst h; rfl
  | x :: xs, vs, i, h => by
    simp only [Env.evs] at h
    split at h
    · rename_i v us h1 h2
      simp only [Option.some.injEq] at h
      subst h
      simp only [zipI, Env.evps, h1, evps_zip (i + 1) h2, zipV]
    · cases h
theorem fold_over (off : Nat) : ∀ (vs : List Value) (j : Nat) (cs : List Value), off + j + vs.length ≤ cs.length →
    ((vs.zipIdx j).foldl (fun (a : Array Value) (p : Value × Nat) => a.setIfInBounds (off + p.2) p.1) cs.toArray) = (over cs (off + j) vs).toArray
  | [], j, cs, _ => by simp [over_nil]
  | v :: vs, j, cs, h => by
    simp only [List.length_cons] at h
    simp only [List.zipIdx_cons, List.foldl_cons, List.setIfInBounds_toArray]
    rw [fold_over off vs (j + 1) (cs.set (off + j) v) (by simp; omega), ← Nat.add_assoc, over_cons (by simp; omega)]
theorem fill_row (sz : Nat) : ∀ (vs : List Value) (i : Nat) (acc : List Value), acc.length = (i + vs.length) * sz → (∀ v ∈ vs, v.cells.size = sz) →
    Instr.fill (fun i => some (i * sz, sz)) acc.toArray (zipV i vs) = some (acc.take (i * sz) ++ (vs.map fun v => v.cells.toList).flatten).toArray
  | [], i, acc, h, _ => by
    simp only [zipV, Instr.fill, List.map_nil, List.flatten_nil, List.append_nil]
    rw [List.take_of_length_le (by simp at h; omega)]
  | v :: vs, i, acc, h, hv => by
    have hs : v.cells.size = sz := hv v (by simp)
    simp only [List.length_cons] at h
    have hle : i * sz + sz ≤ acc.length := by
      rw [h, ← Nat.succ_mul]; exact Nat.mul_le_mul_right _ (by omega)
    simp only [zipV, Instr.fill, hs]
    rw [if_neg (by simp; omega)]
    have hfold : (v.cells.zipIdx.foldl (fun (cs : Array Value) (x : Value × Nat) => match x with | (c, j) => cs.setIfInBounds (i * sz + j) c) acc.toArray) = (over acc (i * sz) v.cells.toList).toArray := by
      have := fold_over (i * sz) v.cells.toList 0 acc (by simp [hs]; omega)
      rw [Nat.add_zero] at this
      rw [← this, ← Array.foldl_toList]
      simp only [Array.toList_zipIdx]
    rw [hfold, fill_row sz vs (i + 1) _ (by rw [over_length (by simp [hs]; omega), h]; congr 1; omega) (fun u hu => hv u (by simp [hu]))]
    congr 2
    simp only [List.map_cons, List.flatten_cons]
    rw [← List.append_assoc]
    congr 1
    unfold over
    have e1 : (acc.take (i * sz)).length = i * sz := by simp; omega
    have e2 : (i + 1) * sz = i * sz + sz := Nat.succ_mul i sz
    rw [List.append_assoc, List.take_append, List.take_of_length_le (by rw [e1, e2]; omega), e1, e2, Nat.add_sub_cancel_left, List.take_append]
    have e3 : v.cells.toList.length = sz := by rw [Array.length_toList]; exact hs
    rw [List.take_of_length_le (by omega : v.cells.toList.length ≤ sz), e3, Nat.sub_self, List.take_zero, List.append_nil]
/-- A slice literal, each element a value of its own. -/
theorem Eff.lit (ops : List Operand) {t el : TypeId} {len : Nat} {parts : List (Nat × Operand)} {vs : List Value} {by' : Nat} {z : Value} {ag : Bool} {cells : List Value}
    (hu : P.underlying t = some (.slice el)) (ht : TI P el sz by' z ag) (hzs : z.cells.size = sz) (hparts : parts = zipI 0 ops) (hp : e.evs ops = some vs) (hn : vs.length = len) (hsz : len * sz ≤ 2 ^ 24)
    (hv : ∀ v ∈ vs, v.cells.size = sz) (hc : (vs.map fun v => v.cells.toList).flatten = cells) :
    Eff P W0 (.buildSlice t len parts.toArray) ty e G (fun _ : Nat => True) (fun b => .slice (some ⟨b, 0, none⟩) len len) (fun b => osl el sz (some ⟨b, 0, none⟩) len len cells :: G) := by
  subst hparts hc hn
  have hl : ∀ (l : List Value), (∀ v ∈ l, v.cells.size = sz) → ((l.map fun v => v.cells.toList).flatten).length = l.length * sz := by
    intro l
    induction l with
    | nil => intro _; simp
    | cons v l ih =>
      intro h
      simp only [List.map_cons, List.flatten_cons, List.length_append, List.length_cons, Nat.succ_mul, ih (fun u hu => h u (by simp [hu]))]
      have := h v (by simp)
      simp [this]; omega
  refine Eff.buildSlice hu ht (evps_zip 0 hp) hsz ?_ (hl vs hv)
  have := fill_row sz vs 0 ((Array.range (vs.length * sz)).map ((if vs.length * sz = 0 then #[] else z.cells)[· % (if vs.length * sz = 0 then #[] else z.cells).size]!)).toList (by simp) hv
  rw [Array.toArray_toList] at this
  rw [this]; simp
theorem Eff.lit0 {t el : TypeId} {by' : Nat} {z : Value} {ag : Bool} (hu : P.underlying t = some (.slice el)) (ht : TI P el sz by' z ag) (hzs : z.cells.size = sz) :
    Eff P W0 (.buildSlice t 0 #[]) ty e G (fun _ : Nat => True) (fun b => .slice (some ⟨b, 0, none⟩) 0 0) (fun b => osl el sz (some ⟨b, 0, none⟩) 0 0 [] :: G) :=
  Eff.lit [] (vs := []) (parts := []) (by' := by') (z := z) (ag := ag) hu ht hzs rfl rfl rfl (by simp) (by simp) rfl
theorem Eff.lit1 {t el : TypeId} {by' : Nat} {z v : Value} {ag : Bool} {x : Operand} (hu : P.underlying t = some (.slice el)) (ht : TI P el 1 by' z ag) (hzs : z.cells.size = 1) (hx : e.ev x = some v) (h1 : one v = true) :
    Eff P W0 (.buildSlice t 1 #[(0, x)]) ty e G (fun _ : Nat => True) (fun b => .slice (some ⟨b, 0, none⟩) 1 1) (fun b => osl el 1 (some ⟨b, 0, none⟩) 1 1 [v] :: G) :=
  Eff.lit [x] (vs := [v]) (parts := [(0, x)]) (by' := by') (z := z) (ag := ag) hu ht hzs rfl (by simp only [Env.evs, hx]) rfl (by decide) (by simp [ones h1]) (by simp [ones h1])

/-! ### struct literals -/
def places? (P : Program) (t : TypeId) : Option (List (Nat × Nat)) :=
  match P.underlying t with
  | some (.struct fs) => fs.toList.mapM fun f => match P.info? f.type with | some i => some (f.offset, i.size) | none => none
  | _ => none
def fillL (ps : List (Nat × Nat)) (cells : List Value) : List (Nat × Value) → Option (List Value)
  | [] => some cells
  | (i, v) :: rest => match ps[i]? with
    | none => none
    | some (off, size) => if v.cells.size = size ∧ off + size ≤ cells.length then fillL ps (over cells off v.cells.toList) rest else none
theorem fill_eq (ps : List (Nat × Nat)) : ∀ (pvs : List (Nat × Value)) (cells out : List Value), fillL ps cells pvs = some out → Instr.fill (fun i => (ps.toArray)[i]?) cells.toArray pvs = some out.toArray
  | [], cells, out, h => by simp [fillL] at h; subst h; rfl
  | (i, v) :: rest, cells, out, h => by
    simp only [fillL] at h
    split at h
    · cases h
    · rename_i off size hp
      split at h
      · rename_i hc
        have hp' : ps.toArray[i]? = some (off, size) := by simpa using hp
        simp only [Instr.fill, hp']
        rw [if_neg (by simp; omega)]
        have hfold : (v.cells.zipIdx.foldl (fun (cs : Array Value) (x : Value × Nat) => match x with | (c, j) => cs.setIfInBounds (off + j) c) cells.toArray) = (over cells off v.cells.toList).toArray := by
          have := fold_over off v.cells.toList 0 cells (by simp; omega)
          rw [Nat.add_zero] at this
          rw [← this, ← Array.foldl_toList]
          simp only [Array.toList_zipIdx]
        rw [hfold]
        exact fill_eq ps rest _ _ h
      · cases h
theorem run_places {w : World} : ∀ (fs : List Field) (ps : List (Nat × Nat)), (fs.mapM fun f => match P.info? f.type with | some i => some (f.offset, i.size) | none => none) = some ps →
    (fs.mapM (m := Sem) fun f => do pure (f.offset, ← sizeOf f.type)).run P w = .ok ps w
  | [], ps, h => by simp at h; subst h; rfl
  | f :: fs, ps, h => by
    rw [List.mapM_cons] at h ⊢
    simp only [bind, Option.bind_eq_some_iff, pure, Option.some.injEq] at h
    obtain ⟨y, hy, ys, hys, rfl⟩ := h
    cases hi : P.info? f.type with
    | none => rw [hi] at hy; cases hy
    | some i =>
      rw [hi] at hy
      simp only [Option.some.injEq] at hy
      subst hy
      have h1 : (sizeOf f.type).run P w = .ok i.size w := by simp [sizeOf, typeInfo, program, bind, Sem.bind, pure, hi, Sem.run]
      have ih := run_places (w := w) fs ys (by simpa [bind, pure] using hys)
      show (((sizeOf f.type).bind fun s => Sem.pure (f.offset, s)).bind _).run P w = _
      rw [run_bind_ok (show ((sizeOf f.type).bind fun s => Sem.pure (f.offset, s)).run P w = .ok (f.offset, i.size) w by rw [run_bind_ok h1]; rfl)]
      show (Sem.bind (List.mapM _ fs) _).run P w = _
      rw [run_bind_ok ih]; rfl
theorem Yield.build {t : TypeId} {parts : List (Nat × Operand)} {pvs : List (Nat × Value)} {ps : List (Nat × Nat)} {zs cells : List Value} {by' : Nat} {ag : Bool}
    (hps : places? P t = some ps) (ht : TI P t sz by' (.agg zs.toArray) ag) (hp : e.evps parts = some pvs) (hf : fillL ps zs pvs = some cells) :
    Yield P W0 (.build t parts.toArray) ty e G (.agg cells.toArray) := fun ρ hρ w _ _ _ _ _ => by
  unfold places? at hps
  split at hps
  · rename_i fs hu
    have h1 : (Instr.build t (parts.toArray.map fun (i, x) => (i, ρ x))).run P w = .ok (.agg cells.toArray) w := by
      have hq : (parts.toArray.map fun (i, x) => (i, ρ x)) = pvs.toArray := by rw [List.map_toArray, hρ.evps hp]
      rw [hq]
      unfold Instr.build
      simp only [bind, pure]
      rw [run_bind_ok (ht.run_zero w)]
      rw [run_bind_ok (run_underlying hu w)]
      simp only []
      have h2 : (fs.mapM (m := Sem) fun f => do pure (f.offset, ← sizeOf f.type)).run P w = .ok ps.toArray w := by
        rw [Array.mapM_eq_mapM_toList]
        have := run_places (P := P) (w := w) fs.toList ps hps
        show (Sem.run P (List.toArray <$> _) w) = _
        show (Sem.bind _ (fun a => Sem.pure (List.toArray a))).run P w = _
        rw [run_bind_ok this]; rfl
      simp only [bind, pure] at h2
      rw [run_bind_ok h2]
      have h3 := fill_eq ps pvs zs cells hf
      simp only [Value.cells] at h3 ⊢
      rw [h3]
      rfl
    show ((Instr.build t (parts.toArray.map fun (i, x) => (i, ρ x))).bind _).run P w = _
    rw [run_bind_ok h1]; rfl
  · cases hps
theorem Yield.build0 {t : TypeId} {ps : List (Nat × Nat)} {zs : Array Value} {by' : Nat} {ag : Bool}
    (hps : places? P t = some ps) (ht : TI P t sz by' (.agg zs) ag) : Yield P W0 (.build t #[]) ty e G (.agg zs) := by
  have := Yield.build (W0 := W0) (e := e) (G := G) (ty := ty) (parts := []) (pvs := []) (zs := zs.toList) (cells := zs.toList) (by' := by') (ag := ag) hps (by simpa using ht) rfl rfl
  simpa using this
theorem over_all {cs vs : List Value} (h : vs.length = cs.length) : over cs 0 vs = vs := by
  unfold over; rw [List.drop_eq_nil_of_le (by omega)]; simp
/-- A store into an element of a slice of one's own. -/
theorem Eff.storeElem {t : TypeId} {x y : Operand} {b o i : Nat} {v : Value} {put : HProp → List HProp} {by' z ag} (ht : TI P t 1 by' z ag) (hx : e.ev x = some (.pointer (some ⟨b, o + i, none⟩))) (hy : e.ev y = some v)
    (fc : Foc G (osl E sz (some ⟨b, o, none⟩) c m xs) put) (h1 : one v = true) (hi : i < m * sz) : Eff P W0 (.store t x y) ty e G (fun _ : Unit => True) (fun _ => undef) (fun _ => put (osl E sz (some ⟨b, o, none⟩) c m (xs.set i v))) := fun ρ hρ w hw _ _ _ _ => by
  obtain ⟨R, hR⟩ := foc_ext fc
  obtain ⟨f, hf, hA⟩ := Sat.ext hR hw
  obtain ⟨q1, q2, q3⟩ := hA
  rcases q3 with ⟨q, _⟩ | ⟨b', o', cs, fr, q, hbk, hfr, ho, htk⟩
  · cases q
  · cases q
    have hcm : m * sz ≤ c * sz := Nat.mul_le_mul_right _ q2
    have hwb := hf _ _ hbk
    have hv : v.cells.size = 1 := by rw [ones h1]; rfl
    have hst := run_storeVar (P := P) (t := t) (o := o + i) (v := v) ht hv (by rw [ones h1]; intro c hc; simp at hc; subst hc; exact h1) hwb hfr (by omega)
    have hov : over cs (o + i) v.cells.toList = cs.set (o + i) v := by rw [ones h1]; exact over_one (by omega)
    rw [hov] at hst
    refine ⟨(), setObjW w b (.cells (cs.set (o + i) v).toArray E fr), trivial, Sat.write (b := b) (o := .cells cs.toArray E fr) fc hw hwb ?_, .inr ⟨?_, rfl⟩⟩
    · intro f' hle' hf'
      obtain ⟨h1', _, h3'⟩ := hf'
      rcases h3' with ⟨h, _⟩ | ⟨b', o', cs', fr', hq, hbk', _, _, htk'⟩
      · cases h
      · cases hq
        have hsame : some (Obj.cells cs'.toArray E fr') = some (Obj.cells cs.toArray E fr) := (hle' _ _ hbk').symm.trans hwb
        simp only [Option.some.injEq, Obj.cells.injEq] at hsame
        obtain ⟨p1, _, p3⟩ := hsame
        have p1 := List.toArray_inj p1
        subst p1 p3
        refine ⟨hbk', by simpa using h1', q2, .inr ⟨b, o, cs'.set (o + i) v, fr', rfl, by simp [updH], by simpa using hfr, by simpa using ho, ?_⟩⟩
        rw [List.drop_set, if_neg (by omega), show o + i - o = i by omega, List.take_set, htk']
    · show (((Instr.storeAt t (ρ x) (ρ y))).bind _).run P w = _
      rw [hρ x _ hx, hρ y _ hy]
      rw [run_bind_ok (show (Instr.storeAt t (.pointer (some ⟨b, o + i, none⟩)) v).run P w = _ by
        show ((Instr.sureAddr _).bind _).run P w = _
        simp only [Instr.sureAddr, pure, Sem.bind]
        exact hst)]
      rfl
theorem bytesV_set (bs : List UInt8) (i : Nat) (b : UInt8) : (bytesV bs).set i (byteV b) = bytesV (bs.set i b) := by simp [bytesV, List.map_set]
theorem wrap_u8_add (b c : UInt8) : IntKind.u8.wrap ((b.toNat : Int) + (c.toNat : Int)) = ((b + c).toNat : Int) := by
  rw [IntKind.wrap_u8, UInt8.toNat_add]; omega
/-- make([]byte, n). -/
theorem flat_zero (n : Nat) : (List.replicate n [Value.int .u8 0]).flatten = bytesV (List.replicate n 0) := by
  induction n with
  | zero => rfl
  | succ n ih => simp only [List.replicate_succ, List.flatten_cons, ih]; rfl
theorem Eff.makeB {t el : TypeId} {x : Operand} {n : Int} {ag : Bool} (k : Nat)
    (hu : P.underlying t = some (.slice el)) (ht : TI P el 1 1 (.int .u8 0) ag) (hx : e.ev x = some (.int .i64 n)) (hn : n = (k : Int)) (hb : k ≤ 2 ^ 48) :
    Eff P W0 (.makeSlice t x x) ty e G (fun _ : Nat => True) (fun b => .slice (some ⟨b, 0, none⟩) (List.replicate k (0 : UInt8)).length k) (fun b => oby el (some ⟨b, 0, none⟩) k (List.replicate k 0) :: G) := by
  subst hn
  have := Eff.makeSlice (P := P) (W0 := W0) (G := G) (ty := ty) (n := (k : Int)) hu ht rfl (by decide) hx (by omega) (by omega) (by omega)
  simp only [Int.toNat_natCast] at this
  rw [show (Value.int IntKind.u8 0).cells.toList = [Value.int IntKind.u8 0] from rfl, flat_zero] at this
  unfold oby; rw [List.length_replicate]; exact this
/-- copy over the whole of a slice of one's own. -/
theorem Eff.copyB {x y : Operand} {st st2 el : TypeId} {a2 : Option Addr} {k c2 by' : Nat} {z : Value} {ag : Bool} {bs ys : List UInt8} {put : HProp → List HProp} {ats : Array TypeId}
    (hx : e.ev x = some (.slice a k c)) (hy : e.ev y = some (.slice a2 ys.length c2)) (hats : ats = #[st, st2]) (hu : P.underlying st = some (.slice el)) (ht : TI P el 1 by' z ag)
    (fc : Foc G (oby el a c bs) put) (hr : SlR W0 G 1 a2 ys.length (bytesV ys)) (hl : bs.length = ys.length) (hk : k = bs.length) :
    Eff P W0 (.call { callee := .builtin .copy, args := #[x, y], argTypes := ats }) ty e G (fun _ : Unit => True) (fun _ => .int .i64 ys.length) (fun _ => put (oby el a c ys)) := by
  subst hk
  have := Eff.copy (ty := ty) hx hy hats hu ht fc hr bytesV_one
  rw [← hl, Nat.min_self, Nat.mul_one] at this
  rw [List.take_of_length_le (by rw [bytesV_length]; omega), over_all (by rw [bytesV_length, bytesV_length]; omega)] at this
  unfold oby; rw [← hl]; exact this
/-- An array literal without elements. -/
theorem Yield.buildArr0 {t el : TypeId} {len : Nat} {zs : Array Value} {sz by' by2 by3 : Nat} {ag ag2 : Bool} {z : Value}
    (hu : P.underlying t = some (.array len el)) (ht : TI P t sz by' (.agg zs) ag) (hel : TI P el by2 by3 z ag2) : Yield P W0 (.build t #[]) ty e G (.agg zs) := fun ρ hρ w _ _ _ _ _ => by
  have h1 : (Instr.build t #[]).run P w = .ok (.agg zs) w := by
    unfold Instr.build
    simp only [bind, pure]
    rw [run_bind_ok (ht.run_zero w)]
    rw [run_bind_ok (run_underlying hu w)]
    simp only []
    rw [run_bind_ok (hel.run_size w)]
    rfl
  show ((Instr.build t ((#[] : Array (Nat × Operand)).map fun (i, x) => (i, ρ x))).bind _).run P w = _
  rw [List.map_toArray, List.map_nil]
  rw [run_bind_ok h1]; rfl
/-- Records in a slice: one written over. -/
theorem flat_set {α : Type} {f : α → List Value} {sz : Nat} (hf : ∀ x, (f x).length = sz) : ∀ (xs : List α) (i : Nat) (x : α), i < xs.length → over ((xs.map f).flatten) (i * sz) (f x) = ((xs.set i x).map f).flatten
  | [], i, x, h => by simp at h
  | y :: xs, 0, x, _ => by
    simp only [Nat.zero_mul, List.set_cons_zero, List.map_cons, List.flatten_cons, over, List.take_zero, List.nil_append, Nat.zero_add]
    rw [hf, List.drop_append, List.drop_eq_nil_of_le (by rw [hf]; omega), hf, Nat.sub_self, List.drop_zero, List.nil_append]
  | y :: xs, i + 1, x, h => by
    have ih := flat_set hf xs i x (by simpa using h)
    simp only [List.set_cons_succ, List.map_cons, List.flatten_cons]
    rw [← ih]
    unfold over
    have e1 : (i + 1) * sz = (f y).length + i * sz := by rw [hf, Nat.succ_mul]; omega
    rw [e1, List.take_append, List.take_of_length_le (by omega : (f y).length ≤ (f y).length + i * sz), Nat.add_sub_cancel_left, Nat.add_assoc, List.drop_append, List.drop_eq_nil_of_le (by omega), List.nil_append, Nat.add_sub_cancel_left]
    simp only [List.append_assoc]
theorem run_storeOsl {t : TypeId} {b o i : Nat} {v : Value} {w : World} {cs : List Value} {by' : Nat} {z : Value} {ag : Bool} {k : Nat} (ht : TI P t k by' z ag) (hv : v.cells.size = k) (h1 : ∀ c ∈ v.cells.toList, one c = true) {fr : Nat × Nat}
    (hb : w.heap[b]? = some (.cells cs.toArray E fr)) (hf : NoFr fr cs.length) (ho : o + i + k ≤ cs.length) :
    (Instr.storeAt t (.pointer (some ⟨b, o + i, none⟩)) v).run P w = .ok () (setObjW w b (.cells (over cs (o + i) v.cells.toList).toArray E fr)) := by
  show ((Instr.sureAddr _).bind _).run P w = _
  simp only [Instr.sureAddr, pure, Sem.bind]
  exact run_storeVar ht hv h1 hb hf ho
/-- A store of some cells into a slice of one's own. -/
theorem Eff.storeCells {t : TypeId} {x y : Operand} {b o i k : Nat} {v : Value} {put : HProp → List HProp} {by' z ag} (ht : TI P t k by' z ag) (hx : e.ev x = some (.pointer (some ⟨b, o + i, none⟩))) (hy : e.ev y = some v) (hv : v.cells.size = k)
    (fc : Foc G (osl E sz (some ⟨b, o, none⟩) c m xs) put) (h1 : ∀ c ∈ v.cells.toList, one c = true) (hi : i + k ≤ m * sz) : Eff P W0 (.store t x y) ty e G (fun _ : Unit => True) (fun _ => undef) (fun _ => put (osl E sz (some ⟨b, o, none⟩) c m (over xs i v.cells.toList))) := fun ρ hρ w hw _ _ _ _ => by
  obtain ⟨R, hR⟩ := foc_ext fc
  obtain ⟨f, hf, hA⟩ := Sat.ext hR hw
  obtain ⟨q1, q2, q3⟩ := hA
  have hvl : v.cells.toList.length = k := by rw [Array.length_toList]; exact hv
  rcases q3 with ⟨q, _⟩ | ⟨b', o', cs, fr, q, hbk, hfr, ho, htk⟩
  · cases q
  · cases q
    have hcm : m * sz ≤ c * sz := Nat.mul_le_mul_right _ q2
    have hwb := hf _ _ hbk
    have hst := run_storeOsl (P := P) (t := t) (o := o) (i := i) (v := v) ht hv h1 hwb hfr (by omega)
    refine ⟨(), setObjW w b (.cells (over cs (o + i) v.cells.toList).toArray E fr), trivial, Sat.write (b := b) (o := .cells cs.toArray E fr) fc hw hwb ?_, .inr ⟨?_, rfl⟩⟩
    · intro f' hle' hf'
      obtain ⟨h1', _, h3'⟩ := hf'
      rcases h3' with ⟨h, _⟩ | ⟨b', o', cs', fr', hq, hbk', _, _, htk'⟩
      · cases h
      · cases hq
        have hsame : some (Obj.cells cs'.toArray E fr') = some (Obj.cells cs.toArray E fr) := (hle' _ _ hbk').symm.trans hwb
        simp only [Option.some.injEq, Obj.cells.injEq] at hsame
        obtain ⟨p1, _, p3⟩ := hsame
        have p1 := List.toArray_inj p1
        subst p1 p3
        have hol : (over cs' (o + i) v.cells.toList).length = cs'.length := over_length (by omega)
        refine ⟨hbk', by rw [over_length (by omega)]; exact h1', q2, .inr ⟨b, o, over cs' (o + i) v.cells.toList, fr', rfl, by simp [updH], by rw [hol]; exact hfr, by rw [hol]; exact ho, ?_⟩⟩
        rw [← htk']
        unfold over
        generalize hV : v.cells.toList = V at hvl
        have e0 : (cs'.take (o + i)).length = o + i := by rw [List.length_take]; omega
        rw [List.append_assoc, List.drop_append, e0, show o - (o + i) = 0 by omega, List.drop_zero, List.drop_take, show o + i - o = i by omega, List.take_append, List.length_take, List.length_drop]
        have e1 : min i (cs'.length - o) = i := by omega
        rw [e1, List.take_take, List.take_take, show min (m * sz) i = i by omega, show min i (m * sz) = i by omega, List.append_assoc]
        congr 1
        rw [List.take_append, hvl, List.take_of_length_le (by omega : V.length ≤ m * sz - i)]
        congr 1
        rw [List.drop_take, List.drop_drop]
        congr 1
        · omega
        · congr 1; omega
    · show (((Instr.storeAt t (ρ x) (ρ y))).bind _).run P w = _
      rw [hρ x _ hx, hρ y _ hy, run_bind_ok hst]
      rfl
/-- A store of a record into a slice of records of one's own. -/
theorem Eff.storeRec {α : Type} {fc' : α → List Value} {t : TypeId} {x y : Operand} {b o i : Nat} {r : α} {rs : List α} {put : HProp → List HProp} {by' z ag} (hlen : ∀ x, (fc' x).length = sz) (hones : ∀ x, ∀ v ∈ fc' x, one v = true) (ht : TI P t sz by' z ag) (hx : e.ev x = some (.pointer (some ⟨b, o + i * sz, none⟩))) (hy : e.ev y = some (.agg (fc' r).toArray))
    (fc : Foc G (osl E sz (some ⟨b, o, none⟩) c m ((rs.map fc').flatten)) put) (hm : m = rs.length) (hi : i < m) : Eff P W0 (.store t x y) ty e G (fun _ : Unit => True) (fun _ => undef) (fun _ => put (osl E sz (some ⟨b, o, none⟩) c m (((rs.set i r).map fc').flatten))) := by
  subst hm
  have h := Eff.storeCells (P := P) (W0 := W0) (ty := ty) (i := i * sz) (k := sz) ht hx hy (by simpa [Value.cells] using hlen r) fc (by simpa [Value.cells] using hones r) (by rw [← Nat.succ_mul]; exact Nat.mul_le_mul_right _ hi)
  rw [show (Value.agg (fc' r).toArray).cells.toList = fc' r by simp [Value.cells], flat_set hlen rs i r hi] at h
  exact h
theorem over_full {cs vs : List Value} {o : Nat} (h : vs.length + o ≤ cs.length) : ((over cs o vs).drop o).take vs.length = vs := by
  unfold over
  have e0 : (cs.take o).length = o := by rw [List.length_take]; omega
  rw [List.append_assoc, List.drop_append, e0, List.drop_eq_nil_of_le (by omega), List.nil_append, Nat.sub_self, List.drop_zero, List.take_append_of_le_length (Nat.le_refl _), List.take_length]
/-- clear of a slice of one's own. -/
theorem Eff.clear {x : Operand} {st el : TypeId} {by' : Nat} {z : Value} {ag : Bool} {put : HProp → List HProp} {ats : Array TypeId} {zs : List Value} {b o : Nat}
    (hx : e.ev x = some (.slice (some ⟨b, o, none⟩) m c)) (hats : ats = #[st]) (hu : P.underlying st = some (.slice el)) (ht : TI P el sz by' z ag) (h0 : 0 < m) (hzs : (Builtin.zeroCells z.cells m).toList = zs) (hzl : zs.length = m * sz) (hone : ∀ v ∈ zs, one v = true)
    (fc : Foc G (osl el sz (some ⟨b, o, none⟩) c m xs) put) :
    Eff P W0 (.call { callee := .builtin .clear, args := #[x], argTypes := ats }) ty e G (fun _ : Unit => True) (fun _ => .tuple #[]) (fun _ => put (osl el sz (some ⟨b, o, none⟩) c m zs)) := fun ρ hρ w hw _ _ _ _ => by
  subst hats
  obtain ⟨R, hR⟩ := foc_ext fc
  have hevs : e.evs [x] = some [.slice (some ⟨b, o, none⟩) m c] := by simp only [Env.evs, hx]
  obtain ⟨f, hf, hA⟩ := Sat.ext hR hw
  obtain ⟨q1, q2, q3⟩ := hA
  rcases q3 with ⟨q, _⟩ | ⟨b', o', cs, fr, q, hbk, hfr, ho, htk⟩
  · cases q
  · cases q
    have hcm : m * sz ≤ c * sz := Nat.mul_le_mul_right _ q2
    have hwb := hf _ _ hbk
    have hst := run_storeCells (P := P) (b := b) (o := o) (t := el) zs 0 w cs hwb hfr (by omega) hone
    refine ⟨(), setObjW w b (.cells (over cs o zs).toArray el fr), trivial, Sat.write (b := b) (o := .cells cs.toArray el fr) fc hw hwb ?_, .inl (run_built (s := Builtin.clear_ #[st] ty #[.slice (some ⟨b, o, none⟩) m c]) hρ hevs (fun _ => rfl) ?_)⟩
    · intro f' hle' hf'
      obtain ⟨h1', _, h3'⟩ := hf'
      rcases h3' with ⟨h, _⟩ | ⟨b', o', cs', fr', hq, hbk', _, _, htk'⟩
      · cases h
      · cases hq
        have hsame : some (Obj.cells cs'.toArray el fr') = some (Obj.cells cs.toArray el fr) := (hle' _ _ hbk').symm.trans hwb
        simp only [Option.some.injEq, Obj.cells.injEq] at hsame
        obtain ⟨p1, _, p3⟩ := hsame
        have p1 := List.toArray_inj p1
        subst p1 p3
        have hol : (over cs' o zs).length = cs'.length := over_length (by omega)
        refine ⟨hbk', hzl, q2, .inr ⟨b, o, over cs' o zs, fr', rfl, by simp [updH], by rw [hol]; exact hfr, by rw [hol]; exact ho, ?_⟩⟩
        rw [← hzl]; exact over_full (by omega)
    · obtain ⟨m', rfl⟩ : ∃ m', m = m' + 1 := ⟨m - 1, by omega⟩
      unfold Builtin.clear_
      simp only [List.getElem?_toArray, List.getElem?_cons_zero]
      show ((underlying st).bind _).run P w = _
      rw [run_bind_ok (run_underlying hu w)]
      simp only [bind]
      rw [run_bind_ok (ht.run_zero w), hzs]
      rw [Nat.add_zero] at hst
      rw [run_bind_ok hst]; rfl
end
end Go.Sl
