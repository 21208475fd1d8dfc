/- Rules for steps of the model, and what functions of the program do. -/
import Derived.Test.YtphljkplokjonaaGreatZa1
import Derived.WideKeyArgs
import Derived.ProofKit
import Derived.OpenShut
import Derived.ChangeOld
import Derived.SizedLaws
import Derived.KernelRfl
import Derived.Scope
import Derived.Recover
import Derived.Test.YtphljkplokjonaaGreatProg
set_option linter.unusedVariables false
set_option linter.unusedSimpArgs false
set_option linter.unusedSectionVars false
set_option maxRecDepth 100000
namespace Go.Sl
open Go Go.RowKit
def byteV (b : UInt8) : Value := .int .u8 b.toNat
def bytesV (bs : List UInt8) : List Value := bs.map byteV
theorem bytesV_length (bs : List UInt8) : (bytesV bs).length = bs.length := by simp [bytesV]
theorem bytesV_append (a b : List UInt8) : bytesV (a ++ b) = bytesV a ++ bytesV b := by simp [bytesV]
theorem bytesV_one {bs : List UInt8} : ∀ v ∈ bytesV bs, one v = true := by
 intro v hv; simp only [bytesV, List.mem_map] at hv; obtain ⟨b, _, rfl⟩ := hv; rfl
theorem bytesV_get {bs : List UInt8} {i : Nat} {b : UInt8} (h : bs[i]? = some b) : (bytesV bs)[i]? = some (byteV b) := by simp [bytesV, h]
theorem bytesV_take (bs : List UInt8) (k : Nat) : (bytesV bs).take k = bytesV (bs.take k) := by simp [bytesV]
theorem bytesV_drop (bs : List UInt8) (k : Nat) : (bytesV bs).drop k = bytesV (bs.drop k) := by simp [bytesV]
theorem bytesV_inj {a b : List UInt8} (h : bytesV a = bytesV b) : a = b := by
 induction a generalizing b with
 | nil => cases b with
  | nil => rfl
  | cons y b => simp [bytesV] at h
 | cons x a ih => cases b with
  | nil => simp [bytesV] at h
  | cons y b =>
   simp only [bytesV, List.map_cons, List.cons.injEq, byteV, Value.int.injEq, true_and] at h
   obtain ⟨h1, h2⟩ := h
   rw [ih h2, UInt8.toNat_inj.1 (by omega : x.toNat = y.toNat)]
def strOf (bs : List UInt8) : ByteArray := ⟨bs.toArray⟩
section
variable {P : Program} {W0 : World} {e : Env} {G R : List HProp} {ty : TypeId} {E sz : Nat} {a : Option Addr} {c m : Nat} {xs : List Value}
def Env.evps (e : Env) : List (Nat × Operand) → Option (List (Nat × Value))
 | [] => some []
 | (i, x) :: l => match e.ev x, e.evps l with
  | some v, some vs => some ((i, v) :: vs)
  | _, _ => none
theorem Agrees.evps {ρ : Operand → Value} (h : Agrees e ρ) : ∀ {l : List (Nat × Operand)} {vs : List (Nat × Value)}, e.evps l = some vs → (l.map fun (i, x) => (i, ρ x)) = vs
 | [], vs, q => by simpa [Env.evps] using q
 | (i, x) :: l, vs, q => by
  simp only [Env.evps] at q
  split at q
  ·rename_i v us h1 h2
   simp only [Option.some.injEq] at q
   subst q
   simp [h x v h1, h.evps h2]
  ·cases q
theorem Sat.new_osl {w : World} {cs : List Value} {el : TypeId} (hw : Sat W0 G w) (hl : cs.length = m * sz) (k : Nat) :
 Sat W0 (osl el sz (some ⟨w.heap.size, 0, none⟩) m m cs :: G) { w with heap := w.heap.push (.cells cs.toArray el (0, 0)), drawn := k } := by
 refine (Sat.draw (Sat.new hw (.cells cs.toArray el (0, 0))) k).imp (Imp.head fun f hf => ?_)
 exact ⟨hl, Nat.le_refl _, .inr ⟨w.heap.size, 0, cs, (0, 0), rfl, hf, NoFr.zero _, by omega, by rw [List.drop_zero, ← hl, List.take_length]⟩⟩
theorem Eff.buildSlice {t el : TypeId} {len : Nat} {parts : List (Nat × Operand)} {pvs : List (Nat × Value)} {by' : Nat} {z : Value} {ag : Bool} {cells : List Value}
 (hu : P.underlying t = some (.slice el)) (ht : TI P el sz by' z ag) (hp : e.evps parts = some pvs) (hsz : len * sz ≤ 2 ^ 24)
 (hf : Instr.fill (fun i => some (i * sz, sz)) ((Array.range (len * sz)).map ((if len * sz = 0 then #[] else z.cells)[· % (if len * sz = 0 then #[] else z.cells).size]!)) pvs = some cells.toArray) (hl : cells.length = len * sz) :
 Eff P W0 (.buildSlice t len parts.toArray) ty e G (fun _ : Nat => True) (fun b => .slice (some ⟨b, 0, none⟩) len len) (fun b => osl el sz (some ⟨b, 0, none⟩) len len cells :: G) := fun ρ hρ w hw _ _ _ _ => by
 have h1 : (Instr.buildSlice t len (parts.toArray.map fun (i, x) => (i, ρ x))).run P w = .ok (.slice (some ⟨w.heap.size, 0, none⟩) len len) { w with heap := w.heap.push (.cells cells.toArray el (0, 0)) } := by
  unfold Instr.buildSlice
  have hq : (parts.toArray.map fun (i, x) => (i, ρ x)) = pvs.toArray := by
   rw [List.map_toArray, hρ.evps hp]
  rw [hq]
  show ((underlying t).bind _).run P w = _
  rw [run_bind_ok (run_underlying hu w)]
  simp only []
  show ((sizeOf el).bind _).run P w = _
  rw [run_bind_ok (ht.run_size w)]
  simp only [bind]
  rw [if_neg (by omega)]
  have hz : ((if len * sz = 0 then Pure.pure #[] else (zeroValue el).bind fun v => Pure.pure v.cells : Sem (Array Value))).run P w = .ok (if len * sz = 0 then #[] else z.cells) w := by
   split
   ·rfl
   ·rw [run_bind_ok (ht.run_zero w)]; rfl
  have hz' : ∀ (f : Array Value → Sem Value), (if len * sz = 0 then (Pure.pure #[] : Sem (Array Value)).bind f else (zeroValue el).bind fun v => (Pure.pure v.cells : Sem (Array Value)).bind f).run P w = (f (if len * sz = 0 then #[] else z.cells)).run P w := by
   intro f
   split
   ·rfl
   ·rw [run_bind_ok (ht.run_zero w)]; rfl
  first
   | rw [hz']
   | rw [run_bind_ok hz]
  rw [hf]
  simp only [newRow, newObj, bind, Sem.bind, pure, Sem.run]
 refine ⟨w.heap.size, _, trivial, Sat.new_osl hw hl w.drawn, .inl ?_⟩
 show ((Instr.buildSlice t len (parts.toArray.map fun (i, x) => (i, ρ x))).bind _).run P w = _
 rw [run_bind_ok h1]; rfl
theorem Eff.makeSlice {t el : TypeId} {x : Operand} {n : Int} {by' : Nat} {z : Value} {ag : Bool}
 (hu : P.underlying t = some (.slice el)) (ht : TI P el sz by' z ag) (hz : z.cells.size = sz) (hsz : 0 < sz) (hx : e.ev x = some (.int .i64 n)) (h0 : 0 ≤ n) (hb : by' * n ≤ 2 ^ 48) (hn : n ≤ 9223372036854775807) :
 Eff P W0 (.makeSlice t x x) ty e G (fun _ : Nat => True) (fun b => .slice (some ⟨b, 0, none⟩) n.toNat n.toNat) (fun b => osl el sz (some ⟨b, 0, none⟩) n.toNat n.toNat ((List.replicate n.toNat z.cells.toList).flatten) :: G) := fun ρ hρ w hw _ _ _ _ => by
 have hcells : ∀ (q : Nat), ((Array.range (q * sz)).map (z.cells[· % z.cells.size]!)) = ((List.replicate q z.cells.toList).flatten).toArray := by
  intro q
  apply Array.ext'
  simp only [Array.toList_map, Array.toList_range]
  induction q with
  | zero => simp
  | succ q ih =>
   rw [List.replicate_succ', List.flatten_append, ← ih, Nat.succ_mul, List.range_add, List.map_append]
   congr 1
   simp only [List.map_map, List.flatten_cons, List.flatten_nil, List.append_nil]
   apply List.ext_getElem
   ·simp [hz]
   ·intro i h1 h2
    simp only [List.length_map, List.length_range] at h1
    simp only [List.getElem_map, List.getElem_range, Function.comp, hz, Array.getElem_toList]
    have : (q * sz + i) % sz = i := by rw [Nat.mul_comm, Nat.mul_add_mod]; exact Nat.mod_eq_of_lt h1
    rw [this, getElem!_pos z.cells i (by rw [hz]; exact h1)]
 have h1 : (Instr.makeSlice t (.int .i64 n) (.int .i64 n)).run P w = .ok (.slice (some ⟨w.heap.size, 0, none⟩) n.toNat n.toNat) { w with heap := w.heap.push (.cells ((List.replicate n.toNat z.cells.toList).flatten).toArray el (0, 0)) } := by
  unfold Instr.makeSlice
  show ((underlying t).bind _).run P w = _
  rw [run_bind_ok (run_underlying hu w)]
  simp only [asInt, asIntOf, bind, pure, Sem.bind]
  obtain ⟨i, hi, hi1, hi2, hi3⟩ := ht.run_info w
  rw [run_bind_ok hi]
  have hw64 : IntKind.i64.wrap n = n := w64 (by omega) hn
  simp only [hw64, hi2]
  rw [if_neg (by simp; omega)]
  rw [run_bind_ok (show (askRoom (n.toNat * by')).run P w = .ok () w by unfold askRoom; split <;> simp [mark, pure, Sem.run])]
  rw [run_bind_ok (ht.run_size w)]
  by_cases hq : n.toNat * sz = 0
  ·have hn0 : n.toNat = 0 := by
    rcases Nat.mul_eq_zero.1 hq with h | h
    ·exact h
    ·omega
   rw [if_pos hq]
   have hr0 : Array.range 0 = #[] := rfl
   simp [hn0, hr0, newRow, newObj, bind, Sem.bind, pure, Sem.run]
  ·rw [if_neg hq, run_bind_ok (ht.run_zero w)]
   simp only [newRow, newObj, bind, Sem.bind, pure, Sem.run, hcells]
 refine ⟨w.heap.size, _, trivial, Sat.new_osl hw ?_ w.drawn, .inl ?_⟩
 ·simp [hz]
 ·show ((Instr.makeSlice t (ρ x) (ρ x)).bind _).run P w = _
  rw [hρ x _ hx, run_bind_ok h1]; rfl
theorem Eff.copy {x y : Operand} {st st2 el : TypeId} {a2 : Option Addr} {k c2 by' : Nat} {z : Value} {ag : Bool} {ys : List Value} {put : HProp → List HProp} {ats : Array TypeId}
 (hx : e.ev x = some (.slice a m c)) (hy : e.ev y = some (.slice a2 k c2)) (hats : ats = #[st, st2]) (hu : P.underlying st = some (.slice el)) (ht : TI P el sz by' z ag)
 (fc : Foc G (osl el sz a c m xs) put) (hr : SlR W0 G sz a2 k ys) (hone : ∀ v ∈ ys, one v = true) :
 Eff P W0 (.call { callee := .builtin .copy, args := #[x, y], argTypes := ats }) ty e G (fun _ : Unit => True) (fun _ => .int .i64 (min k m : Nat)) (fun _ => put (osl el sz a c m (over xs 0 (ys.take (min k m * sz))))) := fun ρ hρ w hw _ _ _ _ => by
 subst hats
 obtain ⟨R, hR⟩ := foc_ext fc
 have hy0 := hr w hw
 have hevs : e.evs [x, y] = some [.slice a m c, .slice a2 k c2] := by simp only [Env.evs, hx, hy]
 obtain ⟨f, hf, hA⟩ := Sat.ext hR hw
 obtain ⟨h1, h2, h3⟩ := hA
 have hpre : ∀ (w' : World) , (match a with | some ad => (storeCells ad (ys.take (min k m * sz))).run P w = .ok () w' | none => w' = w) →
  (Builtin.copy_ #[st, st2] ty #[.slice a m c, .slice a2 k c2]).run P w = .ok (.int .i64 (min k m : Nat)) w' := by
  intro w' hst
  unfold Builtin.copy_
  simp only [List.getElem?_toArray, List.getElem?_cons_zero, List.getElem?_cons_succ]
  show ((underlying st).bind _).run P w = _
  rw [run_bind_ok (run_underlying hu w)]
  simp only [bind]
  rw [run_bind_ok (show (Builtin.lenOf (.slice a2 k c2)).run P w = .ok k w by rfl)]
  rw [run_bind_ok (ht.run_size w)]
  rw [run_bind_ok (run_firstCells_le hy0 (Nat.min_le_left k m))]
  cases a with
  | none => simp only at hst; subst hst; rfl
  | some ad => simp only at hst; simp only []; rw [run_bind_ok hst]; rfl
 have hlen : (ys.take (min k m * sz)).length = min k m * sz := by
  rw [List.length_take, hy0.1]
  exact Nat.min_eq_left (Nat.mul_le_mul_right _ (Nat.min_le_left k m))
 have hle : min k m * sz ≤ m * sz := Nat.mul_le_mul_right _ (Nat.min_le_right k m)
 have hcm : m * sz ≤ c * sz := Nat.mul_le_mul_right _ h2
 rcases h3 with ⟨rfl, rfl, rfl⟩ | ⟨b, o, cs, fr, rfl, hbk, hfr, ho, htk⟩
 ·have hm : m = 0 := by omega
  subst hm
  refine ⟨(), w, trivial, ?_, .inl (run_built (s := Builtin.copy_ #[st, st2] ty #[.slice none 0 0, .slice a2 k c2]) hρ hevs (fun _ => rfl) (hpre w J))⟩
  have : over [] 0 (ys.take (min k 0 * sz)) = [] := by simp [over]
  rw [this]
  obtain ⟨R', e', hp⟩ := fc
  exact hw.imp (Imp.trans e'.1 (hp _))
 ·have hwb := hf _ _ hbk
  refine ⟨(), setObjW w b (.cells (over cs o (ys.take (min k m * sz))).toArray el fr), trivial, ?_, .inl (run_built (s := Builtin.copy_ #[st, st2] ty #[.slice (some ⟨b, o, none⟩) m c, .slice a2 k c2]) hρ hevs (fun _ => rfl) (hpre _ ?_))⟩
  ·refine Sat.write (b := b) (o := .cells cs.toArray el fr) fc hw hwb ?_
   intro f' hle' hf'
   obtain ⟨h1', _, h3'⟩ := hf'
   rcases h3' with ⟨h, _⟩ | ⟨b', o', cs', fr', hq, hbk', _, _, htk'⟩
   ·cases h
   ·cases hq
    have hsame : some (Obj.cells cs'.toArray el fr') = some (Obj.cells cs.toArray el fr) := (hle' _ _ hbk').symm.trans hwb
    simp only [Option.some.injEq, Obj.cells.injEq] at hsame
    obtain ⟨q1, _, q3⟩ := hsame
    have q1 := List.toArray_inj q1
    subst q1 q3
    have hol : (over cs' o (ys.take (min k m * sz))).length = cs'.length := over_length (by omega)
    refine ⟨hbk', ?_, h2, .inr ⟨b, o, over cs' o (ys.take (min k m * sz)), fr', rfl, by simp [updH], by rw [hol]; exact hfr, by rw [hol]; exact ho, ?_⟩⟩
    ·rw [over_length (by omega)]; exact h1
    ·subst htk
     unfold over
     have e1 : o - (List.take o cs').length = 0 := by simp; omega
     simp only [List.append_assoc, List.drop_append, e1, List.drop_zero, List.take_zero, List.nil_append, Nat.zero_add]
     rw [List.drop_eq_nil_of_le (by simp; omega : (List.take o cs').length ≤ o)]
     simp only [List.nil_append]
     generalize hY : ys.take (min k m * sz) = Y at *
     rw [List.take_append, List.take_of_length_le (by omega : Y.length ≤ m * sz)]
     congr 1
     rw [List.drop_take, List.drop_drop, Nat.zero_sub, Nat.add_zero]
     try rw [List.drop_drop]
  ·have := run_storeCells (P := P) (b := b) (o := o) (t := el) (ys.take (min k m * sz)) 0 w cs hwb hfr (by omega) (fun v hv => hone v (List.mem_of_mem_take hv))
   simpa using this
theorem run_toStr {w : World} {cc : Nat} {bs : List UInt8} (h : SlAt w 1 a m (bytesV bs)) : (Conv.bytesToString (.slice a m cc)).run P w = .ok (.string (strOf bs)) w := by
 obtain ⟨h1, h2⟩ := h
 rw [bytesV_length] at h1
 have loop : ∀ (l : List UInt8) (acc : ByteArray), (forIn (m := Sem) (bytesV l) acc (fun c s => match c with
  | .int .u8 n => pure (ForInStep.yield (s.push (UInt8.ofNat n.toNat)))
  | _ => (stuck "bytesToString: byte expected").bind fun (_ : PUnit) => pure (ForInStep.yield s))).run P w = .ok ⟨acc.data ++ l.toArray⟩ w := by
  intro l
  induction l with
  | nil => intro acc; simp [bytesV, pure, Sem.run]
  | cons b l ih =>
   intro acc
   simp only [bytesV, List.map_cons, List.forIn_cons, byteV]
   simp only [bind, pure, Sem.bind]
   have := ih (acc.push b)
   simp only [bytesV, byteV, pure] at this
   have hb : UInt8.ofNat ((b.toNat : Int)).toNat = b := by simp
   rw [hb]
   rw [this]
   simp [ByteArray.push]
 unfold Conv.bytesToString
 cases a with
 | none =>
  rcases h2 with h2 | ⟨_, _, h2, _⟩
  ·have : bs = [] := bytesV_inj (by simpa [bytesV] using h2)
   subst this; simp [strOf, pure, Sem.run]; rfl
  ·cases h2
 | some ad =>
  have hcells : (loadCells ad m).run P w = .ok (bytesV bs).toArray w := by
   rcases h2 with h2 | ⟨b, o, h2, h3⟩
   ·have hb0 : bs = [] := bytesV_inj (by simpa [bytesV] using h2)
    subst hb0
    have : m = 0 := by simpa using h1.symm
    subst this
    simp [loadCells, loadCellsFrom, pure, Sem.run, bytesV]
   ·cases h2; exact run_loadCells (by rw [bytesV_length]; omega) h3
  simp only [bind]
  rw [run_bind_ok hcells]
  have := loop bs ByteArray.empty
  simp only [List.forIn_toArray]
  refine (run_bind_ok (f := fun s => Sem.pure (Value.string s)) (w' := w) (a := ⟨ByteArray.empty.data ++ bs.toArray⟩) ?_).trans ?_
  ·exact this
  ·simp [strOf, Sem.run]
theorem oX {x : Operand} {src dst : TypeId} {el : TypeId} {cc : Nat} {bs : List UInt8} (hs : P.underlying src = some (.slice el)) (hd : P.underlying dst = some .string) (hel : P.underlying el = some (.int .u8))
 (hx : e.ev x = some (.slice a m cc)) (hr : SlR W0 G 1 a m (bytesV bs)) : Yield P W0 (.convert src dst x) ty e G (.string (strOf bs)) := fun ρ hρ w hw _ _ _ _ => by
 have h1 : (convert src dst (.slice a m cc)).run P w = .ok (.string (strOf bs)) w := by
  unfold convert
  show ((underlying src).bind _).run P w = _
  rw [run_bind_ok (run_underlying hs w)]
  show ((underlying dst).bind _).run P w = _
  rw [run_bind_ok (run_underlying hd w)]
  simp only []
  show ((underlying el).bind _).run P w = _
  rw [run_bind_ok (run_underlying hel w)]
  exact run_toStr (hr w hw)
 show ((convert src dst (ρ x)).bind _).run P w = _
 rw [hρ x _ hx, run_bind_ok h1]; rfl
theorem Yield.str_eql {t t' : TypeId} {x y : Operand} {s u : ByteArray} (hx : e.ev x = some (.string s)) (hy : e.ev y = some (.string u)) : Yield P W0 (.binOp .eql t x y t') ty e G (.bool (s.toList == u.toList)) := fun ρ hρ w _ _ _ _ _ => by
 simp [execOp, hρ x _ hx, hρ y _ hy, eqGuard, binOp, Op.stringOp, bind, Sem.bind, pure, Sem.run]
theorem Yield.str_neq {t t' : TypeId} {x y : Operand} {s u : ByteArray} (hx : e.ev x = some (.string s)) (hy : e.ev y = some (.string u)) : Yield P W0 (.binOp .neq t x y t') ty e G (.bool (!(s.toList == u.toList))) := fun ρ hρ w _ _ _ _ _ => by
 simp [execOp, hρ x _ hx, hρ y _ hy, eqGuard, binOp, Op.stringOp, bind, Sem.bind, pure, Sem.run]
theorem vX {t t' : TypeId} {x y : Operand} {s : ByteArray} (hx : e.ev x = some (.string s)) (hy : e.ev y = some (.string s)) : Yield P W0 (.binOp .eql t x y t') ty e G (.bool true) := by
 have := Yield.str_eql (P := P) (W0 := W0) (G := G) (ty := ty) (t := t) (t' := t') hx hy
 simpa using this
theorem Yield.str_samen {t t' : TypeId} {x y : Operand} {s : ByteArray} (hx : e.ev x = some (.string s)) (hy : e.ev y = some (.string s)) : Yield P W0 (.binOp .neq t x y t') ty e G (.bool false) := by
 have := Yield.str_neq (P := P) (W0 := W0) (G := G) (ty := ty) (t := t) (t' := t') hx hy
 simpa using this
def RdB (W0 : World) (G : List HProp) (a : Option Addr) (c : Nat) (bs : List UInt8) : Prop := ∀ w, Sat W0 G w → SlAt w 1 a bs.length (bytesV bs) ∧ bs.length ≤ c
theorem RdB.slR {bs : List UInt8} (h : RdB W0 G a c bs) : SlR W0 G 1 a bs.length (bytesV bs) := fun w hw => (h w hw).1
theorem RdB.cap {bs : List UInt8} (h : RdB W0 G a c bs) (w : World) (hw : Sat W0 G w) : bs.length ≤ c := (h w hw).2
theorem RdB.imp {G' : List HProp} {bs : List UInt8} (h : RdB W0 G' a c bs) (hi : Imp G G') : RdB W0 G a c bs := fun w hw => h w (hw.imp hi)
theorem RdB.of_osl {bs : List UInt8} (x : Ext G (osl E 1 a c m xs) R) (h1 : m = bs.length) (h2 : xs = bytesV bs) : RdB W0 G a c bs := fun w hw => by
 subst h1 h2; exact ⟨SlR.of_osl x w hw, (osl_facts x w hw).2⟩
theorem RdB.of_slR {bs : List UInt8} (h : SlR W0 G 1 a bs.length (bytesV bs)) (hc : bs.length ≤ c) : RdB W0 G a c bs := fun w hw => ⟨h w hw, hc⟩
abbrev oby (E : Nat) (a : Option Addr) (c : Nat) (bs : List UInt8) : HProp := osl E 1 a c bs.length (bytesV bs)
theorem Eff.appendB {x y : Operand} {st st2 el el2 : TypeId} {a2 : Option Addr} {c2 : Nat} {z : Value} {ag : Bool} {bs ys : List UInt8} {put : HProp → List HProp} {ats : Array TypeId}
 (hx : e.ev x = some (.slice a bs.length c)) (hy : e.ev y = some (.slice a2 ys.length c2)) (hats : ats = #[st, st2]) (hu : P.underlying st = some (.slice el)) (hu2 : P.underlying st2 = some (.slice el2)) (ht : TI P el 1 1 z ag) (hz : z.cells.size = 1)
 (fc : Foc G (oby el a c bs) put) (hr : SlR W0 G 1 a2 ys.length (bytesV ys)) (hb : bs.length + ys.length ≤ 2 ^ 47 - 500) :
 Eff P W0 (.call { callee := .builtin .append, args := #[x, y], argTypes := ats }) ty e G (fun _ : Option Addr × Nat => True) (fun p => .slice p.1 (bs ++ ys).length p.2) (fun p => put (oby el p.1 p.2 (bs ++ ys))) := by
 have := nX (ty := ty) hx hy hats hu hu2 ht hz (by decide) fc hr bytesV_one (by omega)
 simpa only [oby, List.length_append, bytesV_append] using this
theorem Eff.appendB0 {x y : Operand} {st st2 el el2 : TypeId} {a2 : Option Addr} {c2 : Nat} {z : Value} {ag : Bool} {ys : List UInt8} {put : HProp → List HProp} {ats : Array TypeId}
 (hx : e.ev x = some (.slice a 0 c)) (hy : e.ev y = some (.slice a2 ys.length c2)) (hats : ats = #[st, st2]) (hu : P.underlying st = some (.slice el)) (hu2 : P.underlying st2 = some (.slice el2)) (ht : TI P el 1 1 z ag) (hz : z.cells.size = 1)
 (fc : Foc G (osl el 1 a c 0 []) put) (hr : SlR W0 G 1 a2 ys.length (bytesV ys)) (hb : ys.length ≤ 2 ^ 47 - 500) :
 Eff P W0 (.call { callee := .builtin .append, args := #[x, y], argTypes := ats }) ty e G (fun _ : Option Addr × Nat => True) (fun p => .slice p.1 ys.length p.2) (fun p => put (oby el p.1 p.2 ys)) :=
 Eff.append0 (ty := ty) hx hy hats hu hu2 ht hz (by decide) fc hr bytesV_one (by omega)
theorem flat_get {α : Type} {f : α → List Value} {sz : Nat} (hf : ∀ x, (f x).length = sz) : ∀ {xs : List α} {i : Nat} {x : α}, xs[i]? = some x → (((xs.map f).flatten).drop (i * sz)).take sz = f x
 | [], _, _, h => by simp at h
 | y :: xs, 0, x, h => by
  simp only [List.getElem?_cons_zero, Option.some.injEq] at h
  subst h
  simp only [List.map_cons, List.flatten_cons, Nat.zero_mul, List.drop_zero]
  rw [List.take_append_of_le_length (by rw [hf]; omega), List.take_of_length_le (by rw [hf]; omega)]
 | y :: xs, i + 1, x, h => by
  have ih := flat_get hf (xs := xs) (i := i) (x := x) (by simpa using h)
  simp only [List.map_cons, List.flatten_cons]
  have e1 : (i + 1) * sz - (f y).length = i * sz := by rw [hf, Nat.succ_mul]; omega
  rw [List.drop_append, List.drop_eq_nil_of_le (by rw [hf, Nat.succ_mul]; omega), List.nil_append, e1]
  exact ih
theorem flat_len {α : Type} {f : α → List Value} {sz : Nat} (hf : ∀ x, (f x).length = sz) (xs : List α) : ((xs.map f).flatten).length = xs.length * sz := by
 induction xs with
 | nil => simp
 | cons x xs ih => simp only [List.map_cons, List.flatten_cons, List.length_append, hf, ih, List.length_cons, Nat.succ_mul]; omega
theorem SlR.elem {α : Type} {f : α → List Value} {xs : List α} {b o i : Nat} {x : α} (s : SlR W0 G sz (some ⟨b, o, none⟩) m ((xs.map f).flatten)) (hf : ∀ x, (f x).length = sz) (hi : xs[i]? = some x) : Row W0 G b (o + i * sz) (f x) :=
 s.row (i * sz) sz (flat_get hf hi)
theorem SlR.elem_shape {α : Type} {f : α → List Value} {xs : List α} {i : Nat} (s : SlR W0 G sz a m ((xs.map f).flatten)) (hf : ∀ x, (f x).length = sz) (h0 : 0 < sz) (hi : i < xs.length) (w : World) (hw : Sat W0 G w) : ∃ b o, a = some ⟨b, o, none⟩ := by
 refine s.shape (fun q => ?_) w hw
 have := flat_len hf xs
 rw [q] at this
 have h1 : 1 * 1 ≤ xs.length * sz := Nat.mul_le_mul (by omega) h0
 simp at this h1; omega
theorem osl_nil : Imp G (osl E sz none 0 0 [] :: G) := fun h s => by
 refine ⟨fun _ => none, ?_, ⟨by simp, Nat.le_refl _, .inl ⟨rfl, rfl, rfl⟩⟩, s.mono fun k o q => minus_some.2 ⟨rfl, q⟩⟩
 intro k o q; cases q
theorem oby_nil : Imp G (oby E none 0 [] :: G) := osl_nil
theorem strOf_toList (bs : List UInt8) : (strOf bs).toList = bs := by
 simp [strOf]
/-! ### what an assertion hides is laid open -/
theorem Ctr.ex {f : FuncId} {args : List Value} {α : Type} {φ : α → Prop} {v : α → Value} {G' : α → List HProp} {A : HProp} {ι : Type} {ψ : ι → Prop} {B : ι → HProp} (x : Ext G A R) (h : ∀ y, A y → ∃ i, ψ i ∧ B i y)
 (k : ∀ i, ψ i → Ctr P W0 f args (B i :: R) φ v G') : Ctr P W0 f args G φ v G' := fun w hw => by
 obtain ⟨g, hg, hA, hs⟩ := x.1 _ hw.2
 obtain ⟨i, hi, hB⟩ := h g hA
 exact k i hi w ⟨hw.1, g, hg, hB, hs⟩
theorem CG.ex {r : Option Nat} {n : Nat} {ds : List Deferred} {Q : Exit → Act → World → Prop} {cd : Code} {A : HProp} {ι : Type} {ψ : ι → Prop} {B : ι → HProp} (x : Ext G A R) (h : ∀ y, A y → ∃ i, ψ i ∧ B i y)
 (k : ∀ i, ψ i → CG r P W0 n ds cd Q e (B i :: R)) : CG r P W0 n ds cd Q e G := fun a w ha hw => by
 obtain ⟨g, hg, hA, hs⟩ := x.1 _ hw.2
 obtain ⟨i, hi, hB⟩ := h g hA
 exact k i hi a w ha ⟨hw.1, g, hg, hB, hs⟩
theorem osl_cut {l h : Nat} {ys : List Value} (hlh : l ≤ h) (hh : h ≤ c) (hm : h ≤ m) (hy : (xs.drop (l * sz)).take ((h - l) * sz) = ys) (x : Heaplet) (o : osl E sz a c m xs x) : osl E sz (a.map fun a => cutAt a l c sz) (c - l) (h - l) ys x := by
 obtain ⟨h1, h2, h3⟩ := o
 have hle : h * sz ≤ m * sz := Nat.mul_le_mul_right _ hm
 refine ⟨by subst hy; simp only [List.length_take, List.length_drop, h1, Nat.sub_mul]; omega, by omega, ?_⟩
 rcases h3 with ⟨rfl, rfl, rfl⟩ | ⟨b, o, cs, fr, rfl, hb, hf, ho, ht⟩
 ·exact .inl ⟨rfl, by omega, by simpa using hy.symm⟩
 ·have hlc : l * sz ≤ c * sz := Nat.mul_le_mul_right _ (by omega)
  have hmc : m * sz ≤ c * sz := Nat.mul_le_mul_right _ h2
  have hll : l * sz ≤ h * sz := Nat.mul_le_mul_right _ hlh
  by_cases hq : c = l
  ·have e1 : h - l = 0 := by omega
   refine .inr ⟨b, o, cs, fr, by simp [cutAt, hq], hb, hf, by rw [hq]; simp; omega, ?_⟩
   rw [e1] at hy ⊢; simpa using hy
  ·refine .inr ⟨b, o + l * sz, cs, fr, by simp [cutAt, hq, add_at], hb, hf, by rw [Nat.sub_mul]; omega, ?_⟩
   subst ht hy
   rw [List.drop_take, List.take_take, List.drop_drop, Nat.sub_mul, Nat.min_eq_left (by omega)]
theorem osl_take {h : Nat} (hm : h ≤ m) (x : Heaplet) (o : osl E sz a c m xs x) : osl E sz a c h (xs.take (h * sz)) x := by
 have h2 := o.2.1
 have := osl_cut (l := 0) (h := h) (ys := xs.take (h * sz)) (Nat.zero_le _) (by omega) hm (by simp) x o
 have e1 : (a.map fun a => cutAt a 0 c sz) = a := by
  cases a with
  | none => rfl
  | some a => simp [cutAt, Addr.add]
 rw [e1] at this
 simpa using this
theorem SlR.take {h : Nat} {ys : List Value} (s : SlR W0 G sz a m xs) (hh : h ≤ m) (hy : xs.take (h * sz) = ys) : SlR W0 G sz a h ys := fun w hw => by
 obtain ⟨h1, h2⟩ := s w hw
 have hle : h * sz ≤ m * sz := Nat.mul_le_mul_right _ hh
 subst hy
 refine ⟨by rw [List.length_take, h1]; omega, ?_⟩
 rcases h2 with h2 | ⟨b, o, rfl, h2⟩
 ·subst h2; simp
 ·exact .inr ⟨b, o, rfl, fun i v hi => h2 i v (by rw [List.getElem?_take] at hi; split at hi; exact hi; cases hi)⟩
theorem SlR.takeB {bs : List UInt8} (s : SlR W0 G 1 a bs.length (bytesV bs)) (k : Nat) : SlR W0 G 1 a (bs.take k).length (bytesV (bs.take k)) :=
 s.take (by simp; omega) (by rw [bytesV_take]; congr 1; rw [Nat.mul_one, List.length_take, List.take_eq_take_iff]; omega)
theorem SlR.dropB {bs : List UInt8} (s : SlR W0 G 1 a bs.length (bytesV bs)) {k cc : Nat} (hc : bs.length ≤ cc) (hk : k ≤ bs.length) : SlR W0 G 1 (a.map fun a => cutAt a k cc 1) (bs.drop k).length (bytesV (bs.drop k)) := by
 have := s.cut (l := k) (h := bs.length) (ys := bytesV (bs.drop k)) hk (Nat.le_refl _) hc (by rw [Nat.mul_one, Nat.mul_one, bytesV_drop, List.take_of_length_le (by simp [bytesV])])
 rw [List.length_drop]; exact this
theorem SlR.midB {bs : List UInt8} (s : SlR W0 G 1 a bs.length (bytesV bs)) {l k cc : Nat} (hc : bs.length ≤ cc) (hk : l + k ≤ bs.length) : SlR W0 G 1 (a.map fun a => cutAt a l cc 1) ((bs.drop l).take k).length (bytesV ((bs.drop l).take k)) := by
 have := s.cut (l := l) (h := l + k) (ys := bytesV ((bs.drop l).take k)) (by omega) hk hc (by rw [Nat.mul_one, Nat.mul_one, bytesV_drop, bytesV_take]; congr 2; omega)
 rw [show ((bs.drop l).take k).length = l + k - l by simp; omega]; exact this
/-! ### slice literals, element by element -/
def zipI : Nat → List Operand → List (Nat × Operand)
 | _, [] => []
 | i, x :: l => (i, x) :: zipI (i + 1) l
def zipV : Nat → List Value → List (Nat × Value)
 | _, [] => []
 | i, x :: l => (i, x) :: zipV (i + 1) l
theorem evps_zip : ∀ {xs : List Operand} {vs : List Value} (i : Nat), e.evs xs = some vs → e.evps (zipI i xs) = some (zipV i vs)
 | [], vs, i, h => by simp [Env.evs] at h; subst h; rfl
 | x :: xs, vs, i, h => by
  simp only [Env.evs] at h
  split at h
  ·rename_i v us h1 h2
   simp only [Option.some.injEq] at h
   subst h
   simp only [zipI, Env.evps, h1, evps_zip (i + 1) h2, zipV]
  ·cases h
theorem fold_over (off : Nat) : ∀ (vs : List Value) (j : Nat) (cs : List Value), off + j + vs.length ≤ cs.length →
 ((vs.zipIdx j).foldl (fun (a : Array Value) (p : Value × Nat) => a.setIfInBounds (off + p.2) p.1) cs.toArray) = (over cs (off + j) vs).toArray
 | [], j, cs, _ => by simp [over_nil]
 | v :: vs, j, cs, h => by
  simp only [List.length_cons] at h
  simp only [List.zipIdx_cons, List.foldl_cons, List.setIfInBounds_toArray]
  rw [fold_over off vs (j + 1) (cs.set (off + j) v) (by simp; omega), ← Nat.add_assoc, over_cons (by simp; omega)]
theorem fill_row (sz : Nat) : ∀ (vs : List Value) (i : Nat) (acc : List Value), acc.length = (i + vs.length) * sz → (∀ v ∈ vs, v.cells.size = sz) →
 Instr.fill (fun i => some (i * sz, sz)) acc.toArray (zipV i vs) = some (acc.take (i * sz) ++ (vs.map fun v => v.cells.toList).flatten).toArray
 | [], i, acc, h, _ => by
  simp only [zipV, Instr.fill, List.map_nil, List.flatten_nil, List.append_nil]
  rw [List.take_of_length_le (by simp at h; omega)]
 | v :: vs, i, acc, h, hv => by
  have hs : v.cells.size = sz := hv v (by simp)
  simp only [List.length_cons] at h
  have hle : i * sz + sz ≤ acc.length := by
   rw [h, ← Nat.succ_mul]; exact Nat.mul_le_mul_right _ (by omega)
  simp only [zipV, Instr.fill, hs]
  rw [if_neg (by simp; omega)]
  have hfold : (v.cells.zipIdx.foldl (fun (cs : Array Value) (x : Value × Nat) => match x with | (c, j) => cs.setIfInBounds (i * sz + j) c) acc.toArray) = (over acc (i * sz) v.cells.toList).toArray := by
   have := fold_over (i * sz) v.cells.toList 0 acc (by simp [hs]; omega)
   rw [Nat.add_zero] at this
   rw [← this, ← Array.foldl_toList]
   simp only [Array.toList_zipIdx]
  rw [hfold, fill_row sz vs (i + 1) _ (by rw [over_length (by simp [hs]; omega), h]; congr 1; omega) (fun u hu => hv u (by simp [hu]))]
  congr 2
  simp only [List.map_cons, List.flatten_cons]
  rw [← List.append_assoc]
  congr 1
  unfold over
  have e1 : (acc.take (i * sz)).length = i * sz := by simp; omega
  have e2 : (i + 1) * sz = i * sz + sz := Nat.succ_mul i sz
  rw [List.append_assoc, List.take_append, List.take_of_length_le (by rw [e1, e2]; omega), e1, e2, Nat.add_sub_cancel_left, List.take_append]
  have e3 : v.cells.toList.length = sz := by rw [Array.length_toList]; exact hs
  rw [List.take_of_length_le (by omega : v.cells.toList.length ≤ sz), e3, Nat.sub_self, List.take_zero, List.append_nil]
theorem wX (ops : List Operand) {t el : TypeId} {len : Nat} {parts : List (Nat × Operand)} {vs : List Value} {by' : Nat} {z : Value} {ag : Bool} {cells : List Value}
 (hu : P.underlying t = some (.slice el)) (ht : TI P el sz by' z ag) (hzs : z.cells.size = sz) (hparts : parts = zipI 0 ops) (hp : e.evs ops = some vs) (hn : vs.length = len) (hsz : len * sz ≤ 2 ^ 24)
 (hv : ∀ v ∈ vs, v.cells.size = sz) (hc : (vs.map fun v => v.cells.toList).flatten = cells) :
 Eff P W0 (.buildSlice t len parts.toArray) ty e G (fun _ : Nat => True) (fun b => .slice (some ⟨b, 0, none⟩) len len) (fun b => osl el sz (some ⟨b, 0, none⟩) len len cells :: G) := by
 subst hparts hc hn
 have hl : ∀ (l : List Value), (∀ v ∈ l, v.cells.size = sz) → ((l.map fun v => v.cells.toList).flatten).length = l.length * sz := by
  intro l
  induction l with
  | nil => intro _; simp
  | cons v l ih =>
   intro h
   simp only [List.map_cons, List.flatten_cons, List.length_append, List.length_cons, Nat.succ_mul, ih (fun u hu => h u (by simp [hu]))]
   have := h v (by simp)
   simp [this]; omega
 refine Eff.buildSlice hu ht (evps_zip 0 hp) hsz ?_ (hl vs hv)
 have := fill_row sz vs 0 ((Array.range (vs.length * sz)).map ((if vs.length * sz = 0 then #[] else z.cells)[· % (if vs.length * sz = 0 then #[] else z.cells).size]!)).toList (by simp) hv
 rw [Array.toArray_toList] at this
 rw [this]; simp
theorem lV {t el : TypeId} {by' : Nat} {z : Value} {ag : Bool} (hu : P.underlying t = some (.slice el)) (ht : TI P el sz by' z ag) (hzs : z.cells.size = sz) :
 Eff P W0 (.buildSlice t 0 #[]) ty e G (fun _ : Nat => True) (fun b => .slice (some ⟨b, 0, none⟩) 0 0) (fun b => osl el sz (some ⟨b, 0, none⟩) 0 0 [] :: G) :=
 wX [] (vs := []) (parts := []) (by' := by') (z := z) (ag := ag) hu ht hzs J J J (by simp) (by simp) J
theorem gV {t el : TypeId} {by' : Nat} {z v : Value} {ag : Bool} {x : Operand} (hu : P.underlying t = some (.slice el)) (ht : TI P el 1 by' z ag) (hzs : z.cells.size = 1) (hx : e.ev x = some v) (h1 : one v = true) :
 Eff P W0 (.buildSlice t 1 #[(0, x)]) ty e G (fun _ : Nat => True) (fun b => .slice (some ⟨b, 0, none⟩) 1 1) (fun b => osl el 1 (some ⟨b, 0, none⟩) 1 1 [v] :: G) :=
 wX [x] (vs := [v]) (parts := [(0, x)]) (by' := by') (z := z) (ag := ag) hu ht hzs J (by simp only [Env.evs, hx]) J (by decide) (by simp [ones h1]) (by simp [ones h1])
/-! ### struct literals -/
def places? (P : Program) (t : TypeId) : Option (List (Nat × Nat)) :=
 match P.underlying t with
 | some (.struct fs) => fs.toList.mapM fun f => match P.info? f.type with | some i => some (f.offset, i.size) | none => none
 | _ => none
def fillL (ps : List (Nat × Nat)) (cells : List Value) : List (Nat × Value) → Option (List Value)
 | [] => some cells
 | (i, v) :: rest => match ps[i]? with
  | none => none
  | some (off, size) => if v.cells.size = size ∧ off + size ≤ cells.length then fillL ps (over cells off v.cells.toList) rest else none
theorem fill_eq (ps : List (Nat × Nat)) : ∀ (pvs : List (Nat × Value)) (cells out : List Value), fillL ps cells pvs = some out → Instr.fill (fun i => (ps.toArray)[i]?) cells.toArray pvs = some out.toArray
 | [], cells, out, h => by simp [fillL] at h; subst h; rfl
 | (i, v) :: rest, cells, out, h => by
  simp only [fillL] at h
  split at h
  ·cases h
  ·rename_i off size hp
   split at h
   ·rename_i hc
    have hp' : ps.toArray[i]? = some (off, size) := by simpa using hp
    simp only [Instr.fill, hp']
    rw [if_neg (by simp; omega)]
    have hfold : (v.cells.zipIdx.foldl (fun (cs : Array Value) (x : Value × Nat) => match x with | (c, j) => cs.setIfInBounds (off + j) c) cells.toArray) = (over cells off v.cells.toList).toArray := by
     have := fold_over off v.cells.toList 0 cells (by simp; omega)
     rw [Nat.add_zero] at this
     rw [← this, ← Array.foldl_toList]
     simp only [Array.toList_zipIdx]
    rw [hfold]
    exact fill_eq ps rest _ _ h
   ·cases h
theorem run_places {w : World} : ∀ (fs : List Field) (ps : List (Nat × Nat)), (fs.mapM fun f => match P.info? f.type with | some i => some (f.offset, i.size) | none => none) = some ps →
 (fs.mapM (m := Sem) fun f => do pure (f.offset, ← sizeOf f.type)).run P w = .ok ps w
 | [], ps, h => by simp at h; subst h; rfl
 | f :: fs, ps, h => by
  rw [List.mapM_cons] at h ⊢
  simp only [bind, Option.bind_eq_some_iff, pure, Option.some.injEq] at h
  obtain ⟨y, hy, ys, hys, rfl⟩ := h
  cases hi : P.info? f.type with
  | none => rw [hi] at hy; cases hy
  | some i =>
   rw [hi] at hy
   simp only [Option.some.injEq] at hy
   subst hy
   have h1 : (sizeOf f.type).run P w = .ok i.size w := by simp [sizeOf, typeInfo, program, bind, Sem.bind, pure, hi, Sem.run]
   have ih := run_places (w := w) fs ys (by simpa [bind, pure] using hys)
   show (((sizeOf f.type).bind fun s => Sem.pure (f.offset, s)).bind _).run P w = _
   rw [run_bind_ok (show ((sizeOf f.type).bind fun s => Sem.pure (f.offset, s)).run P w = .ok (f.offset, i.size) w by rw [run_bind_ok h1]; rfl)]
   show (Sem.bind (List.mapM _ fs) _).run P w = _
   rw [run_bind_ok ih]; rfl
theorem xQ {t : TypeId} {parts : List (Nat × Operand)} {pvs : List (Nat × Value)} {ps : List (Nat × Nat)} {zs cells : List Value} {by' : Nat} {ag : Bool}
 (hps : places? P t = some ps) (ht : TI P t sz by' (.agg zs.toArray) ag) (hp : e.evps parts = some pvs) (hf : fillL ps zs pvs = some cells) :
 Yield P W0 (.build t parts.toArray) ty e G (.agg cells.toArray) := fun ρ hρ w _ _ _ _ _ => by
 unfold places? at hps
 split at hps
 ·rename_i fs hu
  have h1 : (Instr.build t (parts.toArray.map fun (i, x) => (i, ρ x))).run P w = .ok (.agg cells.toArray) w := by
   have hq : (parts.toArray.map fun (i, x) => (i, ρ x)) = pvs.toArray := by rw [List.map_toArray, hρ.evps hp]
   rw [hq]
   unfold Instr.build
   simp only [bind, pure]
   rw [run_bind_ok (ht.run_zero w)]
   rw [run_bind_ok (run_underlying hu w)]
   simp only []
   have h2 : (fs.mapM (m := Sem) fun f => do pure (f.offset, ← sizeOf f.type)).run P w = .ok ps.toArray w := by
    rw [Array.mapM_eq_mapM_toList]
    have := run_places (P := P) (w := w) fs.toList ps hps
    show (Sem.run P (List.toArray <$> _) w) = _
    show (Sem.bind _ (fun a => Sem.pure (List.toArray a))).run P w = _
    rw [run_bind_ok this]; rfl
   simp only [bind, pure] at h2
   rw [run_bind_ok h2]
   have h3 := fill_eq ps pvs zs cells hf
   simp only [Value.cells] at h3 ⊢
   rw [h3]
   rfl
  show ((Instr.build t (parts.toArray.map fun (i, x) => (i, ρ x))).bind _).run P w = _
  rw [run_bind_ok h1]; rfl
 ·cases hps
theorem Yield.build0 {t : TypeId} {ps : List (Nat × Nat)} {zs : Array Value} {by' : Nat} {ag : Bool}
 (hps : places? P t = some ps) (ht : TI P t sz by' (.agg zs) ag) : Yield P W0 (.build t #[]) ty e G (.agg zs) := by
 have := xQ (W0 := W0) (e := e) (G := G) (ty := ty) (parts := []) (pvs := []) (zs := zs.toList) (cells := zs.toList) (by' := by') (ag := ag) hps (by simpa using ht) J J
 simpa using this
theorem over_all {cs vs : List Value} (h : vs.length = cs.length) : over cs 0 vs = vs := by
 unfold over; rw [List.drop_eq_nil_of_le (by omega)]; simp
theorem Eff.storeElem {t : TypeId} {x y : Operand} {b o i : Nat} {v : Value} {put : HProp → List HProp} {by' z ag} (ht : TI P t 1 by' z ag) (hx : e.ev x = some (.pointer (some ⟨b, o + i, none⟩))) (hy : e.ev y = some v)
 (fc : Foc G (osl E sz (some ⟨b, o, none⟩) c m xs) put) (h1 : one v = true) (hi : i < m * sz) : Eff P W0 (.store t x y) ty e G (fun _ : Unit => True) (fun _ => undef) (fun _ => put (osl E sz (some ⟨b, o, none⟩) c m (xs.set i v))) := fun ρ hρ w hw _ _ _ _ => by
 obtain ⟨R, hR⟩ := foc_ext fc
 obtain ⟨f, hf, hA⟩ := Sat.ext hR hw
 obtain ⟨q1, q2, q3⟩ := hA
 rcases q3 with ⟨q, _⟩ | ⟨b', o', cs, fr, q, hbk, hfr, ho, htk⟩
 ·cases q
 ·cases q
  have hcm : m * sz ≤ c * sz := Nat.mul_le_mul_right _ q2
  have hwb := hf _ _ hbk
  have hv : v.cells.size = 1 := by rw [ones h1]; rfl
  have hst := run_storeVar (P := P) (t := t) (o := o + i) (v := v) ht hv (by rw [ones h1]; intro c hc; simp at hc; subst hc; exact h1) hwb hfr (by omega)
  have hov : over cs (o + i) v.cells.toList = cs.set (o + i) v := by rw [ones h1]; exact over_one (by omega)
  rw [hov] at hst
  refine ⟨(), setObjW w b (.cells (cs.set (o + i) v).toArray E fr), trivial, Sat.write (b := b) (o := .cells cs.toArray E fr) fc hw hwb ?_, .inr ⟨?_, rfl⟩⟩
  ·intro f' hle' hf'
   obtain ⟨h1', _, h3'⟩ := hf'
   rcases h3' with ⟨h, _⟩ | ⟨b', o', cs', fr', hq, hbk', _, _, htk'⟩
   ·cases h
   ·cases hq
    have hsame : some (Obj.cells cs'.toArray E fr') = some (Obj.cells cs.toArray E fr) := (hle' _ _ hbk').symm.trans hwb
    simp only [Option.some.injEq, Obj.cells.injEq] at hsame
    obtain ⟨p1, _, p3⟩ := hsame
    have p1 := List.toArray_inj p1
    subst p1 p3
    refine ⟨hbk', by simpa using h1', q2, .inr ⟨b, o, cs'.set (o + i) v, fr', rfl, by simp [updH], by simpa using hfr, by simpa using ho, ?_⟩⟩
    rw [List.drop_set, if_neg (by omega), show o + i - o = i by omega, List.take_set, htk']
  ·show (((Instr.storeAt t (ρ x) (ρ y))).bind _).run P w = _
   rw [hρ x _ hx, hρ y _ hy]
   rw [run_bind_ok (show (Instr.storeAt t (.pointer (some ⟨b, o + i, none⟩)) v).run P w = _ by
    show ((Instr.sureAddr _).bind _).run P w = _
    simp only [Instr.sureAddr, pure, Sem.bind]
    exact hst)]
   rfl
theorem flat_zero (n : Nat) : (List.replicate n [Value.int .u8 0]).flatten = bytesV (List.replicate n 0) := by
 induction n with
 | zero => rfl
 | succ n ih => simp only [List.replicate_succ, List.flatten_cons, ih]; rfl
theorem Eff.makeB {t el : TypeId} {x : Operand} {n : Int} {ag : Bool} (k : Nat)
 (hu : P.underlying t = some (.slice el)) (ht : TI P el 1 1 (.int .u8 0) ag) (hx : e.ev x = some (.int .i64 n)) (hn : n = (k : Int)) (hb : k ≤ 2 ^ 48) :
 Eff P W0 (.makeSlice t x x) ty e G (fun _ : Nat => True) (fun b => .slice (some ⟨b, 0, none⟩) (List.replicate k (0 : UInt8)).length k) (fun b => oby el (some ⟨b, 0, none⟩) k (List.replicate k 0) :: G) := by
 subst hn
 have := Eff.makeSlice (P := P) (W0 := W0) (G := G) (ty := ty) (n := (k : Int)) hu ht J (by decide) hx (by omega) (by omega) (by omega)
 simp only [Int.toNat_natCast] at this
 rw [show (Value.int IntKind.u8 0).cells.toList = [Value.int IntKind.u8 0] from J, flat_zero] at this
 unfold oby; rw [List.length_replicate]; exact this
theorem Eff.copyB {x y : Operand} {st st2 el : TypeId} {a2 : Option Addr} {k c2 by' : Nat} {z : Value} {ag : Bool} {bs ys : List UInt8} {put : HProp → List HProp} {ats : Array TypeId}
 (hx : e.ev x = some (.slice a k c)) (hy : e.ev y = some (.slice a2 ys.length c2)) (hats : ats = #[st, st2]) (hu : P.underlying st = some (.slice el)) (ht : TI P el 1 by' z ag)
 (fc : Foc G (oby el a c bs) put) (hr : SlR W0 G 1 a2 ys.length (bytesV ys)) (hl : bs.length = ys.length) (hk : k = bs.length) :
 Eff P W0 (.call { callee := .builtin .copy, args := #[x, y], argTypes := ats }) ty e G (fun _ : Unit => True) (fun _ => .int .i64 ys.length) (fun _ => put (oby el a c ys)) := by
 subst hk
 have := Eff.copy (ty := ty) hx hy hats hu ht fc hr bytesV_one
 rw [← hl, Nat.min_self, Nat.mul_one] at this
 rw [List.take_of_length_le (by rw [bytesV_length]; omega), over_all (by rw [bytesV_length, bytesV_length]; omega)] at this
 unfold oby; rw [← hl]; exact this
theorem Yield.buildArr0 {t el : TypeId} {len : Nat} {zs : Array Value} {sz by' by2 by3 : Nat} {ag ag2 : Bool} {z : Value}
 (hu : P.underlying t = some (.array len el)) (ht : TI P t sz by' (.agg zs) ag) (hel : TI P el by2 by3 z ag2) : Yield P W0 (.build t #[]) ty e G (.agg zs) := fun ρ hρ w _ _ _ _ _ => by
 have h1 : (Instr.build t #[]).run P w = .ok (.agg zs) w := by
  unfold Instr.build
  simp only [bind, pure]
  rw [run_bind_ok (ht.run_zero w)]
  rw [run_bind_ok (run_underlying hu w)]
  simp only []
  rw [run_bind_ok (hel.run_size w)]
  rfl
 show ((Instr.build t ((#[] : Array (Nat × Operand)).map fun (i, x) => (i, ρ x))).bind _).run P w = _
 rw [List.map_toArray, List.map_nil]
 rw [run_bind_ok h1]; rfl
theorem flat_set {α : Type} {f : α → List Value} {sz : Nat} (hf : ∀ x, (f x).length = sz) : ∀ (xs : List α) (i : Nat) (x : α), i < xs.length → over ((xs.map f).flatten) (i * sz) (f x) = ((xs.set i x).map f).flatten
 | [], i, x, h => by simp at h
 | y :: xs, 0, x, _ => by
  simp only [Nat.zero_mul, List.set_cons_zero, List.map_cons, List.flatten_cons, over, List.take_zero, List.nil_append, Nat.zero_add]
  rw [hf, List.drop_append, List.drop_eq_nil_of_le (by rw [hf]; omega), hf, Nat.sub_self, List.drop_zero, List.nil_append]
 | y :: xs, i + 1, x, h => by
  have ih := flat_set hf xs i x (by simpa using h)
  simp only [List.set_cons_succ, List.map_cons, List.flatten_cons]
  rw [← ih]
  unfold over
  have e1 : (i + 1) * sz = (f y).length + i * sz := by rw [hf, Nat.succ_mul]; omega
  rw [e1, List.take_append, List.take_of_length_le (by omega : (f y).length ≤ (f y).length + i * sz), Nat.add_sub_cancel_left, Nat.add_assoc, List.drop_append, List.drop_eq_nil_of_le (by omega), List.nil_append, Nat.add_sub_cancel_left]
  simp only [List.append_assoc]
theorem run_storeOsl {t : TypeId} {b o i : Nat} {v : Value} {w : World} {cs : List Value} {by' : Nat} {z : Value} {ag : Bool} {k : Nat} (ht : TI P t k by' z ag) (hv : v.cells.size = k) (h1 : ∀ c ∈ v.cells.toList, one c = true) {fr : Nat × Nat}
 (hb : w.heap[b]? = some (.cells cs.toArray E fr)) (hf : NoFr fr cs.length) (ho : o + i + k ≤ cs.length) :
 (Instr.storeAt t (.pointer (some ⟨b, o + i, none⟩)) v).run P w = .ok () (setObjW w b (.cells (over cs (o + i) v.cells.toList).toArray E fr)) := by
 show ((Instr.sureAddr _).bind _).run P w = _
 simp only [Instr.sureAddr, pure, Sem.bind]
 exact run_storeVar ht hv h1 hb hf ho
theorem Eff.storeCells {t : TypeId} {x y : Operand} {b o i k : Nat} {v : Value} {put : HProp → List HProp} {by' z ag} (ht : TI P t k by' z ag) (hx : e.ev x = some (.pointer (some ⟨b, o + i, none⟩))) (hy : e.ev y = some v) (hv : v.cells.size = k)
 (fc : Foc G (osl E sz (some ⟨b, o, none⟩) c m xs) put) (h1 : ∀ c ∈ v.cells.toList, one c = true) (hi : i + k ≤ m * sz) : Eff P W0 (.store t x y) ty e G (fun _ : Unit => True) (fun _ => undef) (fun _ => put (osl E sz (some ⟨b, o, none⟩) c m (over xs i v.cells.toList))) := fun ρ hρ w hw _ _ _ _ => by
 obtain ⟨R, hR⟩ := foc_ext fc
 obtain ⟨f, hf, hA⟩ := Sat.ext hR hw
 obtain ⟨q1, q2, q3⟩ := hA
 have hvl : v.cells.toList.length = k := by rw [Array.length_toList]; exact hv
 rcases q3 with ⟨q, _⟩ | ⟨b', o', cs, fr, q, hbk, hfr, ho, htk⟩
 ·cases q
 ·cases q
  have hcm : m * sz ≤ c * sz := Nat.mul_le_mul_right _ q2
  have hwb := hf _ _ hbk
  have hst := run_storeOsl (P := P) (t := t) (o := o) (i := i) (v := v) ht hv h1 hwb hfr (by omega)
  refine ⟨(), setObjW w b (.cells (over cs (o + i) v.cells.toList).toArray E fr), trivial, Sat.write (b := b) (o := .cells cs.toArray E fr) fc hw hwb ?_, .inr ⟨?_, rfl⟩⟩
  ·intro f' hle' hf'
   obtain ⟨h1', _, h3'⟩ := hf'
   rcases h3' with ⟨h, _⟩ | ⟨b', o', cs', fr', hq, hbk', _, _, htk'⟩
   ·cases h
   ·cases hq
    have hsame : some (Obj.cells cs'.toArray E fr') = some (Obj.cells cs.toArray E fr) := (hle' _ _ hbk').symm.trans hwb
    simp only [Option.some.injEq, Obj.cells.injEq] at hsame
    obtain ⟨p1, _, p3⟩ := hsame
    have p1 := List.toArray_inj p1
    subst p1 p3
    have hol : (over cs' (o + i) v.cells.toList).length = cs'.length := over_length (by omega)
    refine ⟨hbk', by rw [over_length (by omega)]; exact h1', q2, .inr ⟨b, o, over cs' (o + i) v.cells.toList, fr', rfl, by simp [updH], by rw [hol]; exact hfr, by rw [hol]; exact ho, ?_⟩⟩
    rw [← htk']
    unfold over
    generalize hV : v.cells.toList = V at hvl
    have e0 : (cs'.take (o + i)).length = o + i := by rw [List.length_take]; omega
    rw [List.append_assoc, List.drop_append, e0, show o - (o + i) = 0 by omega, List.drop_zero, List.drop_take, show o + i - o = i by omega, List.take_append, List.length_take, List.length_drop]
    have e1 : min i (cs'.length - o) = i := by omega
    rw [e1, List.take_take, List.take_take, show min (m * sz) i = i by omega, show min i (m * sz) = i by omega, List.append_assoc]
    congr 1
    rw [List.take_append, hvl, List.take_of_length_le (by omega : V.length ≤ m * sz - i)]
    congr 1
    rw [List.drop_take, List.drop_drop]
    congr 1
    ·omega
    ·congr 1; omega
  ·show (((Instr.storeAt t (ρ x) (ρ y))).bind _).run P w = _
   rw [hρ x _ hx, hρ y _ hy, run_bind_ok hst]
   rfl
theorem Eff.storeRec {α : Type} {fc' : α → List Value} {t : TypeId} {x y : Operand} {b o i : Nat} {r : α} {rs : List α} {put : HProp → List HProp} {by' z ag} (hlen : ∀ x, (fc' x).length = sz) (hones : ∀ x, ∀ v ∈ fc' x, one v = true) (ht : TI P t sz by' z ag) (hx : e.ev x = some (.pointer (some ⟨b, o + i * sz, none⟩))) (hy : e.ev y = some (.agg (fc' r).toArray))
 (fc : Foc G (osl E sz (some ⟨b, o, none⟩) c m ((rs.map fc').flatten)) put) (hm : m = rs.length) (hi : i < m) : Eff P W0 (.store t x y) ty e G (fun _ : Unit => True) (fun _ => undef) (fun _ => put (osl E sz (some ⟨b, o, none⟩) c m (((rs.set i r).map fc').flatten))) := by
 subst hm
 have h := Eff.storeCells (P := P) (W0 := W0) (ty := ty) (i := i * sz) (k := sz) ht hx hy (by simpa [Value.cells] using hlen r) fc (by simpa [Value.cells] using hones r) (by rw [← Nat.succ_mul]; exact Nat.mul_le_mul_right _ hi)
 rw [show (Value.agg (fc' r).toArray).cells.toList = fc' r by simp [Value.cells], flat_set hlen rs i r hi] at h
 exact h
end
def cellEq : Value → Value → Bool
 | .int _ a, .int _ b => a == b
 | .bool a, .bool b => a == b
 | _, _ => false
def kindB : Option IntKind → Value → Bool
 | none, .bool _ => true
 | some k, .int k' _ => decide (k = k')
 | _, _ => false
def fitK : List (Option IntKind) → List Value → Bool
 | [], [] => true
 | k :: ks, x :: xs => kindB k x && fitK ks xs
 | _, _ => false
theorem fitK_len : ∀ {ks : List (Option IntKind)} {xs : List Value}, fitK ks xs = true → xs.length = ks.length
 | [], [], _ => rfl
 | k :: ks, y :: ys, h => by
  simp only [fitK, Bool.and_eq_true] at h
  simp [fitK_len h.2]
 | [], _ :: _, h => by cases h
 | _ :: _, [], h => by cases h
theorem fitK_append : ∀ {a b : List (Option IntKind)} {xs : List Value}, fitK (a ++ b) xs = true → fitK a (xs.take a.length) = true ∧ fitK b (xs.drop a.length) = true
 | [], b, xs, h => by simpa [fitK] using h
 | k :: a, b, x :: xs, h => by
  simp only [List.cons_append, fitK, Bool.and_eq_true] at h
  obtain ⟨h1, h2⟩ := fitK_append h.2
  simp only [List.length_cons, List.take_succ_cons, List.drop_succ_cons, fitK, Bool.and_eq_true]
  exact ⟨⟨h.1, h1⟩, h2⟩
 | _ :: _, _, [], h => by cases h
def eqCells : List Value → List Value → Bool
 | [], [] => true
 | x :: xs, y :: ys => cellEq x y && eqCells xs ys
 | _, _ => false
theorem eqCells_append : ∀ {a b c d : List Value}, a.length = c.length → eqCells (a ++ b) (c ++ d) = (eqCells a c && eqCells b d)
 | [], b, [], d, _ => by simp [eqCells]
 | x :: a, b, y :: c, d, h => by
  simp only [List.cons_append, eqCells, eqCells_append (a := a) (c := c) (b := b) (d := d) (by simpa using h), Bool.and_assoc]
 | [], _, _ :: _, _, h => by simp at h
 | _ :: _, _, [], _, h => by simp at h
section
variable {P : Program} {W0 : World} {e : Env} {G R : List HProp} {ty : TypeId}
def flatFs (g : TypeId → Option (List (Option IntKind) × Bool)) : Nat → List Field → Option (List (Option IntKind))
 | _, [] => some []
 | o, f :: fs => if f.name ≠ "_" ∧ f.offset = o then (match g f.type with
  | some (ks, _) => (match flatFs g (o + ks.length) fs with | some r => some (ks ++ r) | none => none)
  | none => none) else none
def flat? (P : Program) : Nat → TypeId → Option (List (Option IntKind) × Bool)
 | 0, _ => none
 | d + 1, t =>
  match P.underlying t, P.info? t with
  | some .bool, some i => if i.size = 1 then some ([none], false) else none
  | some (.int k), some i => if i.size = 1 then some ([some k], false) else none
  | some (.struct fs), some i => if P.stoodInHeld t = true then none else
   (match flatFs (flat? P d) 0 fs.toList with | some ks => if ks.length = i.size then some (ks, true) else none | none => none)
  | some (.array len el), some i => match flat? P d el with
   | some (ks, _) => if len * ks.length = i.size then some ((List.replicate len ks).flatten, true) else none
   | none => none
  | _, _ => none
def valOf (ag : Bool) (xs : List Value) : Value := match ag with | true => .agg xs.toArray | false => xs.headD undef
theorem run_forIn_all {α β : Type} {w : World} (f : α → β → Sem (ForInStep β)) (b0 bF : β) (p : α → Bool) : ∀ (l : List α), (∀ a ∈ l, (f a b0).run P w = .ok (if p a then .yield b0 else .done bF) w) → (forIn (m := Sem) l b0 f).run P w = .ok (if l.all p then b0 else bF) w
 | [], _ => by simp [pure, Sem.run]
 | a :: l, h => by
  rw [List.forIn_cons]
  have h1 := h a (by simp)
  show ((f a b0).bind _).run P w = _
  rw [run_bind_ok h1]
  cases hp : p a with
  | true =>
   simp only [if_true]
   rw [run_forIn_all f b0 bF p l (fun x hx => h x (by simp [hx]))]
   simp [hp]
  | false => simp [hp, pure, Sem.run]
theorem eq_split {xs ys : List Value} (hl : xs.length = ys.length) (o m : Nat) : eqCells (xs.drop o) (ys.drop o) = (eqCells ((xs.drop o).take m) ((ys.drop o).take m) && eqCells (xs.drop (o + m)) (ys.drop (o + m))) := by
 have h1 : xs.drop o = (xs.drop o).take m ++ xs.drop (o + m) := by rw [← List.drop_drop, List.take_append_drop]
 have h2 : ys.drop o = (ys.drop o).take m ++ ys.drop (o + m) := by rw [← List.drop_drop, List.take_append_drop]
 have h3 := eqCells_append (a := (xs.drop o).take m) (b := xs.drop (o + m)) (c := (ys.drop o).take m) (d := ys.drop (o + m)) (by simp; omega)
 rw [← h1, ← h2] at h3; exact h3
theorem run_part {t m off : Nat} {ag : Bool} {xs : List Value} {w : World} (hs : ∃ i, P.info? t = some i ∧ i.size = m) (ha : (isAgg t).run P w = .ok ag w) (h1 : ag = false → m = 1) (ho : off + m ≤ xs.length) :
 (part t xs.toArray off).run P w = .ok (valOf ag ((xs.drop off).take m)) w := by
 obtain ⟨i, hi, rfl⟩ := hs
 unfold part
 show ((isAgg t).bind _).run P w = _
 rw [run_bind_ok ha]
 cases ag with
 | true =>
  simp only [if_true]
  have hz : (sizeOf t).run P w = .ok i.size w := by simp [sizeOf, typeInfo, program, bind, Sem.bind, pure, hi, Sem.run]
  show ((sizeOf t).bind _).run P w = _
  rw [run_bind_ok hz]
  simp only [pure, Sem.run, List.extract_toArray, List.extract_eq_take_drop, Nat.add_sub_cancel_left, valOf]
 | false =>
  have h2 := h1 J
  rw [h2] at ho ⊢
  have hlt : off < xs.length := by omega
  have h3 : (xs.drop off).take 1 = [xs[off]] := by rw [List.drop_eq_getElem_cons hlt]; rfl
  simp [h3, valOf, hlt, pure, Sem.run]
abbrev KB := List (Option IntKind) × Bool
theorem flatFs_all {g : TypeId → Option KB} {xs ys : List Value} : ∀ {l : List Field} {o : Nat} {ks : List (Option IntKind)}, flatFs g o l = some ks → fitK ks (xs.drop o) = true → fitK ks (ys.drop o) = true → o ≤ xs.length → xs.length = ys.length →
 (∀ f ∈ l, f.name ≠ "_" ∧ ∃ m b, g f.type = some (m, b) ∧ f.offset + m.length ≤ xs.length ∧ fitK m ((xs.drop f.offset).take m.length) = true ∧ fitK m ((ys.drop f.offset).take m.length) = true) ∧
 (l.all fun f => eqCells ((xs.drop f.offset).take ((g f.type).getD ([], false)).1.length) ((ys.drop f.offset).take ((g f.type).getD ([], false)).1.length)) = eqCells (xs.drop o) (ys.drop o)
 | [], o, ks, h, hx, hy, ho, hl => by
  simp only [flatFs, Option.some.injEq] at h
  subst h
  have h1 := fitK_len hx
  have h2 := fitK_len hy
  rw [List.length_eq_zero_iff.1 h1, List.length_eq_zero_iff.1 h2]
  simp [eqCells]
 | f :: l, o, ks, h, hx, hy, ho, hl => by
  simp only [flatFs] at h
  split at h
  ·rename_i hc
   obtain ⟨hn, rfl⟩ := hc
   split at h
   ·rename_i m b hg
    split at h
    ·rename_i r hr
     simp only [Option.some.injEq] at h
     subst h
     obtain ⟨hx1, hx2⟩ := fitK_append hx
     obtain ⟨hy1, hy2⟩ := fitK_append hy
     rw [List.drop_drop] at hx2 hy2
     have hlen := fitK_len hx
     simp only [List.length_drop, List.length_append] at hlen
     obtain ⟨h2, h3⟩ := flatFs_all hr hx2 hy2 (by omega) hl
     refine ⟨?_, ?_⟩
     ·intro f' hf'
      rcases List.mem_cons.1 hf' with rfl | hf'
      ·exact ⟨hn, m, b, hg, by omega, hx1, hy1⟩
      ·exact h2 f' hf'
     ·rw [List.all_cons, h3, hg]
      exact (eq_split hl f.offset m.length).symm
    ·cases h
   ·cases h
  ·cases h
theorem rep_all {ks : List (Option IntKind)} {xs ys : List Value} (hl : xs.length = ys.length) : ∀ (len o : Nat), fitK ((List.replicate len ks).flatten) (xs.drop (o * ks.length)) = true → fitK ((List.replicate len ks).flatten) (ys.drop (o * ks.length)) = true → o * ks.length ≤ xs.length →
 (∀ i ∈ List.range' o len, i * ks.length + ks.length ≤ xs.length ∧ fitK ks ((xs.drop (i * ks.length)).take ks.length) = true ∧ fitK ks ((ys.drop (i * ks.length)).take ks.length) = true) ∧
 ((List.range' o len).all fun i => eqCells ((xs.drop (i * ks.length)).take ks.length) ((ys.drop (i * ks.length)).take ks.length)) = eqCells (xs.drop (o * ks.length)) (ys.drop (o * ks.length))
 | 0, o, hx, hy, ho => by
  have h1 := fitK_len hx
  have h2 := fitK_len hy
  simp only [List.replicate_zero, List.flatten_nil, List.length_nil] at h1 h2
  rw [List.length_eq_zero_iff.1 h1, List.length_eq_zero_iff.1 h2]
  simp [eqCells]
 | len + 1, o, hx, hy, ho => by
  simp only [List.replicate_succ, List.flatten_cons] at hx hy
  have hlen := fitK_len hx
  simp only [List.length_drop, List.length_append] at hlen
  obtain ⟨hx1, hx2⟩ := fitK_append hx
  obtain ⟨hy1, hy2⟩ := fitK_append hy
  rw [List.drop_drop, ← Nat.succ_mul] at hx2 hy2
  obtain ⟨h2, h3⟩ := rep_all hl len (o + 1) hx2 hy2 (by rw [Nat.succ_mul]; omega)
  refine ⟨?_, ?_⟩
  ·intro i hi
   rw [List.range'_succ] at hi
   rcases List.mem_cons.1 hi with rfl | hi
   ·exact ⟨by omega, hx1, hy1⟩
   ·exact h2 i hi
  ·rw [List.range'_succ, List.all_cons, h3, Nat.succ_mul]
   exact (eq_split hl (o * ks.length) ks.length).symm
theorem run_step {d t off : Nat} {ks : List (Option IntKind)} {ag : Bool} {xs ys : List Value} {w : World} {β : Type} {b0 bF : β} (hs : ∃ i, P.info? t = some i ∧ i.size = ks.length) (ha : ∀ w, (isAgg t).run P w = .ok ag w) (h1 : ag = false → ks.length = 1) (ho : off + ks.length ≤ xs.length) (hl : xs.length = ys.length)
 (h : ∀ w, (Op.equalIn d t (valOf ag ((xs.drop off).take ks.length)) (valOf ag ((ys.drop off).take ks.length))).run P w = .ok (eqCells ((xs.drop off).take ks.length) ((ys.drop off).take ks.length)) w) :
 ((part t xs.toArray off).bind fun a => (part t ys.toArray off).bind fun b => (Op.equalIn d t a b).bind fun r => (if (!r) = true then Sem.pure (ForInStep.done bF) else Sem.pure (ForInStep.yield b0) : Sem (ForInStep β))).run P w =
   .ok (if eqCells ((xs.drop off).take ks.length) ((ys.drop off).take ks.length) then .yield b0 else .done bF) w := by
 rw [run_bind_ok (run_part hs (ha w) h1 ho), run_bind_ok (run_part hs (ha w) h1 (by omega)), run_bind_ok (h w)]
 cases eqCells ((xs.drop off).take ks.length) ((ys.drop off).take ks.length) <;> rfl
theorem flat_spec : ∀ (d : Nat) (t : TypeId) (ks : List (Option IntKind)) (ag : Bool), flat? P d t = some (ks, ag) → (∃ i, P.info? t = some i ∧ i.size = ks.length) ∧ (∀ w, (isAgg t).run P w = .ok ag w) ∧ (ag = false → ks.length = 1) ∧
 ∀ (j : Nat) (xs ys : List Value), fitK ks xs = true → fitK ks ys = true → ∀ w, (Op.equalIn (d + j) t (valOf ag xs) (valOf ag ys)).run P w = .ok (eqCells xs ys) w
 | 0, t, n, ag, h => by cases h
 | d + 1, t, n, ag, h => by
  have hdj : ∀ j, d + 1 + j = (d + j) + 1 := by omega
  unfold flat? at h
  split at h
  ·rename_i i hu hi
   split at h
   ·rename_i hs
    simp only [Option.some.injEq, Prod.mk.injEq] at h
    obtain ⟨rfl, rfl⟩ := h
    refine ⟨⟨i, hi, hs⟩, fun w => by simp [isAgg, underlying, program, bind, Sem.bind, pure, hu, Sem.run], fun _ => rfl, fun j xs ys hx hy w => ?_⟩
    obtain ⟨x, rfl⟩ := List.length_eq_one_iff.1 (fitK_len hx)
    obtain ⟨y, rfl⟩ := List.length_eq_one_iff.1 (fitK_len hy)
    rw [hdj, Op.equalIn]
    show ((underlying t).bind _).run P w = _
    rw [run_bind_ok (run_underlying hu w)]
    cases x <;> simp [fitK, kindB] at hx
    cases y <;> simp [fitK, kindB] at hy
    simp [valOf, eqCells, cellEq, pure, Sem.run]
   ·cases h
  ·rename_i k i hu hi
   split at h
   ·rename_i hs
    simp only [Option.some.injEq, Prod.mk.injEq] at h
    obtain ⟨rfl, rfl⟩ := h
    refine ⟨⟨i, hi, hs⟩, fun w => by simp [isAgg, underlying, program, bind, Sem.bind, pure, hu, Sem.run], fun _ => rfl, fun j xs ys hx hy w => ?_⟩
    obtain ⟨x, rfl⟩ := List.length_eq_one_iff.1 (fitK_len hx)
    obtain ⟨y, rfl⟩ := List.length_eq_one_iff.1 (fitK_len hy)
    rw [hdj, Op.equalIn]
    show ((underlying t).bind _).run P w = _
    rw [run_bind_ok (run_underlying hu w)]
    cases x <;> simp [fitK, kindB] at hx
    cases y <;> simp [fitK, kindB] at hy
    subst hx hy
    simp [valOf, eqCells, cellEq, pure, Sem.run]
   ·cases h
  ·rename_i fs i hu hi
   split at h
   ·cases h
   ·rename_i hst
    split at h
    ·rename_i ks hk
     split at h
     ·rename_i hs
      simp only [Option.some.injEq, Prod.mk.injEq] at h
      obtain ⟨rfl, rfl⟩ := h
      refine ⟨⟨i, hi, hs.symm⟩, fun w => by simp [isAgg, underlying, program, bind, Sem.bind, pure, hu, Sem.run], fun q => (by cases q), fun j xs ys hx hy w => ?_⟩
      rw [hdj, Op.equalIn]
      show ((underlying t).bind _).run P w = _
      rw [run_bind_ok (run_underlying hu w)]
      have hl : xs.length = ys.length := by rw [fitK_len hx, fitK_len hy]
      obtain ⟨h2, h3⟩ := flatFs_all (xs := xs) (ys := ys) hk (by simpa using hx) (by simpa using hy) (Nat.zero_le _) hl
      simp only [List.drop_zero] at h3
      simp only [valOf, program, bind, Sem.bind, hst, pure, if_false, Sem.run, Bool.false_eq_true]
      rw [← Array.forIn_toList]
      rw [run_bind_ok (run_forIn_all _ _ (some false, ()) (fun f => eqCells ((xs.drop f.offset).take ((flat? P d f.type).getD ([], false)).1.length) ((ys.drop f.offset).take ((flat? P d f.type).getD ([], false)).1.length)) fs.toList ?_)]
      ·rw [h3]
       cases eqCells xs ys <;> rfl
      ·intro f hf
       obtain ⟨hn, m, b, hg, ho, hx1, hy1⟩ := h2 f hf
       obtain ⟨q1, q2, q3, q4⟩ := flat_spec d f.type m b hg
       rw [if_pos hn, hg]
       exact run_step q1 q2 q3 ho hl (q4 j _ _ hx1 hy1)
     ·cases h
    ·cases h
  ·rename_i len el i hu hi
   split at h
   ·rename_i ks b hg
    split at h
    ·rename_i hs
     simp only [Option.some.injEq, Prod.mk.injEq] at h
     obtain ⟨rfl, rfl⟩ := h
     have hfl : ((List.replicate len ks).flatten).length = len * ks.length := by simp
     obtain ⟨q1, q2, q3, q4⟩ := flat_spec d el ks b hg
     refine ⟨⟨i, hi, by rw [hfl]; exact hs.symm⟩, fun w => by simp [isAgg, underlying, program, bind, Sem.bind, pure, hu, Sem.run], fun q => (by cases q), fun j xs ys hx hy w => ?_⟩
     rw [hdj, Op.equalIn]
     show ((underlying t).bind _).run P w = _
     rw [run_bind_ok (run_underlying hu w)]
     have hl : xs.length = ys.length := by rw [fitK_len hx, fitK_len hy]
     obtain ⟨h2, h3⟩ := rep_all (ks := ks) hl len 0 (by simpa using hx) (by simpa using hy) (by simp)
     simp only [Nat.zero_mul, List.drop_zero] at h3
     obtain ⟨ii, hii, hiz⟩ := q1
     have hz : (sizeOf el).run P w = .ok ks.length w := by simp [sizeOf, typeInfo, program, bind, Sem.bind, pure, hii, Sem.run, hiz]
     simp only [valOf]
     show ((sizeOf el).bind _).run P w = _
     rw [run_bind_ok hz]
     simp only [program, bind, Sem.bind, pure, Std.Legacy.Range.forIn_eq_forIn_range']
     rw [run_bind_ok (run_forIn_all _ _ (some false, ()) (fun i => eqCells ((xs.drop (i * ks.length)).take ks.length) ((ys.drop (i * ks.length)).take ks.length)) _ ?_)]
     ·simp only [Std.Legacy.Range.size, Nat.sub_zero, Nat.add_sub_cancel, Nat.div_one]
      rw [h3]
      cases eqCells xs ys <;> rfl
     ·intro k hk
      simp only [Std.Legacy.Range.size, Nat.sub_zero, Nat.add_sub_cancel, Nat.div_one] at hk
      obtain ⟨ho, hx1, hy1⟩ := h2 k hk
      exact run_step ⟨ii, hii, hiz⟩ q2 q3 ho hl (q4 j _ _ hx1 hy1)
    ·cases h
   ·cases h
  ·cases h
theorem run_agg_equal {d : Nat} {t : TypeId} {ks : List (Option IntKind)} {xs ys : List Value} {w : World} (hd : d ≤ 10000) (ht : flat? P d t = some (ks, true)) (hx : fitK ks xs = true) (hy : fitK ks ys = true) :
 (Op.equal t (.agg xs.toArray) (.agg ys.toArray)).run P w = .ok (eqCells xs ys) w := by
 have := (flat_spec d t ks true ht).2.2.2 (10000 - d) xs ys hx hy w
 rw [Nat.add_sub_of_le hd] at this
 exact this
theorem run_agg_guard {op : BinOp} {t : TypeId} {x y : Operand} {a b : Array Value} {w : World} (hg : P.eqGuardType P.depth t = false) : (eqGuard op t x y (.agg a) (.agg b)).run P w = .ok () w := by
 cases op <;> simp [eqGuard, program, bind, Sem.bind, pure, hg, Sem.run]
theorem Yield.agg_eql (d : Nat) {t t' : TypeId} {x y : Operand} {ks : List (Option IntKind)} {xs ys : List Value} {b : Bool} (hx : e.ev x = some (.agg xs.toArray)) (hy : e.ev y = some (.agg ys.toArray)) (hd : d ≤ 10000) (ht : flat? P d t = some (ks, true)) (hg : P.eqGuardType P.depth t = false)
 (hfx : fitK ks xs = true) (hfy : fitK ks ys = true) (hb : eqCells xs ys = b) : Yield P W0 (.binOp .eql t x y t') ty e G (.bool b) := fun ρ hρ w _ _ _ _ _ => by
 refine run_eqOf (hρ x _ hx) (hρ y _ hy) (run_agg_guard hg) ?_
 show ((Op.equal t (.agg xs.toArray) (.agg ys.toArray)).bind _).run P w = _
 rw [run_bind_ok (run_agg_equal hd ht hfx hfy), hb]; rfl
theorem Yield.index_agg {t el : TypeId} {len : Nat} {x i : Operand} {cs : List Value} {v : Value} {sz by' z} {k : IntKind} {j : Int} (hu : P.underlying t = some (.array len el)) (ht : TI P el sz by' z false) (hx : e.ev x = some (.agg cs.toArray)) (hi : e.ev i = some (.int k j))
 (h0 : 0 ≤ j) (h1 : j < len) (hv : cs[j.toNat * sz]? = some v) : Yield P W0 (.index t x i) ty e G v := fun ρ hρ w _ _ _ _ _ => by
 have h2 : (part el cs.toArray (j.toNat * sz)).run P w = .ok v w := by
  unfold part
  show ((isAgg el).bind _).run P w = _
  rw [run_bind_ok (ht.run_agg w)]
  simp [hv, pure, Sem.run]
 have h3 : (Instr.index t (.agg cs.toArray) (.int k j)).run P w = .ok v w := by
  unfold Instr.index
  simp only [asIntOf, bind, pure, Sem.bind]
  rw [run_bind_ok (run_underlying hu w)]
  simp only [h0, h1, and_self, if_true]
  rw [run_bind_ok (ht.run_size w)]
  exact h2
 show ((Instr.index t (ρ x) (ρ i)).bind _).run P w = _
 rw [hρ x _ hx, hρ i _ hi, run_bind_ok h3]; rfl
end
section
variable {P : Program} {W0 : World} {e : Env} {G R : List HProp} {ty : TypeId}
end
end Go.Sl
namespace Go.Sl
open Go Go.RowKit Go.ChangeShapes Go.WideShapes
def Opn (P : Program) (W : World) (t : TypeId) (R : List Value → Prop) : Prop :=
 ∀ (H : Type) (enc : TypeId × Value → H) (n : Nat) (cs : List Value) (x : DataW H × List MemPlace), DataW.trod enc P W 0 (fun _ => true) true n t cs = some x → (∀ k ∈ x.1.weights P t, k ≤ reachBytes) → R cs
section
variable {P : Program} {W : World}
theorem Opn.int {t : TypeId} {k : IntKind} (hu : P.underlying t = some (.int k)) : Opn P W t (fun cs => ∃ n, cs = [.int k n] ∧ (Lit.int k n).wf = true) := fun H enc n cs x h _ => by
 obtain ⟨n, h1, _, h2⟩ := DataW.trod_int hu h
 exact ⟨n, h1, h2⟩
theorem Opn.bool {t : TypeId} (hu : P.underlying t = some .bool) : Opn P W t (fun cs => ∃ b, cs = [.bool b]) := fun H enc n cs x h _ => by
 obtain ⟨b, h1, _⟩ := DataW.trod_bool hu h
 exact ⟨b, h1⟩
theorem Opn.mono {t : TypeId} {R R' : List Value → Prop} (h : Opn P W t R) (hr : ∀ cs, R cs → R' cs) : Opn P W t R' := fun H enc n cs x h1 h2 => hr _ (h H enc n cs x h1 h2)
theorem flatten_get {sz : Nat} : ∀ {els : List (List Value)}, (∀ l ∈ els, l.length = sz) → ∀ {i j : Nat}, j < sz → els.flatten[i * sz + j]? = (els[i]?).bind (·[j]?)
 | [], _, i, j, hj => by simp
 | l :: els, h, i, j, hj => by
  have hl : l.length = sz := h l (by simp)
  rw [List.flatten_cons]
  cases i with
  | zero => rw [List.getElem?_append_left (by omega)]; simp
  | succ i =>
   rw [List.getElem?_append_right (by rw [hl, Nat.succ_mul]; omega), hl, Nat.succ_mul, show i * sz + sz + j - sz = i * sz + j by omega, flatten_get (fun m hm => h m (by simp [hm])) hj]
   simp
theorem flatten_len {sz : Nat} : ∀ {els : List (List Value)}, (∀ l ∈ els, l.length = sz) → els.flatten.length = els.length * sz
 | [], _ => by simp
 | l :: els, h => by
  rw [List.flatten_cons, List.length_append, flatten_len (fun m hm => h m (by simp [hm])), h l (by simp), List.length_cons, Nat.succ_mul]; omega
theorem mapM_range {α : Type} {f : Nat → Option α} : ∀ {n : Nat} {l : List α}, (List.range n).mapM f = some l → l.length = n ∧ ∀ i, i < n → f i = l[i]? := by
 intro n l h
 have h1 : l.length = n := by simpa using mapM_some_length h
 refine ⟨h1, fun i hi => ?_⟩
 have := mapM_some_get h i i (by simp [hi])
 exact this
theorem Opn.slice {t e sz by' : Nat} {R : List Value → Prop} (hu : P.underlying t = some (.slice e)) (hsz : P.cellsOf e = sz) (h0 : 0 < sz) (hby : P.bytesOf e = by') (he : Opn P W e R) :
 Opn P W t (fun cs => ∃ a m c, ∃ els : List (List Value), cs = [.slice a m c] ∧ m ≤ c ∧ els.length = m ∧ (∀ l ∈ els, l.length = sz ∧ R l) ∧ SlAt W sz a m els.flatten ∧ m * by' ≤ reachBytes) := fun H enc n cs x h hw => by
 rcases DataW.trod_slice hu h with ⟨rfl, rfl⟩ | ⟨a, len, cap, elems, rest, n', rfl, rfl, rfl, hb, hl, hm, hlen, hel, hsp, hns⟩
 ·exact ⟨none, 0, 0, [], rfl, Nat.le_refl _, rfl, by simp, ⟨by simp, .inl J⟩, by simp⟩
 ·have hwt : (elems.length + rest.length) * by' ≤ reachBytes := by
   have := hw ((elems.length + rest.length) * P.bytesOf e) (by simp [DataW.weights, hu])
   rw [hby] at this; exact this
  have hwe : ∀ y ∈ elems, ∀ k ∈ y.1.weights P e, k ≤ reachBytes := by
   intro y hy k hk
   refine hw k ?_
   simp only [DataW.weights, hu, List.mem_cons, List.mem_append]
   right; left
   have : ∀ (ys : List (DataW H × List MemPlace)), y ∈ ys → k ∈ DataW.weightsAll P e (ys.map (·.1)) := by
    intro ys
    induction ys with
    | nil => intro h; cases h
    | cons z ys ih =>
     intro h
     simp only [List.map_cons, DataW.weightsAll, List.mem_append]
     rcases List.mem_cons.1 h with rfl | h
     ·exact .inl hk
     ·exact .inr (ih h)
   exact this elems hy
  have hcell : ∀ i, i < len → ∃ l, W.cells? 0 (a.add (i * sz)) sz = some l ∧ R l := by
   intro i hi
   have h1 := hel i hi
   rw [hsz] at h1
   have h2 : elems[i]? = some elems[i] := by simp [hlen, hi]
   rw [h2] at h1
   obtain ⟨l, hl1, hl2⟩ := Option.bind_eq_some_iff.1 h1
   exact ⟨l, hl1, he H enc n' l _ hl2 (hwe _ (List.getElem_mem (by omega)))⟩
  let els := (List.range len).map fun i => (W.cells? 0 (a.add (i * sz)) sz).getD []
  have hels : ∀ i, i < len → ∃ l, W.cells? 0 (a.add (i * sz)) sz = some l ∧ els[i]? = some l ∧ R l := by
   intro i hi
   obtain ⟨l, h1, h2⟩ := hcell i hi
   exact ⟨l, h1, by simp [els, hi, h1], h2⟩
  have hll : ∀ l ∈ els, l.length = sz ∧ R l := by
   intro l hl
   obtain ⟨i, hi, rfl⟩ := List.mem_map.1 hl
   have hi' : i < len := by simpa using hi
   obtain ⟨l, h1, h2⟩ := hcell i hi'
   rw [h1]
   refine ⟨?_, h2⟩
   unfold World.cells? at h1
   rw [if_pos (Nat.zero_le _)] at h1
   exact (mapM_range h1).1
  refine ⟨some a, len, cap, els, rfl, hl, by simp [els], hll, ⟨?_, ?_⟩, ?_⟩
  ·rw [flatten_len (fun l h => (hll l h).1)]; simp [els]
  ·by_cases hz : len = 0
   ·subst hz; left; simp [els]
   ·right
    have hspot : a.spot = none := by
     obtain ⟨l, h1, _⟩ := hcell 0 (by omega)
     unfold World.cells? at h1
     rw [if_pos (Nat.zero_le _)] at h1
     obtain ⟨q1, q2⟩ := mapM_range h1
     have h2 := q2 0 h0
     have h3 : l[0]? = some l[0] := by simp [q1, h0]
     rw [h3] at h2
     cases hs : a.spot with
     | none => rfl
     | some s =>
      exfalso
      have e1 : (a.add (0 * sz)).add 0 = a := by simp [Addr.add]
      rw [e1] at h2
      unfold World.cell? at h2
      split at h2
      ·simp [hs] at h2
      ·cases h2
    obtain ⟨b, o, sp⟩ := a
    simp only at hspot
    subst hspot
    refine ⟨b, o, rfl, fun q v hq => ?_⟩
    have hlen2 : els.flatten.length = len * sz := by rw [flatten_len (fun l h => (hll l h).1)]; simp [els]
    have hq2 := le_of_get hq
    rw [hlen2] at hq2
    have hi : q / sz < len := Nat.div_lt_of_lt_mul (by rw [Nat.mul_comm]; exact hq2)
    have hj : q % sz < sz := Nat.mod_lt _ h0
    have hqe : q = q / sz * sz + q % sz := by rw [Nat.mul_comm]; exact (Nat.div_add_mod q sz).symm
    obtain ⟨l, h1, h2, _⟩ := hels (q / sz) hi
    rw [hqe, flatten_get (fun l h => (hll l h).1) hj, h2] at hq
    simp only [Option.bind_some] at hq
    unfold World.cells? at h1
    rw [if_pos (Nat.zero_le _)] at h1
    have h3 := (mapM_range h1).2 (q % sz) hj
    rw [hq, add_at, add_at, Nat.add_assoc, ← hqe] at h3
    exact h3
  ·have : len * by' ≤ (elems.length + rest.length) * by' := Nat.mul_le_mul_right _ (by omega)
   omega
def OpnF (P : Program) (W : World) (l : List (Nat × Nat × Nat)) (p : Nat) (Q : List Value → Prop) : Prop :=
 ∀ cs : List Value, cs.length = p + (l.map (·.2.2)).sum → (∀ q ∈ l, ∃ (H : Type) (enc : TypeId × Value → H) (n : Nat) (x : DataW H × List MemPlace), DataW.trod enc P W 0 (fun _ => true) true n q.1 ((cs.drop q.2.1).take q.2.2) = some x ∧ ∀ k ∈ x.1.weights P q.1, k ≤ reachBytes) → Q (cs.drop p)
theorem OpnF.nil {p : Nat} : OpnF P W [] p (fun cs => cs = []) := fun cs h _ => by simp at h; exact List.drop_eq_nil_of_le (by omega)
theorem OpnF.cons {t p s : Nat} {l : List (Nat × Nat × Nat)} {R Q : List Value → Prop} (h : Opn P W t R) (k : OpnF P W l (p + s) Q) : OpnF P W ((t, p, s) :: l) p (fun cs => ∃ a b, cs = a ++ b ∧ a.length = s ∧ R a ∧ Q b) := fun cs hl hq => by
 simp only [List.map_cons, List.sum_cons] at hl
 refine ⟨(cs.drop p).take s, cs.drop (p + s), ?_, by simp; omega, ?_, k cs (by omega) (fun q hq' => hq q (by simp [hq']))⟩
 ·rw [← List.drop_drop, List.take_append_drop]
 ·obtain ⟨H, enc, n, x, h1, h2⟩ := hq (t, p, s) (by simp)
  exact h H enc n _ x h1 h2
theorem Opn.of_fields {t : TypeId} {fs : Array Field} {l : List (Nat × Nat × Nat)} {Q : List Value → Prop} (hu : P.underlying t = some (.struct fs)) (hl : (fs.toList.map fun f => (f.type, f.offset, P.cellsOf f.type)) = l) (hsz : P.cellsOf t = (l.map (·.2.2)).sum) (h : OpnF P W l 0 Q) : Opn P W t Q := fun H enc n cs x hx hw => by
 obtain ⟨xs, n', rfl, rfl, hlen, hxl, hf⟩ := DataW.trod_struct hu hx
 have hq := h cs (by omega) ?_
 ·simpa using hq
 intro q hq
 subst hl
 obtain ⟨i, hi, rfl⟩ := List.getElem_of_mem hq
 have hi' : i < fs.size := by simpa using hi
 have hfi : fs[i]? = some fs[i] := by simp [hi']
 have h1 := hf i fs[i] hfi
 have h2 : xs[i]? = some xs[i] := by simp [hxl, hi']
 rw [h2] at h1
 refine ⟨H, enc, n', xs[i], by simpa using h1, fun k hk => hw k ?_⟩
 simp only [DataW.weights, hu]
 have hmem : ∀ (ts : List TypeId) (ds : List (DataW H)) (i : Nat) (t : TypeId) (d : DataW H), ts[i]? = some t → ds[i]? = some d → k ∈ d.weights P t → k ∈ DataW.weightsEach P ts ds := by
  intro ts
  induction ts with
  | nil => intro ds i t d h; simp at h
  | cons t' ts ih =>
   intro ds i t d h1 h2 h3
   cases ds with
   | nil => simp at h2
   | cons d' ds =>
    simp only [DataW.weightsEach, List.mem_append]
    cases i with
    | zero => simp at h1 h2; subst h1 h2; exact .inl h3
    | succ i => exact .inr (ih ds i t d (by simpa using h1) (by simpa using h2) h3)
 refine hmem (fs.toList.map (·.type)) (xs.map (·.1)) i fs[i].type xs[i].1 (by
  rw [List.getElem?_map, Array.getElem?_toList, hfi]; rfl) (by rw [List.getElem?_map, h2]; rfl) ?_
 simpa using hk
theorem Opn.param {r : Reach} {H : Type} {enc : TypeId × Value → H} {b0 : Nat} {t e : TypeId} {v : Value} {d : DataW H} {ps : List MemPlace} {R : List Value → Prop} (hu : P.underlying t = some (.slice e)) (ho : Opn P W t R) (hval : Value.okWide P W r b0 t v)
 (hd : DataW.Trod enc P W 0 (fun _ => true) true t v d ps) (hw : ∀ k ∈ d.weights P t, k ≤ reachBytes) : R [v] := by
 obtain ⟨a, m, c, rfl⟩ := okWide_slice hu hval
 obtain ⟨n, hn⟩ := hd
 exact ho H enc n _ _ hn hw
theorem SlAt.old {sz : Nat} {a : Option Addr} {m : Nat} {xs : List Value} {G R : List HProp} (h : SlAt W sz a m xs) (x : Ext G (old W) R) : SlR W G sz a m xs := fun w hw => by
 obtain ⟨h1, h2⟩ := h
 refine ⟨h1, ?_⟩
 rcases h2 with h2 | ⟨b, o, ha, h2⟩
 ·exact .inl h2
 ·exact .inr ⟨b, o, ha, fun i v hi => Cel.of_old x (h2 i v hi) w hw⟩
theorem bytes_of : ∀ {els : List (List Value)}, (∀ l ∈ els, l.length = 1 ∧ ∃ n, l = [Value.int .u8 n] ∧ (Lit.int .u8 n).wf = true) → ∃ bs : List UInt8, els.flatten = bytesV bs
 | [], _ => ⟨[], rfl⟩
 | l :: els, h => by
  obtain ⟨bs, hb⟩ := bytes_of (els := els) (fun m hm => h m (by simp [hm]))
  obtain ⟨_, n, rfl, hw⟩ := h l (by simp)
  refine ⟨UInt8.ofNat n.toNat :: bs, ?_⟩
  have hn : 0 ≤ n ∧ n ≤ 255 := by simpa [Lit.wf, IntKind.min, IntKind.max, IntKind.signed, IntKind.bits] using hw
  rw [List.flatten_cons, hb]
  simp only [bytesV, List.map_cons, byteV, List.singleton_append, List.cons.injEq, Value.int.injEq, true_and, and_true]
  rw [UInt8.toNat_ofNat']; omega
theorem Opn.bytes {t e : Nat} (hu : P.underlying t = some (.slice e)) (hue : P.underlying e = some (.int .u8)) (hsz : P.cellsOf e = 1) (hby : P.bytesOf e = 1) :
 Opn P W t (fun cs => ∃ a c, ∃ bs : List UInt8, cs = [.slice a bs.length c] ∧ bs.length ≤ c ∧ SlAt W 1 a bs.length (bytesV bs) ∧ bs.length ≤ reachBytes) :=
 (Opn.slice hu hsz (by decide) hby (Opn.int hue)).mono fun cs ⟨a, m, c, els, h1, h2, h3, h4, h5, h6⟩ => by
  obtain ⟨bs, hb⟩ := bytes_of h4
  have hm : m = bs.length := by
   have := h5.1
   rw [hb, bytesV_length] at this; omega
  subst hm
  exact ⟨a, c, bs, h1, h2, by rw [← hb]; exact h5, by omega⟩
theorem list_choose {α β : Type} {f : β → α} {Q : β → Prop} : ∀ {l : List α}, (∀ x ∈ l, ∃ y, x = f y ∧ Q y) → ∃ ys : List β, l = ys.map f ∧ ∀ y ∈ ys, Q y
 | [], _ => ⟨[], rfl, by simp⟩
 | x :: l, h => by
  obtain ⟨y, rfl, hy⟩ := h x (by simp)
  obtain ⟨ys, rfl, hys⟩ := list_choose (l := l) (fun z hz => h z (by simp [hz]))
  exact ⟨y :: ys, rfl, by intro z hz; rcases List.mem_cons.1 hz with rfl | hz; exact hy; exact hys z hz⟩
theorem Opn.recs {α : Type} {f : α → List Value} {OK : α → Prop} {t e sz by' : Nat} (hu : P.underlying t = some (.slice e)) (hsz : P.cellsOf e = sz) (h0 : 0 < sz) (hby : P.bytesOf e = by') (he : Opn P W e (fun cs => ∃ x, cs = f x ∧ OK x)) :
 Opn P W t (fun cs => ∃ a c, ∃ xs : List α, cs = [.slice a xs.length c] ∧ xs.length ≤ c ∧ (∀ x ∈ xs, OK x) ∧ SlAt W sz a xs.length ((xs.map f).flatten) ∧ xs.length * by' ≤ reachBytes) :=
 (Opn.slice hu hsz h0 hby he).mono fun cs ⟨a, m, c, els, h1, h2, h3, h4, h5, h6⟩ => by
  obtain ⟨xs, rfl, hxs⟩ := list_choose (l := els) (f := f) (Q := OK) (fun l hl => (h4 l hl).2)
  have : xs.length = m := by simpa using h3
  subst this
  exact ⟨a, c, xs, h1, h2, hxs, h5, h6⟩
def intC (k : IntKind) (n : Int) : List Value := [.int k n]
theorem Opn.ints {t e by' : Nat} {k : IntKind} (hu : P.underlying t = some (.slice e)) (hue : P.underlying e = some (.int k)) (hsz : P.cellsOf e = 1) (hby : P.bytesOf e = by') :
 Opn P W t (fun cs => ∃ a c, ∃ xs : List Int, cs = [.slice a xs.length c] ∧ xs.length ≤ c ∧ (∀ x ∈ xs, (Lit.int k x).wf = true) ∧ SlAt W 1 a xs.length ((xs.map (intC k)).flatten) ∧ xs.length * by' ≤ reachBytes) :=
 Opn.recs (f := intC k) hu hsz (by decide) hby (Opn.int hue)
theorem wf_u32 {n : Int} (h : (Lit.int .u32 n).wf = true) : 0 ≤ n ∧ n ≤ 4294967295 := by
 simpa [Lit.wf, IntKind.min, IntKind.max, IntKind.signed, IntKind.bits] using h
theorem weights_mem {H : Type} {k : Nat} : ∀ {ts : List TypeId} {ds : List (DataW H)} (i : Nat) {t : TypeId} {d : DataW H}, ts[i]? = some t → ds[i]? = some d → k ∈ d.weights P t → k ∈ DataW.weightsEach P ts ds
 | [], _, i, _, _, h, _, _ => by simp at h
 | t' :: ts, [], i, _, _, _, h, _ => by simp at h
 | t' :: ts, d' :: ds, 0, _, _, h1, h2, h3 => by
  simp only [List.getElem?_cons_zero, Option.some.injEq] at h1 h2
  subst h1 h2; simp only [DataW.weightsEach, List.mem_append]; exact .inl h3
 | t' :: ts, d' :: ds, i + 1, _, _, h1, h2, h3 => by
  simp only [DataW.weightsEach, List.mem_append]
  exact .inr (weights_mem i (by simpa using h1) (by simpa using h2) h3)
theorem weights_le {H : Type} {ts : List TypeId} {ds : List (DataW H)} (h : (DataW.weightsEach P ts ds).all (· ≤ reachBytes) = true) (i : Nat) {t : TypeId} {d : DataW H} (h1 : ts[i]? = some t) (h2 : ds[i]? = some d) : ∀ k ∈ d.weights P t, k ≤ reachBytes := fun k hk => by
 have := List.all_eq_true.1 h k (weights_mem i h1 h2 hk)
 simpa using this
theorem params_ok {ts : Array TypeId} (h : (ts.toList.all fun t => P.readableRec t && decide (t < P.types.size)) = true) : ∀ t ∈ ts.toList, P.readableRec t = true ∧ t < P.types.size := fun t ht => by
 have := List.all_eq_true.1 h t ht
 simpa using this
theorem law_post {H : Type} {enc : TypeId × Value → H} {s : ChangeSpec} {f : Func} {apart : Bool} {W W' : World} {args : Array Value} {ds gs : List (DataW H)} {before : List MemPlace} {tb : TypeId}
 (hl : laidOutB P = true) (hr : ∀ t ∈ f.params.toList, P.readableRec t = true ∧ t < P.types.size) (hres : f.resultTypes = #[tb]) (hb : P.underlying tb = some .bool)
 (hW : DataW.Whole enc P f.params.toList s.vars apart W args.toList ds gs before) (hv : s.vars = []) (hfn : s.fn H (ds ++ gs) = { results := [.lit (.bool true)], args := ds }) (hbel : Below W.heap.size W W') :
 s.post enc P f apart true false false W args (.bool true) W' := by
 have hW' := hW
 obtain ⟨p, q, hA, hV, rfl, hfz, hnd⟩ := hW
 rw [hv] at hV
 obtain ⟨rfl, rfl⟩ := trodVars_none hV
 have hstay : ∀ (ts : List TypeId) (vs : List Value) (ds : List (DataW H)) (p : List MemPlace), (∀ t ∈ ts, P.readableRec t = true ∧ t < P.types.size) → (∀ m ∈ p, m.block < W.heap.size) →
  DataW.TrodAll enc P W 0 (fun _ => true) true ts vs ds p → DataW.TrodAll enc P W' 0 (fun b => decide (b < W.heap.size)) true ts vs ds p := by
  intro ts
  induction ts with
  | nil => intro vs ds p _ _ h; obtain ⟨rfl, rfl, rfl⟩ := trodAll_nil h; exact trodAll_mk0
  | cons t ts ih =>
   intro vs ds p ht hp h
   obtain ⟨v, vs', d, ds', p1, q1, rfl, rfl, rfl, h1, h2⟩ := trodAll_cons h
   refine trodAll_cons_mk ?_ (ih vs' ds' q1 (fun t ht' => ht t (by simp [ht'])) (fun m hm => hp m (by simp [hm])) h2)
   obtain ⟨r1, r2⟩ := ht t (by simp)
   exact Go.WideElems.Trod_stays hl r1 r2 h1 (fun m hm => hbel.same (hp m (by simp [hm]))) (fun m hm => by simpa using hp m (by simp [hm]))
 have hlt : ∀ m ∈ p, m.block < W.heap.size := fun m hm => hW'.lt m (by simp [hm])
 refine ⟨ds, [], p ++ [], [], p, [], hW', ?_, ?_, ?_, hbel.frame _, fun h => by cases h⟩
 ·rw [hfn, hres]
  exact trodAll_mk1 (shut_bool hb _)
 ·rw [hfn]; exact hstay _ _ _ _ hr hlt hA
 ·rw [hfn, hv]; rfl
end
end Go.Sl
namespace Go.Sl
open Go Go.RowKit
section
variable {P : Program} {W0 : World} {e : Env} {G R : List HProp} {ty : TypeId} {E sz : Nat} {a : Option Addr} {c m : Nat} {xs : List Value}
theorem zeroCells_flat {z : Array Value} {sz : Nat} (hz : z.size = sz) (q : Nat) : (Builtin.zeroCells z q).toList = (List.replicate q z.toList).flatten := by
 unfold Builtin.zeroCells
 simp only [Array.toList_map, Array.toList_range, hz]
 induction q with
 | zero => simp
 | succ q ih =>
  rw [List.replicate_succ', List.flatten_append, ← ih, Nat.succ_mul, List.range_add, List.map_append]
  congr 1
  simp only [List.map_map, List.flatten_cons, List.flatten_nil, List.append_nil]
  apply List.ext_getElem
  ·simp [hz]
  ·intro i h1 h2
   simp only [List.length_map, List.length_range] at h1
   simp only [List.getElem_map, List.getElem_range, Function.comp, Array.getElem_toList]
   have : (q * sz + i) % sz = i := by rw [Nat.mul_comm, Nat.mul_add_mod]; exact Nat.mod_eq_of_lt h1
   rw [this, getElem!_pos z i (by rw [hz]; exact h1)]
theorem flat_setf {α : Type} {f : α → List Value} (hf : ∀ x, (f x).length = sz) {x y : α} {j : Nat} {v : Value} (hy : f y = (f x).set j v) (hj : j < sz) : ∀ {xs : List α} {i : Nat}, xs[i]? = some x → ((xs.map f).flatten).set (i * sz + j) v = ((xs.set i y).map f).flatten
 | [], i, h => by simp at h
 | z :: xs, 0, h => by
  simp only [List.getElem?_cons_zero, Option.some.injEq] at h
  subst h
  simp only [Nat.zero_mul, Nat.zero_add, List.set_cons_zero, List.map_cons, List.flatten_cons]
  rw [List.set_append_left _ _ (by rw [hf]; exact hj), hy]
 | z :: xs, i + 1, h => by
  have ih := flat_setf hf hy hj (xs := xs) (i := i) (by simpa using h)
  simp only [List.set_cons_succ, List.map_cons, List.flatten_cons]
  rw [← ih, List.set_append_right _ _ (by rw [hf, Nat.succ_mul]; omega), hf, show (i + 1) * sz + j - sz = i * sz + j by rw [Nat.succ_mul]; omega]
theorem bV {α : Type} {fc' : α → List Value} {t : TypeId} {x y : Operand} {b o i : Nat} (j : Nat) {r r' : α} {rs : List α} {v : Value} {put : HProp → List HProp} {by' z ag} (hlen : ∀ x, (fc' x).length = sz) (hr : rs[i]? = some r) (hr' : fc' r' = (fc' r).set j v) (hj : j < sz) (ht : TI P t 1 by' z ag) (hx : e.ev x = some (.pointer (some ⟨b, o + i * sz + j, none⟩))) (hy : e.ev y = some v)
 (fc : Foc G (osl E sz (some ⟨b, o, none⟩) c m ((rs.map fc').flatten)) put) (h1 : one v = true) (hm : m = rs.length) : Eff P W0 (.store t x y) ty e G (fun _ : Unit => True) (fun _ => undef) (fun _ => put (osl E sz (some ⟨b, o, none⟩) c m (((rs.set i r').map fc').flatten))) := by
 subst hm
 have hi := (List.getElem?_eq_some_iff.1 hr).1
 have h := Eff.storeElem (P := P) (W0 := W0) (ty := ty) (i := i * sz + j) ht (by rw [hx, Nat.add_assoc]) hy fc h1 (by
  have : i * sz + sz ≤ rs.length * sz := by rw [← Nat.succ_mul]; exact Nat.mul_le_mul_right _ hi
  omega)
 rw [flat_setf hlen hr' hj hr] at h
 exact h
theorem eV {t el : TypeId} {len : Nat} {x : Operand} {lo hi : Option Operand} {b o sz by' z ag} {l h : Int} (hu : P.underlying t = some (.array len el)) (ht : TI P el sz by' z ag) (hx : e.ev x = some (.pointer (some ⟨b, o, none⟩)))
 (hl : Bound e lo 0 l) (hh : Bound e hi len h) (h0 : 0 ≤ l) (h1 : l ≤ h) (h2 : h ≤ len) (h3 : l < len) : Yield P W0 (.slice t x lo hi none) ty e G (.slice (some ⟨b, o + l.toNat * sz, none⟩) (h.toNat - l.toNat) (len - l.toNat)) := fun ρ hρ w _ _ _ _ _ => by
 have hs : (Instr.sliceAt t (.pointer (some ⟨b, o, none⟩)) (lo.map ρ) (hi.map ρ) none).run P w = .ok (.slice (some ⟨b, o + l.toNat * sz, none⟩) (h.toNat - l.toNat) (len - l.toNat)) w := by
  unfold Instr.sliceAt
  show ((underlying t).bind _).run P w = _
  rw [run_bind_ok (run_underlying hu w)]
  simp only []
  show ((Instr.sureAddr _).bind _).run P w = _
  rw [run_bind_ok (show (Instr.sureAddr (.pointer (some ⟨b, o, none⟩))).run P w = .ok ⟨b, o, none⟩ w by rfl)]
  show ((Instr.sliceBounds _ _ _ _ _ _).bind _).run P w = _
  rw [run_bind_ok (run_sliceBounds hρ hl hh h0 h1 h2 w)]
  simp only []
  show ((sizeOf el).bind _).run P w = _
  rw [run_bind_ok (ht.run_size w)]
  rw [if_neg (by omega), add_at]
  rfl
 show ((Instr.sliceAt t (ρ x) (lo.map ρ) (hi.map ρ) ((Option.none : Option Operand).map ρ)).bind _).run P w = _
 rw [hρ x _ hx, Option.map_none, run_bind_ok hs]; rfl
theorem over_over {cs ys : List Value} {o k j : Nat} (h : (cs.drop o).take k = xs) (hj : j + ys.length ≤ k) (ho : o + k ≤ cs.length) : ((over cs (o + j) ys).drop o).take k = over xs j ys := by
 subst h
 unfold over
 have e0 : (cs.take (o + j)).length = o + j := by rw [List.length_take]; omega
 rw [List.append_assoc, List.drop_append, e0, show o - (o + j) = 0 by omega, List.drop_zero, List.drop_take, show o + j - o = j by omega, List.take_append, List.length_take, List.length_drop]
 have e1 : min j (cs.length - o) = j := by omega
 rw [e1, List.take_take, List.take_take, show min k j = j by omega, show min j k = j by omega, List.append_assoc]
 congr 1
 rw [List.take_append, List.take_of_length_le (by omega : ys.length ≤ k - j)]
 congr 1
 rw [List.drop_take, List.drop_drop]
 congr 1
 ·omega
 ·congr 1; omega
theorem Eff.copyIn {x y : Operand} {st st2 el : TypeId} {a2 : Option Addr} {b o j n cn k c2 by' : Nat} {z : Value} {ag : Bool} {ys : List Value} {put : HProp → List HProp} {ats : Array TypeId}
 (hx : e.ev x = some (.slice (some ⟨b, o + j, none⟩) n cn)) (hy : e.ev y = some (.slice a2 k c2)) (hats : ats = #[st, st2]) (hu : P.underlying st = some (.slice el)) (ht : TI P el 1 by' z ag)
 (fc : Foc G (osl E sz (some ⟨b, o, none⟩) c m xs) put) (hj : j + n ≤ m * sz) (hr : SlR W0 G 1 a2 k ys) (hone : ∀ v ∈ ys, one v = true) :
 Eff P W0 (.call { callee := .builtin .copy, args := #[x, y], argTypes := ats }) ty e G (fun _ : Unit => True) (fun _ => .int .i64 (min k n : Nat)) (fun _ => put (osl E sz (some ⟨b, o, none⟩) c m (over xs j (ys.take (min k n))))) := fun ρ hρ w hw _ _ _ _ => by
 subst hats
 obtain ⟨R, hR⟩ := foc_ext fc
 have hy0 := hr w hw
 have hevs : e.evs [x, y] = some [.slice (some ⟨b, o + j, none⟩) n cn, .slice a2 k c2] := by simp only [Env.evs, hx, hy]
 obtain ⟨f, hf, hA⟩ := Sat.ext hR hw
 obtain ⟨h1, h2, h3⟩ := hA
 have hpre : ∀ (w' : World), ((Go.storeCells ⟨b, o + j, none⟩ (ys.take (min k n))).run P w = .ok () w') →
  (Builtin.copy_ #[st, st2] ty #[.slice (some ⟨b, o + j, none⟩) n cn, .slice a2 k c2]).run P w = .ok (.int .i64 (min k n : Nat)) w' := by
  intro w' hst
  unfold Builtin.copy_
  simp only [List.getElem?_toArray, List.getElem?_cons_zero, List.getElem?_cons_succ]
  show ((underlying st).bind _).run P w = _
  rw [run_bind_ok (run_underlying hu w)]
  simp only [bind]
  rw [run_bind_ok (show (Builtin.lenOf (.slice a2 k c2)).run P w = .ok k w by rfl)]
  rw [run_bind_ok (ht.run_size w)]
  have hfc := run_firstCells_le (P := P) (cc := c2) hy0 (Nat.min_le_left k n)
  rw [Nat.mul_one] at hfc
  rw [run_bind_ok hfc]
  simp only []; rw [run_bind_ok hst]; rfl
 have hlen : (ys.take (min k n)).length = min k n := by
  rw [List.length_take, hy0.1]; omega
 have hcm : m * sz ≤ c * sz := Nat.mul_le_mul_right _ h2
 generalize hY : ys.take (min k n) = Y at *
 have hYone : ∀ v ∈ Y, one v = true := by rw [← hY]; exact fun v hv => hone v (List.mem_of_mem_take hv)
 rcases h3 with ⟨q, _⟩ | ⟨b', o', cs, fr, q, hbk, hfr, ho, htk⟩
 ·cases q
 ·cases q
  have hwb := hf _ _ hbk
  refine ⟨(), setObjW w b (.cells (over cs (o + j) Y).toArray E fr), trivial, ?_, .inl (run_built (s := Builtin.copy_ #[st, st2] ty #[.slice (some ⟨b, o + j, none⟩) n cn, .slice a2 k c2]) hρ hevs (fun _ => rfl) (hpre _ ?_))⟩
  ·refine Sat.write (b := b) (o := .cells cs.toArray E fr) fc hw hwb ?_
   intro f' hle' hf'
   obtain ⟨h1', _, h3'⟩ := hf'
   rcases h3' with ⟨h, _⟩ | ⟨b', o', cs', fr', hq, hbk', _, _, htk'⟩
   ·cases h
   ·cases hq
    have hsame : some (Obj.cells cs'.toArray E fr') = some (Obj.cells cs.toArray E fr) := (hle' _ _ hbk').symm.trans hwb
    simp only [Option.some.injEq, Obj.cells.injEq] at hsame
    obtain ⟨q1, _, q3⟩ := hsame
    have q1 := List.toArray_inj q1
    subst q1 q3
    have hol : (over cs' (o + j) Y).length = cs'.length := over_length (by omega)
    refine ⟨hbk', ?_, h2, .inr ⟨b, o, over cs' (o + j) Y, fr', rfl, by simp [updH], by rw [hol]; exact hfr, by rw [hol]; exact ho, ?_⟩⟩
    ·rw [over_length (by omega)]; exact h1
    ·exact over_over htk (by omega) (by omega)
  ·have := run_storeCells (P := P) (b := b) (o := o + j) (t := E) Y 0 w cs hwb hfr (by omega) hYone
   simpa using this
theorem SlR.part {b o i k : Nat} {ys : List Value} (s : SlR W0 G sz (some ⟨b, o, none⟩) m xs) (hy : (xs.drop i).take k = ys) (hk : i + k ≤ m * sz) : SlR W0 G 1 (some ⟨b, o + i, none⟩) k ys := fun w hw => by
 have h1 := (s w hw).1
 exact SlR.of_row (s.row i k hy) (by rw [← hy, List.length_take, List.length_drop]; omega) w hw
theorem blk_osl {b n : Nat} {cs : List Value} (h : cs.length = n) (x : Heaplet) (hb : blk b cs E x) : osl E 1 (some ⟨b, 0, none⟩) n n cs x :=
 ⟨by omega, Nat.le_refl _, .inr ⟨b, 0, cs, (0, 0), rfl, hb, NoFr.zero _, by omega, by rw [List.drop_zero, ← h]; simp⟩⟩
theorem Ctr.to {f : FuncId} {args : List Value} {α β : Type} {φ : α → Prop} {v : α → Value} {G' : α → List HProp} {ψ : β → Prop} {u : β → Value} {D : β → List HProp} (h : Ctr P W0 f args G φ v G') (g : α → β) (hφ : ∀ x, φ x → ψ (g x)) (hv : ∀ x, v x = u (g x)) (hG : ∀ x, Imp (G' x) (D (g x))) : Ctr P W0 f args G ψ u D := fun w hw =>
 (h w hw).mono fun r w' ⟨x, hx, hr, hs⟩ => ⟨g x, hφ x hx, by rw [hr, hv], hs.imp (hG x)⟩
theorem Yield.slice_in {t el : TypeId} {x : Operand} {lo hi : Option Operand} {b o m c sz by' z ag} {l h : Int} (hu : P.underlying t = some (.slice el)) (ht : TI P el sz by' z ag) (hx : e.ev x = some (.slice (some ⟨b, o, none⟩) m c))
 (hl : Bound e lo 0 l) (hh : Bound e hi m h) (h0 : 0 ≤ l) (h1 : l ≤ h) (h2 : h ≤ c) (h3 : l < c) : Yield P W0 (.slice t x lo hi none) ty e G (.slice (some ⟨b, o + l.toNat * sz, none⟩) (h.toNat - l.toNat) (c - l.toNat)) := by
 have := sV (W0 := W0) (G := G) (ty := ty) hu ht hx hl hh h0 h1 h2
 rw [Option.map_some, show cutAt ⟨b, o, none⟩ l.toNat c sz = ⟨b, o + l.toNat * sz, none⟩ by unfold cutAt; rw [if_neg (by omega), add_at]] at this
 exact this
end
theorem Imp.perm {L L' : List HProp} (h : L.Perm L') : Imp L L' := by
 induction h with
 | nil => exact Imp.refl _
 | cons x _ ih => exact Imp.cons ih
 | swap x y l => exact fun _ s => Sep.swap s
 | trans _ _ h1 h2 => exact Imp.trans h1 h2
theorem erase_perm {α : Type} {L : List α} {i : Nat} (hi : i < L.length) : (L[i] :: L.eraseIdx i).Perm L := by
 have e : L = L.take i ++ L[i] :: L.drop (i + 1) := by rw [← List.drop_eq_getElem_cons hi, List.take_append_drop]
 rw [List.eraseIdx_eq_take_drop_succ]
 conv => rhs; rw [e]
 exact List.perm_middle.symm
theorem star_take {L : List HProp} {G : List HProp} {i : Nat} {A : HProp} (h : L[i]? = some A) : Imp (Star L :: G) (A :: Star (L.eraseIdx i) :: G) := by
 obtain ⟨hi, rfl⟩ := List.getElem?_eq_some_iff.1 h
 refine Imp.trans star_open (Imp.trans (Imp.perm (L' := L[i] :: (L.eraseIdx i ++ G)) ?_) (Imp.cons star_close))
 exact ((erase_perm hi).symm).append_right G
theorem star_put {L : List HProp} {G : List HProp} {i : Nat} {A B : HProp} (h : L[i]? = some A) : Imp (B :: Star (L.eraseIdx i) :: G) (Star (L.set i B) :: G) := by
 obtain ⟨hi, rfl⟩ := List.getElem?_eq_some_iff.1 h
 refine Imp.trans (Imp.cons star_open) (Imp.trans (Imp.perm (L' := L.set i B ++ G) ?_) star_close)
 have hp := erase_perm (L := L.set i B) (i := i) (by simpa using hi)
 rw [List.getElem_set_self, List.eraseIdx_set_eq] at hp
 exact hp.append_right G
theorem star_add {L : List HProp} {G : List HProp} {A : HProp} : Imp (A :: Star L :: G) (Star (L ++ [A]) :: G) := by
 refine Imp.trans (Imp.cons star_open) (Imp.trans (Imp.perm (L' := (L ++ [A]) ++ G) ?_) star_close)
 rw [List.append_assoc]
 exact (List.perm_middle (a := A) (l₁ := L) (l₂ := G)).symm
theorem star_join {L M : List HProp} {G : List HProp} : Imp (Star L :: Star M :: G) (Star (L ++ M) :: G) := by
 refine Imp.trans (Imp.cons star_open) (Imp.trans star_open (Imp.trans ?_ star_close))
 rw [List.append_assoc]; exact Imp.refl _
theorem star_nil {G : List HProp} : Imp G (Star [] :: G) := star_close (D := [])
section
variable {P : Program} {W0 : World} {n : Nat} {ds : List Deferred} {Q : Exit → Act → World → Prop} {e : Env} {G R : List HProp}
theorem RdB.of_star {L : List HProp} {E : Nat} {a : Option Addr} {c : Nat} {bs : List UInt8} (x : Ext G (Star L) R) (h : oby E a c bs ∈ L) : RdB W0 G a c bs := by
 obtain ⟨i, hi⟩ := List.getElem?_of_mem h
 exact RdB.imp (RdB.of_osl (G := oby E a c bs :: Star (L.eraseIdx i) :: R) Ext.here J J) (Imp.trans x.1 (star_take hi))
theorem CG.scope {c : Code} (k : CG none P W0 n ds c (Exit.noGoto Q) e G) : CG none P W0 n ds (.scope c) Q e G := fun a w ha hw => (wpIn_wide (n := 0)).2 (wp_scope_straight ((wpIn_wide (n := 0)).1 (k a w ha hw)))
theorem CG.label {r : Option Nat} {l : Nat} (k : QG W0 n ds Q .normal e G) : CG r P W0 n ds (.label l) Q e G := fun a w ha hw => wpIn_label (k a w ha hw)
theorem QG.scope_normal (k : QG W0 n ds Q .normal e G) : QG W0 n ds (Exit.noGoto Q) .normal e G := fun a w ha hw => k a w ha hw
theorem freeze_eq {w : World} {b k : Nat} {cs : Array Value} {t : TypeId} {fr : Nat × Nat} (h : w.heap[b]? = some (.cells cs t fr)) : w.freeze ⟨b, k, none⟩ 1 = setObjW w b (.cells cs t (if fr.1 == fr.2 then (k, k + 1) else (min fr.1 k, max fr.2 (k + 1)))) := by
 have hlt : b < w.heap.size := by
  rcases Nat.lt_or_ge b w.heap.size with h1 | h1
  ·exact h1
  ·rw [Array.getElem?_eq_none h1] at h; cases h
 unfold World.freeze setObjW
 rw [if_neg (by decide)]
 congr 1
 apply Array.ext_getElem?
 intro i
 simp only [Array.getElem?_modify, Array.getElem?_setIfInBounds]
 by_cases hi : b = i
 ·subst hi
  rw [if_pos J, if_pos J, if_pos hlt, h]; rfl
 ·rw [if_neg hi, if_neg hi]
theorem iV {src el ty : TypeId} {x : Operand} {E sz b o m c : Nat} {xs : List Value} {put : HProp → List HProp} (hs : P.underlying src = some (.slice el)) (he : P.underlying el = some (.int .u8)) (hx : e.ev x = some (.slice (some ⟨b, o, none⟩) m c))
 (fc : Foc G (osl E sz (some ⟨b, o, none⟩) c m xs) put) : Eff P W0 (.convert src src x) ty e G (fun _ : Unit => True) (fun _ => .slice (some ⟨b, o, none⟩) m c) (fun _ => put (osl E sz (some ⟨b, o, none⟩) c m xs)) := fun ρ hρ w hw _ _ _ _ => by
 obtain ⟨R, hR⟩ := foc_ext fc
 obtain ⟨f, hf, q1, q2, q3⟩ := Sat.ext hR hw
 rcases q3 with ⟨q, _⟩ | ⟨b', o', cs, fr, q, hbk, hfr, ho, htk⟩
 ·cases q
 ·cases q
  have hwb : w.heap[b]? = some (Obj.cells cs.toArray E fr) := hf _ _ hbk
  have hrun : (convert src src (.slice (some ⟨b, o, none⟩) m c)).run P w = .ok (.slice (some ⟨b, o, none⟩) m c) (w.freeze ⟨b, cs.length, none⟩ 1) := by
   unfold convert
   show ((underlying src).bind _).run P w = _
   rw [run_bind_ok (run_underlying hs w)]
   show ((underlying src).bind _).run P w = _
   rw [run_bind_ok (run_underlying hs w)]
   simp only []
   show ((underlying el).bind _).run P w = _
   rw [run_bind_ok (run_underlying he w)]
   simp only [beq_self_eq_true]
   have hsh : w.shape? b = some (E, cs.length) := by unfold World.shape?; rw [hwb]; simp
   simp [markStringish, shape, freeze, Sem.run, bind, Sem.bind, pure, hsh]
  refine ⟨(), w.freeze ⟨b, cs.length, none⟩ 1, trivial, ?_, .inl ?_⟩
  ·rw [freeze_eq hwb]
   refine Sat.write (b := b) (o := .cells cs.toArray E fr) fc hw hwb ?_
   intro f' hle' hf'
   obtain ⟨h1', _, h3'⟩ := hf'
   rcases h3' with ⟨h, _⟩ | ⟨b', o', cs', fr', hq, hbk', hfr', ho', htk'⟩
   ·cases h
   ·cases hq
    have hsame : some (Obj.cells cs'.toArray E fr') = some (Obj.cells cs.toArray E fr) := (hle' _ _ hbk').symm.trans hwb
    simp only [Option.some.injEq, Obj.cells.injEq] at hsame
    obtain ⟨p1, _, p3⟩ := hsame
    have p1 := List.toArray_inj p1
    subst p1 p3
    refine ⟨hbk', h1', q2, .inr ⟨b, o, cs', _, rfl, by simp [updH]; rfl, ?_, ho', htk'⟩⟩
    split
    ·exact .inr (Nat.le_refl _)
    ·rename_i hne
     refine .inr ?_
     rcases hfr' with hq | hq
     ·exact absurd (by simpa using hq) hne
     ·simp only; omega
  ·show ((convert src src (ρ x)).bind _).run P w = _
   rw [hρ x _ hx, run_bind_ok hrun]; rfl
end
section
variable {P : Program} {W0 : World} {n : Nat} {e : Env} {G : List HProp}
theorem run_loadVar_agg {t : TypeId} {b o : Nat} {vs : List Value} {sz by' z} (ht : TI P t sz by' z true) (hl : vs.length = sz) {w : World} (hc : ∀ j v, vs[j]? = some v → w.cell? ⟨b, o + j, none⟩ = some v) : (loadVar t ⟨b, o, none⟩).run P w = .ok (.agg vs.toArray) w := by
 unfold loadVar
 show ((isAgg t).bind _).run P w = _
 rw [run_bind_ok (ht.run_agg w)]
 simp only [if_true]
 show ((sizeOf t).bind _).run P w = _
 rw [run_bind_ok (ht.run_size w)]
 show ((loadCells _ _).bind _).run P w = _
 rw [run_bind_ok (run_loadCells hl hc)]
 rfl
def ResP (P : Program) (W0 : World) (G : List HProp) (e : Env) : ResultVar → Value → Prop
 | .tmp t, v => e.get t = some v
 | .cell t ty, v => ∃ a, e.get t = some (.pointer (some a)) ∧ ∀ w, Sat W0 G w → (loadVar ty a).run P w = .ok v w
theorem ResP.agg {t ty b o : Nat} {vs : List Value} {sz by' z} (ht : TI P ty sz by' z true) (h : e.get t = some (.pointer (some ⟨b, o, none⟩))) (hl : vs.length = sz) (hc : Row W0 G b o vs) : ResP P W0 G e (.cell t ty) (.agg vs.toArray) := ⟨_, h, fun w hw => run_loadVar_agg ht hl (fun j v hj => hc j v hj w hw)⟩
theorem run_res {r : ResultVar} {v : Value} {a : Act} {w : World} (h : ResP P W0 G e r v) (ha : At n [] e a) (hw : Sat W0 G w) : (match r with | .tmp t => (pure (a.tmps.getD t undef) : Sem Value) | .cell x t => (asAddr (a.tmps.getD x undef)).bind fun y => loadVar t y).run P w = .ok v w := by
 cases r with
 | tmp t => have := ha.slot t v h; simp only [this]; rfl
 | cell t ty =>
  obtain ⟨ad, h1, h2⟩ := h
  have := ha.slot t _ h1
  simp only [this]
  rw [run_bind_ok (show (asAddr (.pointer (some ad))).run P w = .ok ad w from J)]
  exact h2 w hw
theorem run_mapM {α β : Type} {f : α → Sem β} {w : World} : ∀ (xs : List α) (vs : List β) (acc : List β), xs.length = vs.length → (∀ (i : Nat) (x : α) (v : β), xs[i]? = some x → vs[i]? = some v → (f x).run P w = .ok v w) → (List.mapM.loop f xs acc).run P w = .ok (acc.reverse ++ vs) w
 | [], [], acc, _, _ => by simp [List.mapM.loop, pure, Sem.run]
 | [], _ :: _, acc, hl, _ => by simp at hl
 | _ :: _, [], acc, hl, _ => by simp at hl
 | x :: xs, v :: vs, acc, hl, h => by
  show ((f x).bind fun y => List.mapM.loop f xs (y :: acc)).run P w = _
  rw [run_bind_ok (h 0 x v J J), run_mapM xs vs (v :: acc) (by simpa using hl) (fun i a b ha hb => h (i + 1) a b (by simpa using ha) (by simpa using hb))]
  simp
def ResL (P : Program) (W0 : World) (G : List HProp) (e : Env) : List ResultVar → List Value → Prop
 | [], [] => True
 | r :: rs, v :: vs => ResP P W0 G e r v ∧ ResL P W0 G e rs vs
 | _, _ => False
theorem ResL.get : ∀ {rs : List ResultVar} {vs : List Value}, ResL P W0 G e rs vs → rs.length = vs.length ∧ ∀ (i : Nat) (r : ResultVar) (v : Value), rs[i]? = some r → vs[i]? = some v → ResP P W0 G e r v
 | [], [], _ => ⟨rfl, fun i r v h _ => by simp at h⟩
 | r :: rs, v :: vs, h => by
  obtain ⟨h1, h2⟩ := ResL.get h.2
  refine ⟨by simp [h1], fun i r' v' hr hv => ?_⟩
  cases i with
  | zero => simp only [List.getElem?_cons_zero, Option.some.injEq] at hr hv; subst hr hv; exact h.1
  | succ i => exact h2 i r' v' (by simpa using hr) (by simpa using hv)
def valsV : List Value → Value
 | [v] => v
 | vs => .tuple vs.toArray
theorem run_results {fn : Func} {rs : List ResultVar} {vs : List Value} (hr : fn.results = rs.toArray) (h : ResL P W0 G e rs vs) {a : Act} {w : World} (ha : At n [] e a) (hw : Sat W0 G w) : (results fn a.tmps).run P w = .ok (valsV vs) w := by
 obtain ⟨hl, hg⟩ := h.get
 unfold results
 rw [hr, List.mapM_toArray]
 have h1 := run_mapM (P := P) (w := w) (f := fun r : ResultVar => (match r with | .tmp t => (pure (a.tmps.getD t undef) : Sem Value) | .cell x t => (asAddr (a.tmps.getD x undef)).bind fun y => loadVar t y)) rs vs [] hl (fun i r v q1 q2 => run_res (hg i r v q1 q2) ha hw)
 simp only [List.reverse_nil, List.nil_append] at h1
 have h2 : (List.toArray <$> List.mapM (fun r : ResultVar => (match r with | .tmp t => (pure (a.tmps.getD t undef) : Sem Value) | .cell x t => (asAddr (a.tmps.getD x undef)).bind fun y => loadVar t y)) rs).run P w = .ok vs.toArray w := by
  exact (run_bind_ok (f := fun x => Sem.pure x.toArray) h1).trans J
 refine (run_bind_ok h2).trans ?_
 cases vs with
 | nil => rfl
 | cons v vs => cases vs with
  | nil => rfl
  | cons u vs => simp [valsV, pure, Sem.run]
theorem fV {fn : Func} {rs : List ResultVar} (us : List Value) {α : Type} {φ : α → Prop} {v : α → Value} {G' : α → List HProp} (hr : fn.results = rs.toArray) (h : ResL P W0 G e rs us) (x : α) (hx : φ x) (hv : v x = valsV us) (hi : Imp G (G' x)) : QG W0 n [] (bodyPost P fn (RetP W0 φ v G')) .ret e G := fun a w ha hw =>
 ⟨ha.defers, _, run_results hr h ha hw, x, hx, by rw [hv], hw.imp hi⟩
end
section
variable {P : Program} {W0 : World} {n : Nat} {ds : List Deferred} {ops : Array Oper} {Q : Exit → Act → World → Prop} {rest : List Oper} {e : Env} {G : List HProp} {ty : TypeId}
theorem nV {f : FuncId} {first cap : List Operand} {fi ca : List Value} (h1 : e.evs first = some fi) (h2 : e.evs cap = some ca) : Yield P W0 (.makeFunc (.func f) first.toArray cap.toArray) ty e G (.func (.func f) fi.toArray ca.toArray) := fun ρ hρ w _ _ _ _ _ => by
 have e1 := hρ.evs h1
 have e2 := hρ.evs h2
 simp [execOp, Instr.makeFunc, e1, e2, pure, Sem.run, bind, Sem.bind]
theorem run_callv {f : FuncId} {fn : Func} {c : Code} (hf : P.funcs[f]? = some fn) (hb : fn.body = some c) (hn : (fn.name == "runtime.NumGoroutine") = false) {x : Operand} {fi ca : List Value}
 {args : List Operand} {vs : List Value} {ats : Array TypeId} {ρ : Operand → Value} (hρ : Agrees e ρ) (hx : e.ev x = some (.func (.func f) fi.toArray ca.toArray)) (ha : e.evs args = some vs) (w : World) (dst pos after guard) :
 (execOp ρ ⟨dst, .call { callee := .value x, args := args.toArray, argTypes := ats }, ty, pos, after, guard⟩).run P w = .ok (.enter f (fi ++ vs ++ ca).toArray) w := by
 have h1 : ρ x = .func (.func f) fi.toArray ca.toArray := hρ _ _ hx
 have h2 : args.map ρ = vs := hρ.evs ha
 have h3 := callFunc_run hf hb hn (fi ++ vs ++ ca).toArray w
 have h4 : (fi.toArray ++ (args.toArray.map ρ)) ++ ca.toArray = (fi ++ vs ++ ca).toArray := by rw [List.map_toArray, h2]; simp
 simp only [execOp, resolve, h1, Deferred.ofValue, bind, Sem.bind, pure, invoke, h4]
 exact h3
theorem OG.callv {d : Nat} {pos : String} {af : Array Edge} {x : Operand} {f : FuncId} {fi ca : List Value} {args : List Operand} {ats : Array TypeId} {vs : List Value} {G1 : List HProp} {α : Type} {φ : α → Prop} {v : α → Value} {G' : α → List HProp}
 (hc : CallOK P f) (hx : e.ev x = some (.func (.func f) fi.toArray ca.toArray)) (ha : e.evs args = some vs) (hi : Imp G G1) (hs : Ctr P W0 f (fi ++ vs ++ ca) G1 φ v G') (hd : Nat.ble (d + 1) n = true)
 (k : ∀ x, φ x → OG P W0 n ds ops Q rest ((d, v x) :: e) (G' x)) :
 OG P W0 n ds ops Q (⟨some d, .call { callee := .value x, args := args.toArray, argTypes := ats }, ty, pos, af, none⟩ :: rest) e G := fun a w hat hw => by
 obtain ⟨fn, c, hf, hb, hn⟩ := hc
 unfold wpL
 rw [if_pos (by simp [Region.wanted])]
 refine Or.inl ?_
 unfold Oper.wp
 rw [run_callv hf hb hn hat.agrees hx ha w, Oper.upon_enter]
 refine (hs w (hw.imp hi)).mono ?_
 rintro r w' ⟨x, hx, rfl, hs'⟩
 exact k x hx _ _ (hat.put (Nat.le_of_ble_eq_true hd)) hs'
theorem run_equal_sl {t el : TypeId} {a b : Option Addr} {m c m' c' : Nat} (hu : P.underlying t = some (.slice el)) (hb : b = none) (w : World) : (Op.equal t (.slice a m c) (.slice b m' c')).run P w = .ok a.isNone w := by
 subst hb
 show (Op.equalIn (9999 + 1) t _ _).run P w = _
 rw [Op.equalIn]
 show ((underlying t).bind _).run P w = _
 rw [run_bind_ok (run_underlying hu w)]
 cases a <;> rfl
theorem oV {t t' el : TypeId} {x y : Operand} {a : Option Addr} {m c : Nat} (hu : P.underlying t = some (.slice el)) (hx : e.ev x = some (.slice a m c)) (hy : e.ev y = some (.slice none 0 0)) : Yield P W0 (.binOp .eql t x y t') ty e G (.bool a.isNone) := fun ρ hρ w _ _ _ _ _ => by
 refine run_eqOf (hρ x _ hx) (hρ y _ hy) J ?_
 show ((Op.equal t (.slice a m c) (.slice none 0 0)).bind _).run P w = _
 rw [run_bind_ok (run_equal_sl hu J w)]; rfl
end
end Go.Sl
namespace Go.Proofs.YtphljkplokjonaaGreat.T
open Go Go.Sl Go.Proofs Tryz
theorem ti3 : TI prog 3 1 8 (.int .i64 0) false := by unfold TI; kernel_rfl
theorem ti4 : TI prog 4 1 1 (.bool false) false := by unfold TI; kernel_rfl
theorem ti5 : TI prog 5 1 1 (.int .u8 0) false := by unfold TI; kernel_rfl
theorem ti27 : TI prog 27 1 4 (.int .u32 0) false := by unfold TI; kernel_rfl
theorem ti32 : TI prog 32 1 24 (.slice none 0 0) false := by unfold TI; kernel_rfl
theorem ti36 : TI prog 36 1 24 (.slice none 0 0) false := by unfold TI; kernel_rfl
theorem ti37 : TI prog 37 1 24 (.slice none 0 0) false := by unfold TI; kernel_rfl
theorem ti52 : TI prog 52 7 72 (.agg #[.int .i64 0, .int .i64 0, .int .i64 0, .slice none 0 0, .bool false, .int .i64 0, .int .u32 0]) true := by unfold TI; kernel_rfl
theorem ti53 : TI prog 53 1 8 (.pointer none) false := by unfold TI; kernel_rfl
theorem ti54 : TI prog 54 1 8 (.pointer none) false := by unfold TI; kernel_rfl
theorem ti55 : TI prog 55 1 8 (.pointer none) false := by unfold TI; kernel_rfl
theorem ti56 : TI prog 56 1 8 (.pointer none) false := by unfold TI; kernel_rfl
theorem ti58 : TI prog 58 4 32 (.agg #[.pointer none, .pointer none, .pointer none, .pointer none]) true := by unfold TI; kernel_rfl
theorem ti59 : TI prog 59 1 24 (.slice none 0 0) false := by unfold TI; kernel_rfl
theorem ti60 : TI prog 60 1 8 (.pointer none) false := by unfold TI; kernel_rfl
theorem ti61 : TI prog 61 1 8 (.pointer none) false := by unfold TI; kernel_rfl
theorem ti62 : TI prog 62 1 8 (.pointer none) false := by unfold TI; kernel_rfl
theorem ti64 : TI prog 64 4 48 (.agg #[.slice none 0 0, .pointer none, .pointer none, .pointer none]) true := by unfold TI; kernel_rfl
theorem ti67 : TI prog 67 1 24 (.slice none 0 0) false := by unfold TI; kernel_rfl
theorem ti75 : TI prog 75 3 40 (.agg #[.int .i64 0, .int .i64 0, .slice none 0 0]) true := by unfold TI; kernel_rfl
theorem ti80 : TI prog 80 1 24 (.slice none 0 0) false := by unfold TI; kernel_rfl
theorem ti101 : TI prog 101 5 48 (.agg #[.int .i64 0, .int .u32 0, .bool false, .int .i64 0, .slice none 0 0]) true := by unfold TI; kernel_rfl
theorem ti111 : TI prog 111 1 8 (.pointer none) false := by unfold TI; kernel_rfl
theorem ti114 : TI prog 114 1 8 (.pointer none) false := by unfold TI; kernel_rfl
theorem ti117 : TI prog 117 1 8 (.pointer none) false := by unfold TI; kernel_rfl
theorem ti148 : TI prog 148 132 160 (.agg (List.replicate 64 (Value.int .u8 0) ++ List.replicate 2 (Value.int .i64 0) ++ List.replicate 64 (Value.int .u8 0) ++ List.replicate 2 (Value.int .i64 0)).toArray) true := by unfold TI; kernel_rfl
theorem ti153 : TI prog 153 3 56 (.agg #[.int .i64 0, .slice none 0 0, .slice none 0 0]) true := by unfold TI; kernel_rfl
theorem ti156 : TI prog 156 5 40 (.agg #[.int .i64 0, .int .i64 0, .int .i64 0, .int .i64 0, .int .i64 0]) true := by unfold TI; kernel_rfl
theorem ti158 : TI prog 158 4 40 (.agg #[.int .u32 0, .bool false, .int .u32 0, .slice none 0 0]) true := by unfold TI; kernel_rfl
theorem ti160 : TI prog 160 8 8 (.agg #[.bool false, .bool false, .bool false, .bool false, .bool false, .bool false, .bool false, .bool false]) true := by unfold TI; kernel_rfl
theorem ti162 : TI prog 162 18 32 (.agg (List.replicate 16 (Value.bool false) ++ [Value.int .i64 0] ++ [Value.bool false]).toArray) true := by unfold TI; kernel_rfl
theorem ti166 : TI prog 166 5 40 (.agg #[.int .i64 0, .int .i64 0, .pointer none, .pointer none, .pointer none]) true := by unfold TI; kernel_rfl
theorem ti173 : TI prog 173 1 24 (.slice none 0 0) false := by unfold TI; kernel_rfl
theorem ti175 : TI prog 175 7 88 (.agg #[.int .i64 0, .int .i64 0, .int .i64 0, .int .i64 0, .int .u32 0, .slice none 0 0, .slice none 0 0]) true := by unfold TI; kernel_rfl
theorem ti177 : TI prog 177 7 64 (.agg #[.int .u32 0, .bool false, .int .i64 0, .int .u32 0, .slice none 0 0, .int .i64 0, .int .i64 0]) true := by unfold TI; kernel_rfl
theorem ti180 : TI prog 180 3 40 (.agg #[.int .i64 0, .int .i64 0, .slice none 0 0]) true := by unfold TI; kernel_rfl
theorem ti191 : TI prog 191 7 88 (.agg #[.int .i64 0, .int .i64 0, .int .i64 0, .int .i64 0, .int .i64 0, .slice none 0 0, .slice none 0 0]) true := by unfold TI; kernel_rfl
theorem ti194 : TI prog 194 1 24 (.slice none 0 0) false := by unfold TI; kernel_rfl
theorem ti196 : TI prog 196 1 24 (.agg #[.slice none 0 0]) true := by unfold TI; kernel_rfl
theorem ti221 : TI prog 221 1 24 (.slice none 0 0) false := by unfold TI; kernel_rfl
theorem ti223 : TI prog 223 1 24 (.agg #[.slice none 0 0]) true := by unfold TI; kernel_rfl
theorem ti226 : TI prog 226 1026 8224 (.agg (List.replicate 1025 (Value.int .i64 0) ++ [Value.slice none 0 0]).toArray) true := by unfold TI; kernel_rfl
theorem ti227 : TI prog 227 1 24 (.slice none 0 0) false := by unfold TI; kernel_rfl
theorem ti229 : TI prog 229 4 48 (.agg #[.slice none 0 0, .int .i64 0, .int .i64 0, .int .i64 0]) true := by unfold TI; kernel_rfl
theorem ti241 : TI prog 241 1 24 (.slice none 0 0) false := by unfold TI; kernel_rfl
theorem ti245 : TI prog 245 5 88 (.agg #[.slice none 0 0, .slice none 0 0, .int .i64 0, .int .i64 0, .slice none 0 0]) true := by unfold TI; kernel_rfl
theorem ti252 : TI prog 252 6 56 (.agg #[.int .i64 0, .int .u32 0, .bool false, .int .i64 0, .slice none 0 0, .int .i64 0]) true := by unfold TI; kernel_rfl
theorem ti261 : TI prog 261 256 256 (.agg (List.replicate 256 (Value.int .u8 0)).toArray) true := by unfold TI; kernel_rfl
theorem ti305 : TI prog 305 4 32 (.agg #[.int .i64 0, .int .i64 0, .int .i64 0, .int .i64 0]) true := by unfold TI; kernel_rfl
theorem ti307 : TI prog 307 5 40 (.agg #[.bool false, .int .i64 0, .int .i64 0, .int .i64 0, .int .i64 0]) true := by unfold TI; kernel_rfl
theorem fa52_0 : FieldAt prog 52 0 0 := by unfold FieldAt; kernel_rfl
theorem fa52_1 : FieldAt prog 52 1 1 := by unfold FieldAt; kernel_rfl
theorem fa52_2 : FieldAt prog 52 2 2 := by unfold FieldAt; kernel_rfl
theorem fa52_3 : FieldAt prog 52 3 3 := by unfold FieldAt; kernel_rfl
theorem fa52_4 : FieldAt prog 52 4 4 := by unfold FieldAt; kernel_rfl
theorem fa52_5 : FieldAt prog 52 5 5 := by unfold FieldAt; kernel_rfl
theorem fa52_6 : FieldAt prog 52 6 6 := by unfold FieldAt; kernel_rfl
theorem fa58_0 : FieldAt prog 58 0 0 := by unfold FieldAt; kernel_rfl
theorem fa58_1 : FieldAt prog 58 1 1 := by unfold FieldAt; kernel_rfl
theorem fa58_2 : FieldAt prog 58 2 2 := by unfold FieldAt; kernel_rfl
theorem fa58_3 : FieldAt prog 58 3 3 := by unfold FieldAt; kernel_rfl
theorem fa64_0 : FieldAt prog 64 0 0 := by unfold FieldAt; kernel_rfl
theorem fa64_1 : FieldAt prog 64 1 1 := by unfold FieldAt; kernel_rfl
theorem fa64_2 : FieldAt prog 64 2 2 := by unfold FieldAt; kernel_rfl
theorem fa64_3 : FieldAt prog 64 3 3 := by unfold FieldAt; kernel_rfl
theorem fa75_0 : FieldAt prog 75 0 0 := by unfold FieldAt; kernel_rfl
theorem fa75_1 : FieldAt prog 75 1 1 := by unfold FieldAt; kernel_rfl
theorem fa75_2 : FieldAt prog 75 2 2 := by unfold FieldAt; kernel_rfl
theorem fa101_0 : FieldAt prog 101 0 0 := by unfold FieldAt; kernel_rfl
theorem fa101_1 : FieldAt prog 101 1 1 := by unfold FieldAt; kernel_rfl
theorem fa101_2 : FieldAt prog 101 2 2 := by unfold FieldAt; kernel_rfl
theorem fa101_3 : FieldAt prog 101 3 3 := by unfold FieldAt; kernel_rfl
theorem fa101_4 : FieldAt prog 101 4 4 := by unfold FieldAt; kernel_rfl
theorem fa146_0 : FieldAt prog 146 0 0 := by unfold FieldAt; kernel_rfl
theorem fa146_1 : FieldAt prog 146 1 64 := by unfold FieldAt; kernel_rfl
theorem fa146_2 : FieldAt prog 146 2 65 := by unfold FieldAt; kernel_rfl
theorem fa148_0 : FieldAt prog 148 0 0 := by unfold FieldAt; kernel_rfl
theorem fa148_1 : FieldAt prog 148 1 66 := by unfold FieldAt; kernel_rfl
theorem fa153_0 : FieldAt prog 153 0 0 := by unfold FieldAt; kernel_rfl
theorem fa153_1 : FieldAt prog 153 1 1 := by unfold FieldAt; kernel_rfl
theorem fa153_2 : FieldAt prog 153 2 2 := by unfold FieldAt; kernel_rfl
theorem fa156_0 : FieldAt prog 156 0 0 := by unfold FieldAt; kernel_rfl
theorem fa156_1 : FieldAt prog 156 1 1 := by unfold FieldAt; kernel_rfl
theorem fa156_2 : FieldAt prog 156 2 2 := by unfold FieldAt; kernel_rfl
theorem fa156_3 : FieldAt prog 156 3 3 := by unfold FieldAt; kernel_rfl
theorem fa156_4 : FieldAt prog 156 4 4 := by unfold FieldAt; kernel_rfl
theorem fa158_1 : FieldAt prog 158 1 1 := by unfold FieldAt; kernel_rfl
theorem fa158_2 : FieldAt prog 158 2 2 := by unfold FieldAt; kernel_rfl
theorem fa158_3 : FieldAt prog 158 3 3 := by unfold FieldAt; kernel_rfl
theorem fa162_0 : FieldAt prog 162 0 0 := by unfold FieldAt; kernel_rfl
theorem fa162_1 : FieldAt prog 162 1 8 := by unfold FieldAt; kernel_rfl
theorem fa162_2 : FieldAt prog 162 2 16 := by unfold FieldAt; kernel_rfl
theorem fa162_3 : FieldAt prog 162 3 17 := by unfold FieldAt; kernel_rfl
theorem fa166_0 : FieldAt prog 166 0 0 := by unfold FieldAt; kernel_rfl
theorem fa166_1 : FieldAt prog 166 1 1 := by unfold FieldAt; kernel_rfl
theorem fa166_2 : FieldAt prog 166 2 2 := by unfold FieldAt; kernel_rfl
theorem fa166_3 : FieldAt prog 166 3 3 := by unfold FieldAt; kernel_rfl
theorem fa166_4 : FieldAt prog 166 4 4 := by unfold FieldAt; kernel_rfl
theorem fa175_0 : FieldAt prog 175 0 0 := by unfold FieldAt; kernel_rfl
theorem fa175_1 : FieldAt prog 175 1 1 := by unfold FieldAt; kernel_rfl
theorem fa175_2 : FieldAt prog 175 2 2 := by unfold FieldAt; kernel_rfl
theorem fa175_3 : FieldAt prog 175 3 3 := by unfold FieldAt; kernel_rfl
theorem fa175_4 : FieldAt prog 175 4 4 := by unfold FieldAt; kernel_rfl
theorem fa175_5 : FieldAt prog 175 5 5 := by unfold FieldAt; kernel_rfl
theorem fa175_6 : FieldAt prog 175 6 6 := by unfold FieldAt; kernel_rfl
theorem fa177_0 : FieldAt prog 177 0 0 := by unfold FieldAt; kernel_rfl
theorem fa177_1 : FieldAt prog 177 1 1 := by unfold FieldAt; kernel_rfl
theorem fa177_2 : FieldAt prog 177 2 2 := by unfold FieldAt; kernel_rfl
theorem fa177_3 : FieldAt prog 177 3 3 := by unfold FieldAt; kernel_rfl
theorem fa177_4 : FieldAt prog 177 4 4 := by unfold FieldAt; kernel_rfl
theorem fa177_5 : FieldAt prog 177 5 5 := by unfold FieldAt; kernel_rfl
theorem fa177_6 : FieldAt prog 177 6 6 := by unfold FieldAt; kernel_rfl
theorem fa180_0 : FieldAt prog 180 0 0 := by unfold FieldAt; kernel_rfl
theorem fa180_1 : FieldAt prog 180 1 1 := by unfold FieldAt; kernel_rfl
theorem fa180_2 : FieldAt prog 180 2 2 := by unfold FieldAt; kernel_rfl
theorem fa189_0 : FieldAt prog 189 0 0 := by unfold FieldAt; kernel_rfl
theorem fa191_0 : FieldAt prog 191 0 0 := by unfold FieldAt; kernel_rfl
theorem fa191_1 : FieldAt prog 191 1 5 := by unfold FieldAt; kernel_rfl
theorem fa191_2 : FieldAt prog 191 2 6 := by unfold FieldAt; kernel_rfl
theorem fa196_0 : FieldAt prog 196 0 0 := by unfold FieldAt; kernel_rfl
theorem fa223_0 : FieldAt prog 223 0 0 := by unfold FieldAt; kernel_rfl
theorem fa226_0 : FieldAt prog 226 0 0 := by unfold FieldAt; kernel_rfl
theorem fa226_1 : FieldAt prog 226 1 1024 := by unfold FieldAt; kernel_rfl
theorem fa226_2 : FieldAt prog 226 2 1025 := by unfold FieldAt; kernel_rfl
theorem fa229_0 : FieldAt prog 229 0 0 := by unfold FieldAt; kernel_rfl
theorem fa229_1 : FieldAt prog 229 1 1 := by unfold FieldAt; kernel_rfl
theorem fa229_2 : FieldAt prog 229 2 2 := by unfold FieldAt; kernel_rfl
theorem fa229_3 : FieldAt prog 229 3 3 := by unfold FieldAt; kernel_rfl
theorem fa243_0 : FieldAt prog 243 0 0 := by unfold FieldAt; kernel_rfl
theorem fa245_0 : FieldAt prog 245 0 0 := by unfold FieldAt; kernel_rfl
theorem fa245_1 : FieldAt prog 245 1 1 := by unfold FieldAt; kernel_rfl
theorem fa245_2 : FieldAt prog 245 2 2 := by unfold FieldAt; kernel_rfl
theorem fa245_3 : FieldAt prog 245 3 3 := by unfold FieldAt; kernel_rfl
theorem fa245_4 : FieldAt prog 245 4 4 := by unfold FieldAt; kernel_rfl
theorem fa252_0 : FieldAt prog 252 0 0 := by unfold FieldAt; kernel_rfl
theorem fa252_1 : FieldAt prog 252 1 5 := by unfold FieldAt; kernel_rfl
theorem fa305_2 : FieldAt prog 305 2 2 := by unfold FieldAt; kernel_rfl
theorem fa305_3 : FieldAt prog 305 3 3 := by unfold FieldAt; kernel_rfl
theorem fa307_0 : FieldAt prog 307 0 0 := by unfold FieldAt; kernel_rfl
theorem fa307_1 : FieldAt prog 307 1 1 := by unfold FieldAt; kernel_rfl
theorem bu52 : places? prog 52 = some [(0, 1), (1, 1), (2, 1), (3, 1), (4, 1), (5, 1), (6, 1)] := by kernel_rfl
theorem bu58 : places? prog 58 = some [(0, 1), (1, 1), (2, 1), (3, 1)] := by kernel_rfl
theorem bu64 : places? prog 64 = some [(0, 1), (1, 1), (2, 1), (3, 1)] := by kernel_rfl
theorem bu75 : places? prog 75 = some [(0, 1), (1, 1), (2, 1)] := by kernel_rfl
theorem bu101 : places? prog 101 = some [(0, 1), (1, 1), (2, 1), (3, 1), (4, 1)] := by kernel_rfl
theorem bu148 : places? prog 148 = some [(0, 66), (66, 66)] := by kernel_rfl
theorem bu153 : places? prog 153 = some [(0, 1), (1, 1), (2, 1)] := by kernel_rfl
theorem bu156 : places? prog 156 = some [(0, 1), (1, 1), (2, 1), (3, 1), (4, 1)] := by kernel_rfl
theorem bu158 : places? prog 158 = some [(0, 1), (1, 1), (2, 1), (3, 1)] := by kernel_rfl
theorem bu162 : places? prog 162 = some [(0, 8), (8, 8), (16, 1), (17, 1)] := by kernel_rfl
theorem bu166 : places? prog 166 = some [(0, 1), (1, 1), (2, 1), (3, 1), (4, 1)] := by kernel_rfl
theorem bu175 : places? prog 175 = some [(0, 1), (1, 1), (2, 1), (3, 1), (4, 1), (5, 1), (6, 1)] := by kernel_rfl
theorem bu177 : places? prog 177 = some [(0, 1), (1, 1), (2, 1), (3, 1), (4, 1), (5, 1), (6, 1)] := by kernel_rfl
theorem bu180 : places? prog 180 = some [(0, 1), (1, 1), (2, 1)] := by kernel_rfl
theorem bu191 : places? prog 191 = some [(0, 5), (5, 1), (6, 1)] := by kernel_rfl
theorem bu196 : places? prog 196 = some [(0, 1)] := by kernel_rfl
theorem bu223 : places? prog 223 = some [(0, 1)] := by kernel_rfl
theorem bu226 : places? prog 226 = some [(0, 1024), (1024, 1), (1025, 1)] := by kernel_rfl
theorem bu229 : places? prog 229 = some [(0, 1), (1, 1), (2, 1), (3, 1)] := by kernel_rfl
theorem bu245 : places? prog 245 = some [(0, 1), (1, 1), (2, 1), (3, 1), (4, 1)] := by kernel_rfl
theorem bu252 : places? prog 252 = some [(0, 5), (5, 1)] := by kernel_rfl
theorem bu305 : places? prog 305 = some [(0, 1), (1, 1), (2, 1), (3, 1)] := by kernel_rfl
theorem bu307 : places? prog 307 = some [(0, 1), (1, 4)] := by kernel_rfl
theorem call18 : CallOK prog 18 := ⟨_, _, func18, rfl, by kernel_rfl⟩
theorem call19 : CallOK prog 19 := ⟨_, _, func19, rfl, by kernel_rfl⟩
theorem call20 : CallOK prog 20 := ⟨_, _, func20, rfl, by kernel_rfl⟩
theorem call21 : CallOK prog 21 := ⟨_, _, func21, rfl, by kernel_rfl⟩
theorem call22 : CallOK prog 22 := ⟨_, _, func22, rfl, by kernel_rfl⟩
theorem call23 : CallOK prog 23 := ⟨_, _, func23, rfl, by kernel_rfl⟩
theorem call24 : CallOK prog 24 := ⟨_, _, func24, rfl, by kernel_rfl⟩
theorem call25 : CallOK prog 25 := ⟨_, _, func25, rfl, by kernel_rfl⟩
theorem call26 : CallOK prog 26 := ⟨_, _, func26, rfl, by kernel_rfl⟩
theorem call27 : CallOK prog 27 := ⟨_, _, func27, rfl, by kernel_rfl⟩
theorem call29 : CallOK prog 29 := ⟨_, _, func29, rfl, by kernel_rfl⟩
theorem call32 : CallOK prog 32 := ⟨_, _, func32, rfl, by kernel_rfl⟩
theorem call33 : CallOK prog 33 := ⟨_, _, func33, rfl, by kernel_rfl⟩
theorem call34 : CallOK prog 34 := ⟨_, _, func34, rfl, by kernel_rfl⟩
theorem call35 : CallOK prog 35 := ⟨_, _, func35, rfl, by kernel_rfl⟩
theorem call36 : CallOK prog 36 := ⟨_, _, func36, rfl, by kernel_rfl⟩
theorem call37 : CallOK prog 37 := ⟨_, _, func37, rfl, by kernel_rfl⟩
theorem call38 : CallOK prog 38 := ⟨_, _, func38, rfl, by kernel_rfl⟩
theorem call39 : CallOK prog 39 := ⟨_, _, func39, rfl, by kernel_rfl⟩
theorem call40 : CallOK prog 40 := ⟨_, _, func40, rfl, by kernel_rfl⟩
theorem call41 : CallOK prog 41 := ⟨_, _, func41, rfl, by kernel_rfl⟩
theorem call42 : CallOK prog 42 := ⟨_, _, func42, rfl, by kernel_rfl⟩
theorem call44 : CallOK prog 44 := ⟨_, _, func44, rfl, by kernel_rfl⟩
theorem call45 : CallOK prog 45 := ⟨_, _, func45, rfl, by kernel_rfl⟩
theorem call50 : CallOK prog 50 := ⟨_, _, func50, rfl, by kernel_rfl⟩
theorem call51 : CallOK prog 51 := ⟨_, _, func51, rfl, by kernel_rfl⟩
theorem call52 : CallOK prog 52 := ⟨_, _, func52, rfl, by kernel_rfl⟩
theorem call53 : CallOK prog 53 := ⟨_, _, func53, rfl, by kernel_rfl⟩
theorem call54 : CallOK prog 54 := ⟨_, _, func54, rfl, by kernel_rfl⟩
theorem call55 : CallOK prog 55 := ⟨_, _, func55, rfl, by kernel_rfl⟩
theorem call56 : CallOK prog 56 := ⟨_, _, func56, rfl, by kernel_rfl⟩
theorem call58 : CallOK prog 58 := ⟨_, _, func58, rfl, by kernel_rfl⟩
theorem call59 : CallOK prog 59 := ⟨_, _, func59, rfl, by kernel_rfl⟩
theorem call60 : CallOK prog 60 := ⟨_, _, func60, rfl, by kernel_rfl⟩
theorem call61 : CallOK prog 61 := ⟨_, _, func61, rfl, by kernel_rfl⟩
theorem call62 : CallOK prog 62 := ⟨_, _, func62, rfl, by kernel_rfl⟩
theorem call63 : CallOK prog 63 := ⟨_, _, func63, rfl, by kernel_rfl⟩
theorem call64 : CallOK prog 64 := ⟨_, _, func64, rfl, by kernel_rfl⟩
theorem call69 : CallOK prog 69 := ⟨_, _, func69, rfl, by kernel_rfl⟩
theorem call70 : CallOK prog 70 := ⟨_, _, func70, rfl, by kernel_rfl⟩
theorem call71 : CallOK prog 71 := ⟨_, _, func71, rfl, by kernel_rfl⟩
theorem call72 : CallOK prog 72 := ⟨_, _, func72, rfl, by kernel_rfl⟩
theorem call73 : CallOK prog 73 := ⟨_, _, func73, rfl, by kernel_rfl⟩
theorem call74 : CallOK prog 74 := ⟨_, _, func74, rfl, by kernel_rfl⟩
theorem call75 : CallOK prog 75 := ⟨_, _, func75, rfl, by kernel_rfl⟩
theorem call76 : CallOK prog 76 := ⟨_, _, func76, rfl, by kernel_rfl⟩
theorem call77 : CallOK prog 77 := ⟨_, _, func77, rfl, by kernel_rfl⟩
theorem call78 : CallOK prog 78 := ⟨_, _, func78, rfl, by kernel_rfl⟩
theorem call79 : CallOK prog 79 := ⟨_, _, func79, rfl, by kernel_rfl⟩
theorem call80 : CallOK prog 80 := ⟨_, _, func80, rfl, by kernel_rfl⟩
theorem call81 : CallOK prog 81 := ⟨_, _, func81, rfl, by kernel_rfl⟩
theorem call82 : CallOK prog 82 := ⟨_, _, func82, rfl, by kernel_rfl⟩
theorem call83 : CallOK prog 83 := ⟨_, _, func83, rfl, by kernel_rfl⟩
theorem call84 : CallOK prog 84 := ⟨_, _, func84, rfl, by kernel_rfl⟩
theorem call85 : CallOK prog 85 := ⟨_, _, func85, rfl, by kernel_rfl⟩
theorem call87 : CallOK prog 87 := ⟨_, _, func87, rfl, by kernel_rfl⟩
theorem call88 : CallOK prog 88 := ⟨_, _, func88, rfl, by kernel_rfl⟩
theorem call89 : CallOK prog 89 := ⟨_, _, func89, rfl, by kernel_rfl⟩
theorem call90 : CallOK prog 90 := ⟨_, _, func90, rfl, by kernel_rfl⟩
theorem call91 : CallOK prog 91 := ⟨_, _, func91, rfl, by kernel_rfl⟩
theorem call92 : CallOK prog 92 := ⟨_, _, func92, rfl, by kernel_rfl⟩
theorem call93 : CallOK prog 93 := ⟨_, _, func93, rfl, by kernel_rfl⟩
theorem call94 : CallOK prog 94 := ⟨_, _, func94, rfl, by kernel_rfl⟩
theorem call95 : CallOK prog 95 := ⟨_, _, func95, rfl, by kernel_rfl⟩
theorem call96 : CallOK prog 96 := ⟨_, _, func96, rfl, by kernel_rfl⟩
theorem call97 : CallOK prog 97 := ⟨_, _, func97, rfl, by kernel_rfl⟩
theorem call98 : CallOK prog 98 := ⟨_, _, func98, rfl, by kernel_rfl⟩
theorem call99 : CallOK prog 99 := ⟨_, _, func99, rfl, by kernel_rfl⟩
theorem call122 : CallOK prog 122 := ⟨_, _, func122, rfl, by kernel_rfl⟩
theorem call123 : CallOK prog 123 := ⟨_, _, func123, rfl, by kernel_rfl⟩
theorem call124 : CallOK prog 124 := ⟨_, _, func124, rfl, by kernel_rfl⟩
theorem call125 : CallOK prog 125 := ⟨_, _, func125, rfl, by kernel_rfl⟩
theorem call128 : CallOK prog 128 := ⟨_, _, func128, rfl, by kernel_rfl⟩
theorem call129 : CallOK prog 129 := ⟨_, _, func129, rfl, by kernel_rfl⟩
theorem call130 : CallOK prog 130 := ⟨_, _, func130, rfl, by kernel_rfl⟩
theorem call131 : CallOK prog 131 := ⟨_, _, func131, rfl, by kernel_rfl⟩
theorem call132 : CallOK prog 132 := ⟨_, _, func132, rfl, by kernel_rfl⟩
theorem call133 : CallOK prog 133 := ⟨_, _, func133, rfl, by kernel_rfl⟩
theorem call134 : CallOK prog 134 := ⟨_, _, func134, rfl, by kernel_rfl⟩
theorem call135 : CallOK prog 135 := ⟨_, _, func135, rfl, by kernel_rfl⟩
theorem call136 : CallOK prog 136 := ⟨_, _, func136, rfl, by kernel_rfl⟩
theorem call137 : CallOK prog 137 := ⟨_, _, func137, rfl, by kernel_rfl⟩
theorem call138 : CallOK prog 138 := ⟨_, _, func138, rfl, by kernel_rfl⟩
theorem call139 : CallOK prog 139 := ⟨_, _, func139, rfl, by kernel_rfl⟩
theorem call140 : CallOK prog 140 := ⟨_, _, func140, rfl, by kernel_rfl⟩
theorem call141 : CallOK prog 141 := ⟨_, _, func141, rfl, by kernel_rfl⟩
theorem call142 : CallOK prog 142 := ⟨_, _, func142, rfl, by kernel_rfl⟩
theorem call143 : CallOK prog 143 := ⟨_, _, func143, rfl, by kernel_rfl⟩
theorem call144 : CallOK prog 144 := ⟨_, _, func144, rfl, by kernel_rfl⟩
theorem call145 : CallOK prog 145 := ⟨_, _, func145, rfl, by kernel_rfl⟩
theorem call146 : CallOK prog 146 := ⟨_, _, func146, rfl, by kernel_rfl⟩
theorem call147 : CallOK prog 147 := ⟨_, _, func147, rfl, by kernel_rfl⟩
theorem call148 : CallOK prog 148 := ⟨_, _, func148, rfl, by kernel_rfl⟩
theorem call170 : CallOK prog 170 := ⟨_, _, func170, rfl, by kernel_rfl⟩
theorem call171 : CallOK prog 171 := ⟨_, _, func171, rfl, by kernel_rfl⟩
theorem call186 : CallOK prog 186 := ⟨_, _, func186, rfl, by kernel_rfl⟩
theorem call187 : CallOK prog 187 := ⟨_, _, func187, rfl, by kernel_rfl⟩
theorem call188 : CallOK prog 188 := ⟨_, _, func188, rfl, by kernel_rfl⟩
theorem call189 : CallOK prog 189 := ⟨_, _, func189, rfl, by kernel_rfl⟩
theorem call190 : CallOK prog 190 := ⟨_, _, func190, rfl, by kernel_rfl⟩
theorem call191 : CallOK prog 191 := ⟨_, _, func191, rfl, by kernel_rfl⟩
theorem call192 : CallOK prog 192 := ⟨_, _, func192, rfl, by kernel_rfl⟩
theorem call193 : CallOK prog 193 := ⟨_, _, func193, rfl, by kernel_rfl⟩
theorem call194 : CallOK prog 194 := ⟨_, _, func194, rfl, by kernel_rfl⟩
theorem call195 : CallOK prog 195 := ⟨_, _, func195, rfl, by kernel_rfl⟩
theorem call196 : CallOK prog 196 := ⟨_, _, func196, rfl, by kernel_rfl⟩
theorem call209 : CallOK prog 209 := ⟨_, _, func209, rfl, by kernel_rfl⟩
theorem call219 : CallOK prog 219 := ⟨_, _, func219, rfl, by kernel_rfl⟩
theorem call220 : CallOK prog 220 := ⟨_, _, func220, rfl, by kernel_rfl⟩
theorem call221 : CallOK prog 221 := ⟨_, _, func221, rfl, by kernel_rfl⟩
theorem call222 : CallOK prog 222 := ⟨_, _, func222, rfl, by kernel_rfl⟩
theorem call223 : CallOK prog 223 := ⟨_, _, func223, rfl, by kernel_rfl⟩
theorem flat160 : flat? prog 6 160 = some ([none, none, none, none, none, none, none, none], true) := by kernel_rfl
theorem guard160 : prog.eqGuardType prog.depth 160 = false := by kernel_rfl
theorem flat307 : flat? prog 6 307 = some ([none, some .i64, some .i64, some .i64, some .i64], true) := by kernel_rfl
theorem guard307 : prog.eqGuardType prog.depth 307 = false := by kernel_rfl
theorem mixed : prog.follows .mixedOrders = true := by kernel_rfl
end Go.Proofs.YtphljkplokjonaaGreat.T
namespace Go.Proofs.YtphljkplokjonaaGreat.Me
open Go Go.Sl Go.RowKit Go.Proofs Go.Proofs.YtphljkplokjonaaGreat.T Tryz
def leN : List UInt8 → Nat
 | [] => 0
 | b :: bs => b.toNat + 256 * leN bs
theorem leN_lt : ∀ bs : List UInt8, leN bs < 2 ^ (8 * bs.length)
 | [] => by simp [leN]
 | b :: bs => by
  have ih := leN_lt bs
  have hb := b.toNat_lt
  have : 2 ^ (8 * (b :: bs).length) = 256 * 2 ^ (8 * bs.length) := by
   rw [List.length_cons, Nat.mul_succ, Nat.pow_add, Nat.mul_comm]
  rw [this]; simp only [leN]; omega
theorem leN_append (a b : List UInt8) : leN (a ++ b) = leN a + 2 ^ (8 * a.length) * leN b := by
 induction a with
 | nil => simp [leN]
 | cons x a ih =>
  have e : 2 ^ (8 * (x :: a).length) = 2 ^ (8 * a.length) * 256 := by rw [List.length_cons, Nat.mul_add, Nat.pow_add]
  rw [e]
  simp only [List.cons_append, leN, ih]
  rw [Nat.mul_add, ← Nat.mul_assoc, Nat.mul_comm 256 (2 ^ (8 * a.length)), Nat.add_assoc]
theorem leN_take {bs : List UInt8} {i : Nat} {b : UInt8} (h : bs[i]? = some b) : leN (bs.take (i + 1)) = leN (bs.take i) + b.toNat * 2 ^ (8 * i) := by
 obtain ⟨hi, rfl⟩ := List.getElem?_eq_some_iff.1 h
 rw [List.take_succ_eq_append_getElem hi, leN_append, List.length_take, Nat.min_eq_left (by omega)]
 simp [leN, Nat.mul_comm]
def putB (v k : Nat) : List UInt8 := (List.range k).map fun i => UInt8.ofNat (v / 2 ^ (8 * i))
theorem putB_len (v k : Nat) : (putB v k).length = k := by simp [putB]
theorem putB_succ (v k : Nat) : putB v (k + 1) = putB v k ++ [UInt8.ofNat (v / 2 ^ (8 * k))] := by unfold putB; rw [List.range_succ, List.map_append]; rfl
theorem leN_putB (v k : Nat) : leN (putB v k) = v % 2 ^ (8 * k) := by
 induction k with
 | zero => simp [putB, leN, Nat.mod_one]
 | succ k ih =>
  rw [putB_succ, leN_append, ih, putB_len]
  simp only [leN, Nat.mul_zero, Nat.add_zero, UInt8.toNat_ofNat']
  rw [Nat.mul_succ, Nat.pow_add, Nat.mod_mul]
def overB (bs : List UInt8) (a : Nat) (ys : List UInt8) : List UInt8 := bs.take a ++ ys ++ bs.drop (a + ys.length)
theorem overB_len {bs : List UInt8} {a : Nat} {ys : List UInt8} (h : a + ys.length ≤ bs.length) : (overB bs a ys).length = bs.length := by unfold overB; simp; omega
theorem over_bytes (bs : List UInt8) (a : Nat) (ys : List UInt8) : over (bytesV bs) a (bytesV ys) = bytesV (overB bs a ys) := by
 unfold over overB; rw [bytesV_length, bytesV_take, bytesV_drop, bytesV_append, bytesV_append]
theorem overB_at {bs ys : List UInt8} {a : Nat} (h : a ≤ bs.length) : ((overB bs a ys).drop a).take ys.length = ys := by
 unfold overB
 have e0 : (bs.take a).length = a := by rw [List.length_take]; omega
 rw [List.append_assoc, List.drop_append, e0, List.drop_eq_nil_of_le (by omega), List.nil_append, Nat.sub_self, List.drop_zero, List.take_append_of_le_length (Nat.le_refl _), List.take_length]
theorem quo_nat {a b : Nat} (hb : b ≠ 0) (ha : a ≤ 9223372036854775807) : IntKind.i64.wrap ((a : Int).tdiv (b : Int)) = ((a / b : Nat) : Int) := by
 rw [Int.tdiv_eq_ediv_of_nonneg (by omega), ← Int.natCast_ediv]
 have := Nat.div_le_self a b
 generalize a / b = q at this ⊢
 exact w64 (by omega) (by omega)
theorem quo_nat32 {a b : Nat} (hb : b ≠ 0) (ha : a ≤ 4294967295) : IntKind.u32.wrap ((a : Int).tdiv (b : Int)) = ((a / b : Nat) : Int) := by
 rw [Int.tdiv_eq_ediv_of_nonneg (by omega), ← Int.natCast_ediv]
 have := Nat.div_le_self a b
 generalize a / b = q at this ⊢
 exact wu32 (by omega) (by omega)
theorem shl_bound {x i : Nat} (hx : x < 256) (hi : i < 8) : x * 2 ^ (8 * i) < 18446744073709551616 := by
 have h1 : x * 2 ^ (8 * i) < 256 * 2 ^ (8 * i) := Nat.mul_lt_mul_of_pos_right hx (Nat.two_pow_pos _)
 have h2 : 256 * 2 ^ (8 * i) = 2 ^ (8 * i + 8) := by rw [Nat.pow_add, Nat.mul_comm]
 have h3 : 2 ^ (8 * i + 8) ≤ 2 ^ 64 := Nat.pow_le_pow_right (by decide) (by omega)
 have h4 : (2 : Nat) ^ 64 = 18446744073709551616 := by decide
 omega
theorem or_join {a x i : Nat} (ha : a < 2 ^ (8 * i)) (hx : x < 256) (hi : i < 8) : Go.bits .or .u64 (a : Int) ((x * 2 ^ (8 * i) : Nat) : Int) = ((a + x * 2 ^ (8 * i) : Nat) : Int) := by
 have h4 : (2 : Nat) ^ 64 = 18446744073709551616 := by decide
 have h2 := shl_bound hx hi
 have h3 : (2 : Nat) ^ (8 * i) ≤ 2 ^ 64 := Nat.pow_le_pow_right (by decide) (by omega)
 rw [(bits_nat .u64 64 (by decide) (fun n h0 h1 => wu64 h0 (by omega)) a _ (by omega) (by omega)).2]
 congr 1
 rw [Nat.or_comm, Nat.mul_comm, ← Nat.two_pow_add_eq_or_of_lt ha, Nat.add_comm]
theorem wrap_u8_nat (n : Nat) : IntKind.u8.wrap (n : Int) = ((UInt8.ofNat n).toNat : Int) := by
 rw [IntKind.wrap_u8, UInt8.toNat_ofNat']; omega
theorem SlR.byte {W0 : World} {G : List HProp} {b o m i : Nat} {bs : List UInt8} {x : UInt8} (h : SlR W0 G 1 (some ⟨b, o, none⟩) m (bytesV bs)) (hx : bs[i]? = some x) : Cel W0 G ⟨b, o + i * 1, none⟩ (byteV x) := by
 rw [Nat.mul_one]; exact h.cel (bytesV_get hx)
theorem flat_zeros (n k : Nat) : (List.replicate n (Value.agg (List.replicate k (Value.int .u8 0)).toArray).cells.toList).flatten = bytesV (List.replicate (n * k) 0) := by
 show (List.replicate n (List.replicate k (Value.int .u8 0))).flatten = _
 rw [List.flatten_replicate_replicate]
 simp [bytesV, byteV]
theorem sl_eq {b o o' m m' c c' : Nat} (h1 : o = o') (h2 : m = m') (h3 : c = c') : Value.slice (some ⟨b, o, none⟩) m c = .slice (some ⟨b, o', none⟩) m' c' := by subst h1 h2 h3; rfl
abbrev PA := (Nat × Nat) × Nat
abbrev MO (m n : Nat) (bs : List UInt8) (p : PA) : List HProp :=
 [blk m [.slice (some ⟨p.1.1, p.1.2, none⟩) n p.2] 223, osl 261 256 (some ⟨p.1.1, p.1.2, none⟩) p.2 n (bytesV bs)]
def M (m n : Nat) (bs : List UInt8) : HProp := fun h => ∃ p, (bs.length = n * 256 ∧ 1 ≤ n ∧ n ≤ 1024) ∧ Star (MO m n bs p) h
theorem m_open {m n : Nat} {bs : List UInt8} (y : Heaplet) (h : M m n bs y) : ∃ p, (bs.length = n * 256 ∧ 1 ≤ n ∧ n ≤ 1024) ∧ Star (MO m n bs p) y := h
theorem m_close {m n : Nat} {bs : List UInt8} {G : List HProp} (p : PA) (hl : bs.length = n * 256 ∧ 1 ≤ n ∧ n ≤ 1024) : Imp (MO m n bs p ++ G) (M m n bs :: G) :=
 Imp.trans star_close (Imp.head fun y hy => ⟨p, hl, hy⟩)
theorem m_facts {W0 : World} {G R : List HProp} {m n : Nat} {bs : List UInt8} (x : Ext G (M m n bs) R) (w : World) (hw : Sat W0 G w) : bs.length = n * 256 ∧ 1 ≤ n ∧ n ≤ 1024 := by
 obtain ⟨f, hf, p, h, _⟩ := Sat.ext x hw
 exact h
section
variable (W0 : World) (Fr : List HProp)
theorem get_spec {b o c : Nat} {bs : List UInt8} (hr : SlR W0 Fr 1 (some ⟨b, o, none⟩) bs.length (bytesV bs)) (hl : bs.length ≤ 8) : Ctr prog W0 220 [.slice (some ⟨b, o, none⟩) bs.length c] Fr (fun _ : Unit => True) (fun _ => .int .u64 (leN bs)) (fun _ => Fr) := by
 refine Ctr.of_body func220 J ntmps220 J (eZ (aZ (gZ J (fZ (bZ (eZ (aZ (gZ J (fZ (bZ (eZ (eZ (aZ (dZ J (cZ (lZ underlying32 J J) (cZ (dQ (dV J J) (v' := .int .i64 bs.length) (by congr 1; omega)) ?_))))))))))))))))
 refine dZ J (fZ (bZ (fQ (iX (fun i : Nat => i ≤ bs.length) (fun i => [(0, .slice (some ⟨b, o, none⟩) bs.length c), (3, .int .u64 (leN (bs.take i))), (7, .int .i64 bs.length), (8, .int .i64 i)]) (fun _ => Fr) (fun i => bs.length - i) 0 (Nat.zero_le _) eS (Imp.refl _) ?_))))
 intro i hi
 refine eZ (aZ (cZ bQ ?_))
 refine fZ (bZ (eZ (wQ J (fun hc => ?_) (fun hc => ?_))))
 ·try replace hc := odT hc
  have hi' : i < bs.length := by omega
  have hget : bs[i]? = some bs[i] := by simp [hi']
  generalize bs[i] = x at hget
  have hx := x.toNat_lt
  have hll := leN_lt (bs.take i)
  rw [List.length_take, Nat.min_eq_left (by omega)] at hll
  refine wZ (bZ (eZ (fQ (eZ (aZ (dZ J (gZ J (fZ (bZ (aZ (dZ J (dZ J (dZ J (cZ (nZ underlying32 ti5 J J (by omega) (by omega)) ?_))))))))))))))
  refine cZ (hZ (v := byteV x) ti5 J (SlR.byte hr hget)) (cZ (uQ (c := (x.toNat : Int)) underlying24 J J (wu64 (by omega) (by omega))) ?_)
  refine dZ J (cZ (qX J J wO) (cZ (Yield.shl (m := 8 * i) (c := ((x.toNat * 2 ^ (8 * i) : Nat) : Int)) J J (by omega) (by simp only [IntKind.bits]; omega) (by have := shl_bound hx (show i < 8 by omega); rw [show ((x.toNat : Int) * 2 ^ (8 * i)) = ((x.toNat * 2 ^ (8 * i) : Nat) : Int) by push_cast; rfl]; exact wu64 (by omega) (by omega))) ?_))
  refine cZ (mV (c := ((leN (bs.take (i + 1)) : Nat) : Int)) J J J (by rw [leN_take hget]; exact or_join hll hx (by omega))) ?_
  exact gZ J (fZ (sZ (bZ (aZ (cZ (eQ J J wO) (dZ J (fZ (yQ (i + 1) (show i + 1 ≤ bs.length by omega) (show bs.length - (i + 1) < bs.length - i by omega) eS iM))))))))
 ·try replace hc := odF hc
  refine dX (yZ (yZ (oQ (bZ (eZ (aZ (dZ J (gZ J (fZ (bZ (tZ ?_)))))))))))
  have : i = bs.length := by omega
  subst this
  rw [List.take_length]
  exact xZ J J () trivial J iM
theorem put_spec {v s : Nat} (hs : s ≤ 8) (hv : v < 18446744073709551616) : Ctr prog W0 221 [.int .u64 v, .int .i64 s] Fr (fun _ : Option Addr × Nat => True) (fun p => .slice p.1 (putB v s).length p.2) (fun p => oby 5 p.1 p.2 (putB v s) :: Fr) := by
 refine Ctr.of_body func221 J ntmps221 J (eZ (aZ (gZ J (fZ (bZ (eZ (aZ (gZ J (fZ (bZ (eZ (eZ (aZ (dZ J (cZ (dQ (dV J J) (v' := .int .i64 s) (by congr 1; omega)) ?_)))))))))))))))
 refine dZ J (fZ (bZ (fQ (iX (fun i : Nat × Option Addr × Nat => i.1 ≤ s) (fun i => [(0, .int .u64 v), (5, .slice i.2.1 (putB v i.1).length i.2.2), (8, .int .i64 s), (9, .int .i64 i.1)]) (fun i => oby 5 i.2.1 i.2.2 (putB v i.1) :: Fr) (fun i => s - i.1) (0, none, 0) (Nat.zero_le _) eS (Imp.trans (oby_nil (E := 5)) (Imp.refl _)) ?_))))
 rintro ⟨i, a, c⟩ (hi : i ≤ s)
 have hpl := putB_len v i
 dsimp only
 refine eZ (aZ (cZ bQ ?_))
 refine fZ (bZ (eZ (wQ J (fun hc => ?_) (fun hc => ?_))))
 ·try replace hc := odT hc
  refine wZ (bZ (eZ (fQ (eZ (aZ (dZ J (gZ J (fZ (bZ (aZ (dZ J (dZ J (dZ J (cZ (qX J J wO) (cZ (Yield.shr (m := 8 * i) (c := ((v / 2 ^ (8 * i) : Nat) : Int)) J J (by omega) (by simp only [IntKind.bits]; omega) (by push_cast; rfl)) ?_)))))))))))))))
  refine cZ (uQ (c := ((UInt8.ofNat (v / 2 ^ (8 * i))).toNat : Int)) underlying5 J J (wrap_u8_nat _)) (jQ (gV underlying32 ti5 J J J) J ?_)
  rintro b18 -
  refine jQ (Eff.appendB (bs := putB v i) (ys := [UInt8.ofNat (v / 2 ^ (8 * i))]) J J J underlying32 underlying32 ti5 (by decide) fC (by first | exact SlR.of_osl eX | exact SlR.of_osl_eq eX J J | exact SlR.of_osl_eq eX J (by simp [bytesV, byteV]) | assumption | exact SlAt.old (by assumption) eX | exact RdB.slR (by assumption)) (by simp only [List.length_cons, List.length_nil]; omega)) J ?_
  rintro ⟨a19, c19⟩ -
  rw [← putB_succ]
  exact gZ J (fZ (sZ (bZ (aZ (cZ (eQ J J wO) (dZ J (fZ (yQ (i + 1, a19, c19) (show i + 1 ≤ s by omega) (show s - (i + 1) < s - i by omega) eS iM))))))))
 ·try replace hc := odF hc
  refine dX (yZ (yZ (oQ (bZ (eZ (aZ (dZ J (gZ J (fZ (bZ (tZ ?_)))))))))))
  have : i = s := by omega
  subst this
  exact xZ J J (a, c) trivial J iM
theorem new_spec {n : Nat} (h1 : 1 ≤ n) (h2 : n ≤ 1024) : Ctr prog W0 50 [.int .i64 n] Fr (fun _ : Nat => True) (fun t => .tuple #[.pointer (some ⟨t, 0, none⟩), .int .i64 0]) (fun t => M t n (List.replicate (n * 256) 0) :: Fr) := by
 refine Ctr.of_body func50 J ntmps50 J (eZ (aZ (gZ J (gZ J (fZ (bZ (eZ (eZ (aZ (dZ J (cZ bQ ?_)))))))))))
 refine dZ J (iZ J J (dZ J (iZ J J (cZ fX ?_))))
 refine cZ jZ ?_
 refine fZ (bZ (qZ J (wZ (bZ (eZ (aZ (dZ J (jQ (Eff.makeSlice underlying221 ti261 (by simp [Value.cells]) (by decide) J (by omega) (by omega) (by omega)) J ?_))))))))
 rintro b11 -
 rw [flat_zeros]
 refine cZ (xQ bu223 ti223 J (cells := [_]) J) (jQ (sX J) J ?_)
 rintro b13 -
 exact gZ J (gZ J (fZ (bZ (tZ (pX J J J b13 trivial J (Imp.trans iM (m_close (n := n) ((b11, 0), n) ⟨by simp, h1, h2⟩)))))))
theorem frames_spec {m n : Nat} {bs : List UInt8} : Ctr prog W0 194 [.pointer (some ⟨m, 0, none⟩)] (M m n bs :: Fr) (fun _ : Unit => True) (fun _ => .int .i64 n) (fun _ => M m n bs :: Fr) := by
 refine Ctr.ex Ext.here m_open ?_
 rintro ⟨⟨b, o⟩, c⟩ hlen
 refine Ctr.imp star_open ?_
 dsimp only [MO]
 refine Ctr.of_body func194 J ntmps194 J (eZ (aZ (gZ J (fZ (bZ (eZ (aZ (dZ J (cQ J (pZ fa223_0 J (cZ (rZ ti221 J) ?_)))))))))))
 exact cZ (lZ underlying221 J J) (gZ J (fZ (bZ (tZ (xZ J J () trivial J (Imp.trans iM (m_close ((b, o), c) hlen)))))))
theorem place_ok {m n a s : Nat} {bs : List UInt8} (p : PA) (hn : n ≤ 1024) (hs : s = 1 ∨ s = 2 ∨ s = 4 ∨ s = 8) (ha : a % s = 0) (hb : a + s ≤ n * 256) : Ctr prog W0 219 [.pointer (some ⟨m, 0, none⟩), .int .u32 a, .int .i64 s] (MO m n bs p ++ Fr) (fun _ : Unit => True)
 (fun _ => .tuple #[.slice (some ⟨p.1.1, p.1.2 + a, none⟩) s (256 - a % 256), .int .i64 0]) (fun _ => MO m n bs p ++ Fr) := by
 obtain ⟨⟨b, o⟩, c⟩ := p
 dsimp only [MO, List.cons_append, List.nil_append]
 refine Ctr.of_body func219 J ntmps219 J (eZ (aZ (gZ J (gZ J (fZ (bZ (eZ (fQ (eZ ?_)))))))))
 rcases hs with rfl | rfl | rfl | rfl
 ·refine aZ (dZ J (cZ nQ ?_))
  refine dZ J (iQ J J J J J (iQ J J J J J (cZ jZ ?_)))
  refine dZ J (iQ J J J J J (iQ J J J J J (cZ jZ ?_)))
  refine dZ J (iQ J J J J J (iQ J J J J J (cZ jZ ?_)))
  refine gZ J (fZ (bZ (qZ J (eZ (aZ (dZ J (dZ J (cZ (by first | exact uQ underlying27 J J (wu32 (by omega) (by omega)) | exact uQ underlying27 J J J) ?_))))))))
  refine cZ (tX J J (by omega) (tmod_pos (by omega) (by omega))) ?_
  refine cZ nQ ?_
  refine gZ J (fZ (bZ (qZ J (eZ (aZ (dZ J (cZ (by first | exact uQ underlying3 J J wO | exact uQ underlying3 J J J) ?_)))))))
  refine dZ J (cZ (eQ J J wO) (dZ J (cQ J (pZ fa223_0 J (cZ (rZ ti221 J) ?_)))))
  refine cZ (lZ underlying221 J J) (cZ (qX J J wO) (cZ fX ?_))
  refine gZ J (fZ (bZ (qZ J (wZ (sZ (bZ (eZ (aZ (dZ J (cZ (by first | exact uQ underlying3 J J wO | exact uQ underlying3 J J J) ?_))))))))))
  refine cZ (tX J J (by omega) (tmod_pos (by omega) (by omega))) ?_
  refine gZ J (fZ (bZ (eZ (aZ (dZ J (cQ J (pZ fa223_0 J (cZ (rZ ti221 J) ?_))))))))
  refine dZ J (cZ (kV (c := ((a / 256 : Nat) : Int)) J J (by decide) (quo_nat32 (b := 256) (by decide) (by omega))) ?_)
  refine cZ (nZ underlying221 ti261 J J (by omega) (by omega)) ?_
  refine dZ J (dZ J (dZ J (cZ (eQ J J wO) (cZ (dQ (eV underlying261 ti5 J (Bound.some J) (Bound.some J) (by omega) (by omega) (by omega) (by omega)) (v' := .slice (some ⟨b, o + a, none⟩) 1 (256 - a % 256)) (sl_eq (by omega) (by omega) (by omega))) ?_))))
  exact gZ J (gZ J (fZ (bZ (tZ (pX J J J () trivial J iM)))))
 ·refine aZ (dZ J (cZ nQ ?_))
  refine dZ J (iZ J J (dZ J (iZ J J (cZ nQ ?_))))
  refine cZ jZ ?_
  refine dZ J (iQ J J J J J (iQ J J J J J (cZ jZ ?_)))
  refine dZ J (iQ J J J J J (iQ J J J J J (cZ jZ ?_)))
  refine gZ J (fZ (bZ (qZ J (eZ (aZ (dZ J (dZ J (cZ (by first | exact uQ underlying27 J J (wu32 (by omega) (by omega)) | exact uQ underlying27 J J J) ?_))))))))
  refine cZ (tX J J (by omega) (tmod_pos (by omega) (by omega))) ?_
  refine cZ nQ ?_
  refine gZ J (fZ (bZ (qZ J (eZ (aZ (dZ J (cZ (by first | exact uQ underlying3 J J wO | exact uQ underlying3 J J J) ?_)))))))
  refine dZ J (cZ (eQ J J wO) (dZ J (cQ J (pZ fa223_0 J (cZ (rZ ti221 J) ?_)))))
  refine cZ (lZ underlying221 J J) (cZ (qX J J wO) (cZ fX ?_))
  refine gZ J (fZ (bZ (qZ J (wZ (sZ (bZ (eZ (aZ (dZ J (cZ (by first | exact uQ underlying3 J J wO | exact uQ underlying3 J J J) ?_))))))))))
  refine cZ (tX J J (by omega) (tmod_pos (by omega) (by omega))) ?_
  refine gZ J (fZ (bZ (eZ (aZ (dZ J (cQ J (pZ fa223_0 J (cZ (rZ ti221 J) ?_))))))))
  refine dZ J (cZ (kV (c := ((a / 256 : Nat) : Int)) J J (by decide) (quo_nat32 (b := 256) (by decide) (by omega))) ?_)
  refine cZ (nZ underlying221 ti261 J J (by omega) (by omega)) ?_
  refine dZ J (dZ J (dZ J (cZ (eQ J J wO) (cZ (dQ (eV underlying261 ti5 J (Bound.some J) (Bound.some J) (by omega) (by omega) (by omega) (by omega)) (v' := .slice (some ⟨b, o + a, none⟩) 2 (256 - a % 256)) (sl_eq (by omega) (by omega) (by omega))) ?_))))
  exact gZ J (gZ J (fZ (bZ (tZ (pX J J J () trivial J iM)))))
 ·refine aZ (dZ J (cZ nQ ?_))
  refine dZ J (iZ J J (dZ J (iZ J J (cZ nQ ?_))))
  refine cZ jZ ?_
  refine dZ J (iZ J J (dZ J (iZ J J (cZ nQ ?_))))
  refine cZ jZ ?_
  refine dZ J (iQ J J J J J (iQ J J J J J (cZ jZ ?_)))
  refine gZ J (fZ (bZ (qZ J (eZ (aZ (dZ J (dZ J (cZ (by first | exact uQ underlying27 J J (wu32 (by omega) (by omega)) | exact uQ underlying27 J J J) ?_))))))))
  refine cZ (tX J J (by omega) (tmod_pos (by omega) (by omega))) ?_
  refine cZ nQ ?_
  refine gZ J (fZ (bZ (qZ J (eZ (aZ (dZ J (cZ (by first | exact uQ underlying3 J J wO | exact uQ underlying3 J J J) ?_)))))))
  refine dZ J (cZ (eQ J J wO) (dZ J (cQ J (pZ fa223_0 J (cZ (rZ ti221 J) ?_)))))
  refine cZ (lZ underlying221 J J) (cZ (qX J J wO) (cZ fX ?_))
  refine gZ J (fZ (bZ (qZ J (wZ (sZ (bZ (eZ (aZ (dZ J (cZ (by first | exact uQ underlying3 J J wO | exact uQ underlying3 J J J) ?_))))))))))
  refine cZ (tX J J (by omega) (tmod_pos (by omega) (by omega))) ?_
  refine gZ J (fZ (bZ (eZ (aZ (dZ J (cQ J (pZ fa223_0 J (cZ (rZ ti221 J) ?_))))))))
  refine dZ J (cZ (kV (c := ((a / 256 : Nat) : Int)) J J (by decide) (quo_nat32 (b := 256) (by decide) (by omega))) ?_)
  refine cZ (nZ underlying221 ti261 J J (by omega) (by omega)) ?_
  refine dZ J (dZ J (dZ J (cZ (eQ J J wO) (cZ (dQ (eV underlying261 ti5 J (Bound.some J) (Bound.some J) (by omega) (by omega) (by omega) (by omega)) (v' := .slice (some ⟨b, o + a, none⟩) 4 (256 - a % 256)) (sl_eq (by omega) (by omega) (by omega))) ?_))))
  exact gZ J (gZ J (fZ (bZ (tZ (pX J J J () trivial J iM)))))
 ·refine aZ (dZ J (cZ nQ ?_))
  refine dZ J (iZ J J (dZ J (iZ J J (cZ nQ ?_))))
  refine cZ jZ ?_
  refine dZ J (iZ J J (dZ J (iZ J J (cZ nQ ?_))))
  refine cZ jZ ?_
  refine dZ J (iZ J J (dZ J (iZ J J (cZ nQ ?_))))
  refine cZ jZ ?_
  refine gZ J (fZ (bZ (qZ J (eZ (aZ (dZ J (dZ J (cZ (by first | exact uQ underlying27 J J (wu32 (by omega) (by omega)) | exact uQ underlying27 J J J) ?_))))))))
  refine cZ (tX J J (by omega) (tmod_pos (by omega) (by omega))) ?_
  refine cZ nQ ?_
  refine gZ J (fZ (bZ (qZ J (eZ (aZ (dZ J (cZ (by first | exact uQ underlying3 J J wO | exact uQ underlying3 J J J) ?_)))))))
  refine dZ J (cZ (eQ J J wO) (dZ J (cQ J (pZ fa223_0 J (cZ (rZ ti221 J) ?_)))))
  refine cZ (lZ underlying221 J J) (cZ (qX J J wO) (cZ fX ?_))
  refine gZ J (fZ (bZ (qZ J (wZ (sZ (bZ (eZ (aZ (dZ J (cZ (by first | exact uQ underlying3 J J wO | exact uQ underlying3 J J J) ?_))))))))))
  refine cZ (tX J J (by omega) (tmod_pos (by omega) (by omega))) ?_
  refine gZ J (fZ (bZ (eZ (aZ (dZ J (cQ J (pZ fa223_0 J (cZ (rZ ti221 J) ?_))))))))
  refine dZ J (cZ (kV (c := ((a / 256 : Nat) : Int)) J J (by decide) (quo_nat32 (b := 256) (by decide) (by omega))) ?_)
  refine cZ (nZ underlying221 ti261 J J (by omega) (by omega)) ?_
  refine dZ J (dZ J (dZ J (cZ (eQ J J wO) (cZ (dQ (eV underlying261 ti5 J (Bound.some J) (Bound.some J) (by omega) (by omega) (by omega) (by omega)) (v' := .slice (some ⟨b, o + a, none⟩) 8 (256 - a % 256)) (sl_eq (by omega) (by omega) (by omega))) ?_))))
  exact gZ J (gZ J (fZ (bZ (tZ (pX J J J () trivial J iM)))))
theorem load_ok {m n a s : Nat} {bs : List UInt8} (hs : s = 1 ∨ s = 2 ∨ s = 4 ∨ s = 8) (ha : a % s = 0) (hb : a + s ≤ n * 256) : Ctr prog W0 187 [.pointer (some ⟨m, 0, none⟩), .int .u32 a, .int .i64 s] (M m n bs :: Fr) (fun _ : Unit => True)
 (fun _ => .tuple #[.int .u64 (leN ((bs.drop a).take s)), .int .i64 0]) (fun _ => M m n bs :: Fr) := by
 refine Ctr.ex Ext.here m_open ?_
 rintro ⟨⟨b, o⟩, c⟩ hlen
 refine Ctr.imp star_open ?_
 have hl : ((bs.drop a).take s).length = s := by rw [List.length_take, List.length_drop]; omega
 refine Ctr.of_body func187 J ntmps187 J (eZ (aZ (gZ J (gZ J (fZ (bZ (eZ (aZ (dZ J (dZ J (dZ J (oZ call219 J (Imp.refl _) (place_ok W0 Fr ((b, o), c) hlen.2.2 hs ha hb) J ?_))))))))))))
 rintro ⟨⟩ -
 dsimp only [MO, List.cons_append, List.nil_append]
 refine dZ J (cZ (uZ J J) (cZ (uZ J J) (gZ J (gZ J (fZ (bZ (eZ (eZ (aZ (dZ J (cZ nQ ?_)))))))))))
 refine fZ (bZ (qZ J (wZ (bZ ?_))))
 have hsr : SlR W0 (MO m n bs ((b, o), c) ++ Fr) 1 (some ⟨b, o + a, none⟩) ((bs.drop a).take s).length (bytesV ((bs.drop a).take s)) := by
  rw [hl]
  exact (SlR.of_osl (E := 261) (sz := 256) (c := c) (m := n) (xs := bytesV bs) (Ext.there Ext.here)).part (by rw [bytesV_drop, bytesV_take]) hb
 refine eZ (kX (fun _ _ => trivial) fun (_ : True) => (aZ (dZ J (oZ call220 J (Imp.refl _) ((by have := get_spec W0 (MO m n bs ((b, o), c) ++ Fr) (c := 256 - a % 256) hsr (by omega); rw [hl] at this; exact this)) J ?_))))
 rintro ⟨⟩ -
 exact gZ J (gZ J (fZ (bZ (tZ (pX J J J () trivial J (m_close ((b, o), c) hlen))))))
theorem store_ok {m n a s v : Nat} {bs : List UInt8} (hs : s = 1 ∨ s = 2 ∨ s = 4 ∨ s = 8) (ha : a % s = 0) (hb : a + s ≤ n * 256) (hv : v < 18446744073709551616) : Ctr prog W0 191 [.pointer (some ⟨m, 0, none⟩), .int .u32 a, .int .i64 s, .int .u64 v] (M m n bs :: Fr) (fun _ : Unit => True)
 (fun _ => .int .i64 0) (fun _ => M m n (overB bs a (putB v s)) :: Fr) := by
 refine Ctr.ex Ext.here m_open ?_
 rintro ⟨⟨b, o⟩, c⟩ hlen
 refine Ctr.imp star_open ?_
 have hpl := putB_len v s
 refine Ctr.of_body func191 J ntmps191 J (eZ (aZ (gZ J (fZ (bZ (eZ (aZ (dZ J (dZ J (dZ J (oZ call219 J (Imp.refl _) (place_ok W0 Fr ((b, o), c) hlen.2.2 hs ha hb) J ?_)))))))))))
 rintro ⟨⟩ -
 dsimp only [MO, List.cons_append, List.nil_append]
 refine dZ J (cZ (uZ J J) (cZ (uZ J J) (gZ J (gZ J (fZ (bZ (eZ (eZ (aZ (dZ J (cZ yX ?_)))))))))))
 refine fZ (bZ (gQ J (aZ (dZ J (dZ J (dZ J (oZ call221 J (Imp.refl _) (put_spec W0 _ (v := v) (s := s) (by omega) hv) J ?_)))))))
 rintro ⟨a23, c23⟩ -
 refine jQ (Eff.copyIn (b := b) (o := o) (j := a) (n := s) (k := (putB v s).length) (ys := bytesV (putB v s)) J J J underlying32 ti5 (fC) (by omega) (SlR.of_osl Ext.here) bytesV_one) J ?_
 rintro ⟨⟩ -
 rw [show min (putB v s).length s = (bytesV (putB v s)).length by rw [bytesV_length]; omega, List.take_length, over_bytes]
 exact fZ (bZ (eZ (aZ (dZ J (gZ J (fZ (bZ (tZ (xZ J J () trivial J (Imp.trans iM (m_close ((b, o), c) ⟨by rw [overB_len (by omega)]; exact hlen.1, hlen.2⟩)))))))))))
def frB (bs : List UInt8) (k : Nat) : List UInt8 := (bs.drop (k * 256)).take 256
theorem frB_len {bs : List UInt8} {k n : Nat} (h : bs.length = n * 256) (hk : k < n) : (frB bs k).length = 256 := by unfold frB; rw [List.length_take, List.length_drop]; omega
theorem frame_ok {m n k : Nat} {bs : List UInt8} (hk : k < n) : Ctr prog W0 87 [.pointer (some ⟨m, 0, none⟩), .int .i64 k] (M m n bs :: Fr) (fun _ : Nat => True)
 (fun f => .tuple #[.slice (some ⟨f, 0, none⟩) (frB bs k).length 256, .int .i64 0]) (fun f => oby 261 (some ⟨f, 0, none⟩) 256 (frB bs k) :: M m n bs :: Fr) := by
 refine Ctr.ex Ext.here m_open ?_
 rintro ⟨⟨b, o⟩, c⟩ hlen
 refine Ctr.imp star_open ?_
 have hfl := frB_len hlen.1 hk
 have hn := hlen.2.2
 dsimp only [MO, List.cons_append, List.nil_append]
 refine Ctr.of_body func87 J ntmps87 J (eZ (aZ (gZ J (gZ J (fZ (bZ (eZ (eZ (aZ (dZ J (cZ bQ ?_)))))))))))
 refine dZ J (iZ J J (dZ J (iZ J J (dZ J (iZ J J (cQ J (iZ J J (pZ fa223_0 J (iZ J J (cZ (rZ ti221 J) ?_))))))))))
 refine iZ J J (cZ (lZ underlying221 J J) (iZ J J (cZ zQ ?_)))
 refine cZ jZ ?_
 refine fZ (bZ (qZ J (wZ (bZ (eZ (aZ (dZ J (cQ J (pZ fa223_0 J (cZ (rZ ti221 J) ?_))))))))))
 refine dZ J (cZ (nZ underlying221 ti261 J J (by omega) (by omega)) ?_)
 refine cZ (tQ (vs := bytesV (frB bs k)) ti261 J (by rw [bytesV_length]; exact hfl) ((SlR.of_osl eX).row (k * 256) 256 (by rw [bytesV_drop, bytesV_take]; rfl))) ?_
 refine jQ (lX ti261) J ?_
 rintro b6 -
 refine cX (gX ti261 J J fC (by rw [bytesV_length]; exact hfl) bytesV_one (by simp [Value.cells])) J ?_
 rintro ⟨⟩ -
 refine fZ (bZ (eZ (aZ (cZ (eV underlying261 ti5 J Bound.none Bound.none (by omega) (by omega) (by omega) (by omega)) ?_))))
 refine gZ J (gZ J (fZ (bZ (tZ (pX J J J b6 trivial (by rw [hfl]; rfl) (Imp.trans (Imp.head (fun x hb => blk_osl (n := 256) (by rw [bytesV_length]; exact hfl) x hb)) ?_))))))
 unfold oby
 rw [hfl]
 exact Imp.cons (m_close ((b, o), c) hlen)
def fillB (ws : List UInt8) : List UInt8 := ws ++ List.replicate (256 - ws.length) 0
theorem fillB_len {ws : List UInt8} (h : ws.length ≤ 256) : (fillB ws).length = 256 := by simp [fillB]; omega
theorem over_zero {ws : List UInt8} (h : ws.length ≤ 256) : overB (List.replicate 256 0) 0 ws = fillB ws := by
 unfold overB fillB; rw [List.take_zero, List.nil_append, Nat.zero_add, List.drop_replicate]
theorem fill_ok {m n k : Nat} {bs ws : List UInt8} {a : Option Addr} {c2 : Nat} (hr : RdB W0 Fr a c2 ws) (hk : k < n) (hw : ws.length ≤ 256) : Ctr prog W0 90 [.pointer (some ⟨m, 0, none⟩), .int .i64 k, .slice a ws.length c2] (M m n bs :: Fr) (fun _ : Unit => True)
 (fun _ => .int .i64 0) (fun _ => M m n (overB bs (k * 256) (fillB ws)) :: Fr) := by
 refine Ctr.ex Ext.here m_open ?_
 rintro ⟨⟨b, o⟩, c⟩ hlen
 refine Ctr.imp star_open ?_
 have hfl := fillB_len hw
 have hn := hlen.2.2
 dsimp only [MO, List.cons_append, List.nil_append]
 refine Ctr.of_body func90 J ntmps90 J (eZ (aZ (gZ J (fZ (bZ (eZ (fQ (eZ (aZ (dZ J (cZ bQ ?_)))))))))))
 refine dZ J (iZ J J (dZ J (iZ J J (dZ J (iZ J J (cQ J (iZ J J (pZ fa223_0 J (iZ J J (cZ (rZ ti221 J) ?_))))))))))
 refine iZ J J (cZ (lZ underlying221 J J) (iZ J J (cZ zQ ?_)))
 refine cZ jZ ?_
 refine gZ J (fZ (bZ (qZ J (eZ (aZ (dZ J (cZ (lZ underlying32 J J) (cZ fX ?_))))))))
 refine gZ J (fZ (bZ (qZ J (wZ (sZ (bZ (eZ (aZ (jQ (lX ti261) J ?_)))))))))
 rintro b7 -
 refine fZ (bZ (eZ (mX (Imp.head (fun x hb => blk_osl (n := 256) (by simp [Value.cells]) x hb)) ?_)))
 rw [show (Value.agg (List.replicate 256 (Value.int .u8 0)).toArray).cells.toList = bytesV (List.replicate 256 0) by simp [Value.cells, bytesV, byteV]]
 refine aZ (cZ (eV underlying261 ti5 J Bound.none Bound.none (by omega) (by omega) (by omega) (by omega)) ?_)
 refine dZ J (jQ (Eff.copyIn (b := b7) (o := 0) (j := 0) (n := 256) (k := ws.length) (ys := bytesV ws) J J J underlying32 ti5 Foc.here (by omega) ((hr.imp iM).slR) bytesV_one) J ?_)
 rintro ⟨⟩ -
 rw [show min ws.length 256 = (bytesV ws).length by rw [bytesV_length]; omega, List.take_length, over_bytes, over_zero hw]
 refine fZ (bZ (eZ (sQ (.lo 0 1 (.lo 1 1 (.lo 2 1 (.lo 3 1 (.lo 4 1 (.lo 5 1 (.lo 6 1 (.eff1 7 false (.done))))))))) [7] [] ([]) ([]) mixed (by kernel_rfl) (Imp.none _) (Imp.none _) (mZ J J (rQ J J (aQ J fa223_0 J (kZ J (rZ ti221 J) ?_)))))))
 refine mZ J J (kZ J (tQ (vs := bytesV (fillB ws)) ti261 J (by rw [bytesV_length]; exact hfl) ((SlR.of_osl (a := some ⟨b7, 0, none⟩) eX).row 0 256 (by rw [List.drop_zero, bytesV_take, List.take_of_length_le (by omega)]))) ?_)
 refine kZ J (nZ underlying221 ti261 J J (by omega) (by omega)) ?_
 refine zZ (vQ J J (Eff.storeCells (b := b) (o := o) (i := k * 256) (k := 256) ti261 J J (by simp only [Value.cells]; rw [List.size_toArray, bytesV_length]; exact hfl) fC (by simp only [Value.cells]; exact bytesV_one) (by omega)) J (fun _ => iM) (fun _ => Imp.refl _) (fun _ => iM) ?_)
 rintro ⟨⟩ -
 rw [show (Value.agg (bytesV (fillB ws)).toArray).cells.toList = bytesV (fillB ws) from J, over_bytes]
 exact qQ (bZ (eZ (aZ (gZ J (fZ (bZ (tZ (xZ J J () trivial J (Imp.trans iM (m_close ((b, o), c) ⟨by rw [overB_len (by omega)]; exact hlen.1, hlen.2⟩))))))))))
end
end Go.Proofs.YtphljkplokjonaaGreat.Me
namespace Go.Proofs.YtphljkplokjonaaGreat.Pe
open Go Go.Sl Go.RowKit Go.Proofs Go.Proofs.YtphljkplokjonaaGreat.T Tryz
def entryOf (f p : Int) : Int := if 0 ≤ f ∧ f < 1024 ∧ 0 ≤ p ∧ p ≤ 7 then 1 + p * 2 + f * 256 else 0
def isEntry (w : Int) : Prop := w ≠ 0 ∧ entryOf (w / 256) (w / 2 % 8) = w
instance (w : Int) : Decidable (isEntry w) := by unfold isEntry; infer_instance
theorem wraps_word (n : Int) (h₀ : 0 ≤ n) (h₁ : n < 2 ^ 32) : IntKind.u32.wrap n = n := by rw [IntKind.wrap_u32]; omega
theorem or_entry (f p : Int) (h0 : 0 ≤ f) (h1 : f < 1024) (h2 : 0 ≤ p) (h3 : p ≤ 7) : Go.bits .or .u32 (Go.bits .or .u32 (f * 256) (p * 2)) 1 = 1 + p * 2 + f * 256 := by
 have e1 : Go.bits .or .u32 (f * 256) (p * 2) = f * 256 + p * 2 := bits_join .u32 32 (by decide) wraps_word 8 _ _ (by omega) (by omega) (by omega) (by omega) (by omega) (by omega)
 rw [e1]
 have e2 : Go.bits .or .u32 (f * 256 + p * 2) 1 = f * 256 + p * 2 + 1 := bits_join .u32 32 (by decide) wraps_word 1 _ _ (by omega) (by omega) (by omega) (by omega) (by omega) (by omega)
 rw [e2]; omega
theorem and_seven (x : Int) (h0 : 0 ≤ x) (h1 : x < 2147483648) : Go.bits .and .u32 x 7 = x % 8 :=
 bits_mask .u32 32 (by decide) wraps_word 3 (by decide) x (by omega) (by omega)
theorem entryOf_range (f p : Int) : 0 ≤ entryOf f p ∧ entryOf f p ≤ 262143 := by unfold entryOf; split <;> omega
section
variable (W0 : World) (Fr : List HProp)
theorem entry_spec (f p : Int) : Ctr prog W0 190 [.int .i64 f, .int .i64 p] Fr (fun _ : Unit => True) (fun _ => .int .u32 (entryOf f p)) (fun _ => Fr) := by
 refine Ctr.of_body func190 J ntmps190 J (eZ (aZ (gZ J (fZ (bZ (eZ (eZ ?_)))))))
 rcases (show f < 0 ∨ (0 ≤ f ∧ f ≥ 1024) ∨ (0 ≤ f ∧ f < 1024 ∧ p < 0) ∨ (0 ≤ f ∧ f < 1024 ∧ 0 ≤ p ∧ p > 7) ∨ (0 ≤ f ∧ f < 1024 ∧ 0 ≤ p ∧ p ≤ 7) by omega) with hh | hh | hh | hh | hh
 ·refine aZ (dZ J (cZ bQ ?_))
  refine dZ J (iQ J J J J J (iQ J J J J J (cZ jZ ?_)))
  refine dZ J (iQ J J J J J (iQ J J J J J (cZ jZ ?_)))
  refine dZ J (iQ J J J J J (iQ J J J J J (cZ jZ ?_)))
  exact fZ (bZ (gQ J (eZ (aZ (gZ J (fZ (bZ (tZ (vZ (xZ J J () trivial (by unfold entryOf; rw [if_neg (by omega)]) (Imp.refl _)))))))))))
 ·refine aZ (dZ J (cZ bQ ?_))
  refine dZ J (iZ J J (dZ J (iZ J J (cZ zQ ?_))))
  refine cZ jZ ?_
  refine dZ J (iQ J J J J J (iQ J J J J J (cZ jZ ?_)))
  refine dZ J (iQ J J J J J (iQ J J J J J (cZ jZ ?_)))
  exact fZ (bZ (gQ J (eZ (aZ (gZ J (fZ (bZ (tZ (vZ (xZ J J () trivial (by unfold entryOf; rw [if_neg (by omega)]) (Imp.refl _)))))))))))
 ·refine aZ (dZ J (cZ bQ ?_))
  refine dZ J (iZ J J (dZ J (iZ J J (cZ zQ ?_))))
  refine cZ jZ ?_
  refine dZ J (iZ J J (dZ J (iZ J J (cZ bQ ?_))))
  refine cZ jZ ?_
  refine dZ J (iQ J J J J J (iQ J J J J J (cZ jZ ?_)))
  exact fZ (bZ (gQ J (eZ (aZ (gZ J (fZ (bZ (tZ (vZ (xZ J J () trivial (by unfold entryOf; rw [if_neg (by omega)]) (Imp.refl _)))))))))))
 ·refine aZ (dZ J (cZ bQ ?_))
  refine dZ J (iZ J J (dZ J (iZ J J (cZ zQ ?_))))
  refine cZ jZ ?_
  refine dZ J (iZ J J (dZ J (iZ J J (cZ bQ ?_))))
  refine cZ jZ ?_
  refine dZ J (iZ J J (dZ J (iZ J J (cZ fX ?_))))
  refine cZ jZ ?_
  exact fZ (bZ (gQ J (eZ (aZ (gZ J (fZ (bZ (tZ (vZ (xZ J J () trivial (by unfold entryOf; rw [if_neg (by omega)]) (Imp.refl _)))))))))))
 ·refine aZ (dZ J (cZ bQ ?_))
  refine dZ J (iZ J J (dZ J (iZ J J (cZ zQ ?_))))
  refine cZ jZ ?_
  refine dZ J (iZ J J (dZ J (iZ J J (cZ bQ ?_))))
  refine cZ jZ ?_
  refine dZ J (iZ J J (dZ J (iZ J J (cZ fX ?_))))
  refine cZ jZ ?_
  refine fZ (bZ (qZ J (wZ (bZ (eZ (aZ (dZ J (cZ (by first | exact uQ underlying27 J J (wu32 (by omega) (by omega)) | exact uQ underlying27 J J J) ?_))))))))
  refine cZ (Yield.shl (m := 8) (c := f * 256) J J J (by decide) (wu32 (by omega) (by omega))) ?_
  refine dZ J (cZ (by first | exact uQ underlying27 J J (wu32 (by omega) (by omega)) | exact uQ underlying27 J J J) ?_)
  refine cZ (Yield.shl (m := 1) (c := p * 2) J J J (by decide) (wu32 (by omega) (by omega))) ?_
  refine cZ (mV J J J J) (cZ (mV J J J (or_entry f p (by omega) (by omega) (by omega) (by omega))) ?_)
  exact gZ J (fZ (bZ (tZ (xZ J J () trivial (by unfold entryOf; rw [if_pos (by omega)]) (Imp.refl _)))))
def splitOf (w : Int) : Value := if isEntry w then .tuple #[.int .i64 (w / 256), .int .i64 (w / 2 % 8), .bool true] else .tuple #[.int .i64 0, .int .i64 0, .bool false]
theorem split_yes {w : Int} (h : isEntry w) : splitOf w = .tuple #[.int .i64 (w / 256), .int .i64 (w / 2 % 8), .bool true] := if_pos h
theorem split_no {w : Int} (h : ¬ isEntry w) : splitOf w = .tuple #[.int .i64 0, .int .i64 0, .bool false] := if_neg h
theorem entry_cases (w : Int) : (w = 0 ∧ ¬ isEntry w) ∨ (w ≠ 0 ∧ entryOf (w / 256) (w / 2 % 8) ≠ w ∧ ¬ isEntry w) ∨ (w ≠ 0 ∧ entryOf (w / 256) (w / 2 % 8) = w ∧ isEntry w) := by
 unfold isEntry
 by_cases h0 : w = 0
 ·exact .inl ⟨h0, fun h => h.1 h0⟩
 ·by_cases h1 : entryOf (w / 256) (w / 2 % 8) = w
  ·exact .inr (.inr ⟨h0, h1, h0, h1⟩)
  ·exact .inr (.inl ⟨h0, h1, fun h => h1 h.2⟩)
theorem split_spec (w : Int) (h0 : 0 ≤ w) (h1 : w ≤ 4294967295) : Ctr prog W0 188 [.int .u32 w] Fr (fun _ : Unit => True) (fun _ => splitOf w) (fun _ => Fr) := by
 refine Ctr.of_body func188 J ntmps188 J (eZ (aZ (gZ J (gZ J (gZ J (fZ (bZ (eZ (aZ (dZ J (cZ (Yield.shr (m := 8) (c := w / 256) J J J (by decide) J) (cZ (by first | exact uQ underlying3 J J wO | exact uQ underlying3 J J J) ?_))))))))))))
 refine dZ J (cZ (Yield.shr (m := 1) (c := w / 2) J J J (by decide) J) (cZ (mV J J J (and_seven (w / 2) (by omega) (by omega))) ?_))
 refine cZ (by first | exact uQ underlying3 J J wO | exact uQ underlying3 J J J) ?_
 refine gZ J (gZ J (fZ (bZ (eZ (eZ ?_)))))
 rcases entry_cases w with hh | hh | hh
 ·refine aZ (dZ J (cZ yX ?_))
  refine dZ J (iQ J J J J J (iQ J J J J J (iQ J J J J J (iQ J J J J J (iQ J J J J J (cZ jZ ?_))))))
  exact fZ (bZ (gQ J (eZ (aZ (gZ J (gZ J (gZ J (fZ (bZ (tZ (vZ (QG.ret3 J J J J () trivial (split_no hh.2) (Imp.refl _)))))))))))))
 ·refine aZ (dZ J (cZ yX ?_))
  refine dZ J (iZ J J (dZ J (iZ J J (dZ J (iZ J J (oZ call190 J (Imp.refl _) (entry_spec W0 Fr (w / 256) (w / 2 % 8)) J ?_))))))
  rintro ⟨⟩ -
  refine iZ J J (dZ J (iZ J J (cZ nQ ?_)))
  refine cZ jZ ?_
  exact fZ (bZ (gQ J (eZ (aZ (gZ J (gZ J (gZ J (fZ (bZ (tZ (vZ (QG.ret3 J J J J () trivial (split_no hh.2.2) (Imp.refl _)))))))))))))
 ·refine aZ (dZ J (cZ yX ?_))
  refine dZ J (iZ J J (dZ J (iZ J J (dZ J (iZ J J (oZ call190 J (Imp.refl _) (entry_spec W0 Fr (w / 256) (w / 2 % 8)) J ?_))))))
  rintro ⟨⟩ -
  refine iZ J J (dZ J (iZ J J (cZ nQ ?_)))
  refine cZ jZ ?_
  exact fZ (bZ (qZ J (wZ (bZ (eZ (aZ (dZ J (dZ J (gZ J (gZ J (gZ J (fZ (bZ (tZ (QG.ret3 J J J J () trivial (split_yes hh.2.2) (Imp.refl _))))))))))))))))
end
end Go.Proofs.YtphljkplokjonaaGreat.Pe
namespace Go.Proofs.YtphljkplokjonaaGreat.Pg
open Go Go.Sl Go.RowKit Go.Proofs Go.Proofs.YtphljkplokjonaaGreat.T Go.Proofs.YtphljkplokjonaaGreat.Me Go.Proofs.YtphljkplokjonaaGreat.Pe Tryz
def word (bs : List UInt8) (t i : Nat) : Nat := leN ((bs.drop (t * 256 + i * 4)).take 4)
theorem word_lt (bs : List UInt8) (t i : Nat) : word bs t i < 4294967296 := by
 have h := leN_lt ((bs.drop (t * 256 + i * 4)).take 4)
 have h2 : ((bs.drop (t * 256 + i * 4)).take 4).length ≤ 4 := by rw [List.length_take]; omega
 exact Nat.lt_of_lt_of_le h (Nat.pow_le_pow_right (by decide) (by omega) : 2 ^ (8 * ((bs.drop (t * 256 + i * 4)).take 4).length) ≤ 2 ^ 32)
section
variable (W0 : World) (Fr : List HProp)
theorem slot_spec {t i : Nat} (ht : t ≤ 1024) (hi : i < 64) : Ctr prog W0 192 [.int .i64 t, .int .i64 i] Fr (fun _ : Unit => True) (fun _ => .int .u32 ((t * 256 + i * 4 : Nat) : Int)) (fun _ => Fr) := by
 refine Ctr.of_body func192 J ntmps192 J (eZ (aZ (gZ J (fZ (bZ (eZ (aZ (dZ J (cZ (qX J J wO) (dZ J (cZ (qX J J wO) (cZ (eQ J J wO) (cZ (uQ (c := ((t * 256 + i * 4 : Nat) : Int)) underlying27 J J (by rw [show (t : Int) * 256 + 4 * (i : Int) = ((t * 256 + i * 4 : Nat) : Int) by omega]; exact wu32 (by omega) (by omega))) ?_)))))))))))))
 exact gZ J (fZ (bZ (tZ (xZ J J () trivial J (Imp.refl _)))))
theorem has_spec {m n : Nat} {bs : List UInt8} (k : Int) : Ctr prog W0 143 [.pointer (some ⟨m, 0, none⟩), .int .i64 k] (M m n bs :: Fr) (fun _ : Unit => True) (fun _ => .bool (decide (0 ≤ k ∧ k < n))) (fun _ => M m n bs :: Fr) := by
 refine Ctr.of_body func143 J ntmps143 J (eZ (aZ (gZ J (fZ (bZ (eZ ?_))))))
 rcases (show k < 0 ∨ 0 ≤ k by omega) with hh | hh
 ·refine aZ (dZ J (cZ zQ ?_))
  refine dZ J (iQ J J J J J (iQ J J J J J (iQ J J J J J (iQ J J J J J (cZ jZ ?_)))))
  exact gZ J (fZ (bZ (tZ (xZ J J () trivial (by rw [decide_eq_false (by omega)]) (Imp.refl _)))))
 ·refine aZ (dZ J (cZ zQ ?_))
  refine dZ J (iZ J J (dZ J (iZ J J (dZ J (iZ J J (oZ call194 J (Imp.refl _) (frames_spec W0 _ (m := m) (n := n) (bs := bs)) J ?_))))))
  rintro ⟨⟩ -
  refine iZ J J (cZ (uX J J) (cZ jZ ?_))
  exact gZ J (fZ (bZ (tZ (xZ J J () trivial (by rw [show decide (0 ≤ k ∧ k < (n : Int)) = decide (k < (n : Int)) by simp [hh]]) (Imp.refl _)))))
theorem known_spec (p : Int) : Ctr prog W0 144 [.int .i64 p] Fr (fun _ : Unit => True) (fun _ => .bool (decide (0 ≤ p ∧ p < 4096))) (fun _ => Fr) := by
 refine Ctr.of_body func144 J ntmps144 J (eZ (aZ (gZ J (fZ (bZ (eZ ?_))))))
 rcases (show p < 0 ∨ 0 ≤ p by omega) with hh | hh
 ·refine aZ (dZ J (cZ zQ ?_))
  refine dZ J (iQ J J J J J (iQ J J J J J (cZ jZ ?_)))
  exact gZ J (fZ (bZ (tZ (xZ J J () trivial (by rw [decide_eq_false (by omega)]) (Imp.refl _)))))
 ·refine aZ (dZ J (cZ zQ ?_))
  refine dZ J (iZ J J (dZ J (iZ J J (cZ (uX J J) (cZ jZ ?_)))))
  exact gZ J (fZ (bZ (tZ (xZ J J () trivial (by rw [show decide (0 ≤ p ∧ p < 4096) = decide (p < 4096) by simp [hh]]) (Imp.refl _)))))
def sp (w : Nat) : Int × Int × Bool := if isEntry w then ((w / 256 : Nat), (w / 2 % 8 : Nat), true) else (0, 0, false)
theorem split_sp (w : Nat) : splitOf (w : Int) = .tuple #[.int .i64 (sp w).1, .int .i64 (sp w).2.1, .bool (sp w).2.2] := by
 unfold sp splitOf
 split <;> rfl
theorem read_spec {m n t i : Nat} {bs : List UInt8} (ht : t < n) (hi : i < 64) : Ctr prog W0 146 [.pointer (some ⟨m, 0, none⟩), .int .i64 t, .int .i64 i] (M m n bs :: Fr) (fun _ : Unit => True) (fun _ => .tuple #[.int .i64 (sp (word bs t i)).1, .int .i64 (sp (word bs t i)).2.1, .bool (sp (word bs t i)).2.2]) (fun _ => M m n bs :: Fr) := by
 refine Ctr.pure (fun w hw => m_facts (m := m) (n := n) (bs := bs) Ext.here w hw) ?_
 rintro ⟨hl, hn1, hn2⟩
 have hw := word_lt bs t i
 refine Ctr.of_body func146 J ntmps146 J (eZ (aZ (gZ J (gZ J (gZ J (fZ (bZ (eZ (aZ (dZ J (dZ J (dZ J (oZ call192 J (Imp.refl _) (slot_spec W0 _ (t := t) (i := i) (by omega) hi) J ?_)))))))))))))
 rintro ⟨⟩ -
 refine oZ call187 J (Imp.refl _) (load_ok W0 _ (m := m) (n := n) (a := t * 256 + i * 4) (s := 4) (bs := bs) (by omega) (by omega) (by omega)) J ?_
 rintro ⟨⟩ -
 refine dZ J (cZ (uZ J J) (cZ (uZ J J) (gZ J (gZ J (fZ (bZ (eZ (eZ (aZ (dZ J (cZ nQ ?_)))))))))))
 refine fZ (bZ (qZ J (wZ (bZ (eZ (aZ (dZ J (cZ (uQ (c := (word bs t i : Int)) underlying27 J J (wu32 (by omega) (by show ((word bs t i : Nat) : Int) ≤ _; omega))) ?_))))))))
 refine oZ call188 J (Imp.refl _) (split_spec W0 _ (word bs t i : Int) (by omega) (by omega)) J ?_
 rintro ⟨⟩ -
 rw [split_sp]
 exact cZ (uZ J J) (cZ (uZ J J) (cZ (uZ J J) (gZ J (gZ J (gZ J (fZ (bZ (tZ (fV [.int .i64 (sp (word bs t i)).1, .int .i64 (sp (word bs t i)).2.1, .bool (sp (word bs t i)).2.2] J ⟨rfl, rfl, rfl, trivial⟩ () trivial J (Imp.refl _))))))))))
end
def secR (n : Nat) (bs : List UInt8) (root p : Nat) : Int × Bool := ((sp (word bs root (p / 64))).1, (sp (word bs root (p / 64))).2.2 && decide (0 ≤ (sp (word bs root (p / 64))).1 ∧ (sp (word bs root (p / 64))).1 < n))
theorem secR_in {n : Nat} {bs : List UInt8} {root p : Nat} (h : (secR n bs root p).2 = true) : ∃ t : Nat, (secR n bs root p).1 = t ∧ t < n := by
 unfold secR at h ⊢
 simp only [Bool.and_eq_true, decide_eq_true_eq] at h
 exact ⟨(sp (word bs root (p / 64))).1.toNat, by dsimp only; omega, by omega⟩
def walkR (n : Nat) (bs : List UInt8) (root p : Nat) : Int × Int × Int :=
 if (secR n bs root p).2 = true ∧ (sp (word bs (secR n bs root p).1.toNat (p % 64))).2.2 = true then ((sp (word bs (secR n bs root p).1.toNat (p % 64))).1, (sp (word bs (secR n bs root p).1.toNat (p % 64))).2.1, 0) else (0, 0, 90)
theorem tmod_nat (a b : Nat) (h : 0 < b) : (a : Int).tmod (b : Int) = ((a % b : Nat) : Int) := by
 rw [tmod_pos (by omega) (by omega)]; rfl
section
variable (W0 : World) (Fr : List HProp)
theorem second_spec {m n root p : Nat} {bs : List UInt8} (hr : root < n) (hp : p < 4096) : Ctr prog W0 145 [.pointer (some ⟨m, 0, none⟩), .int .i64 root, .int .i64 p] (M m n bs :: Fr) (fun _ : Unit => True) (fun _ => .tuple #[.int .i64 (secR n bs root p).1, .bool (secR n bs root p).2]) (fun _ => M m n bs :: Fr) := by
 have hi : p / 64 < 64 := by omega
 generalize hx : sp (word bs root (p / 64)) = x
 obtain ⟨x1, x2, x3⟩ := x
 have hsec : secR n bs root p = (x1, x3 && decide (0 ≤ x1 ∧ x1 < n)) := by unfold secR; rw [hx]
 rw [hsec]
 refine Ctr.of_body func145 J ntmps145 J (eZ (aZ (gZ J (gZ J (fZ (bZ (eZ (aZ (dZ J (dZ J (dZ J (cZ (kV (c := ((p / 64 : Nat) : Int)) J J (by decide) (quo_nat (b := 64) (by decide) (by omega))) ?_))))))))))))
 refine oZ call146 J (Imp.refl _) (read_spec W0 _ (m := m) (n := n) (t := root) (i := p / 64) (bs := bs) hr hi) J ?_
 rintro ⟨⟩ -
 rw [hx]
 dsimp only
 refine dZ J (cZ (uZ J J) (cZ (uZ J J) (cZ (uZ J J) (gZ J (gZ J (gZ J (fZ (bZ (eZ ?_)))))))))
 cases x3
 ·refine aZ (dZ J (dZ J (dZ J (iQ J J J J J (iQ J J J J J (iQ J J J J J (cZ jZ ?_)))))))
  exact gZ J (gZ J (fZ (bZ (tZ (pX J J J () trivial J (Imp.refl _))))))
 ·refine aZ (dZ J (dZ J (dZ J (iZ J J (dZ J (iZ J J (dZ J (iZ J J (oZ call143 J (Imp.refl _) (has_spec W0 _ (m := m) (n := n) (bs := bs) x1) J ?_)))))))))
  rintro ⟨⟩ -
  refine cZ jZ ?_
  exact gZ J (gZ J (fZ (bZ (tZ (pX J J J () trivial J (Imp.refl _))))))
theorem walk_bad {m n : Nat} {root p : Int} {bs : List UInt8} (h : ¬(0 ≤ root ∧ root < n) ∨ ¬(0 ≤ p ∧ p < 4096)) : Ctr prog W0 84 [.pointer (some ⟨m, 0, none⟩), .int .i64 root, .int .i64 p] (M m n bs :: Fr) (fun _ : Unit => True) (fun _ => .tuple #[.int .i64 0, .int .i64 0, .int .i64 2]) (fun _ => M m n bs :: Fr) := by
 refine Ctr.of_body func84 J ntmps84 J (eZ (aZ (gZ J (gZ J (gZ J (fZ (bZ (eZ (eZ ?_)))))))))
 rcases (show ¬(0 ≤ root ∧ root < (n : Int)) ∨ ((0 ≤ root ∧ root < (n : Int)) ∧ ¬(0 ≤ p ∧ p < 4096)) by omega) with hh | hh
 ·refine aZ (dZ J (dZ J (oZ call143 J (Imp.refl _) (has_spec W0 _ (m := m) (n := n) (bs := bs) root) J ?_)))
  rintro ⟨⟩ -
  first | rw [decide_eq_false hh] | rw [decide_eq_true hh.1]
  refine cZ (pQ J) (dZ J (iQ J J J J J (iQ J J J J J (iQ J J J J J (cZ jZ ?_)))))
  exact fZ (bZ (gQ J (eZ (aZ (gZ J (gZ J (gZ J (fZ (bZ (tZ (vZ (fV [.int .i64 0, .int .i64 0, .int .i64 2] J ⟨rfl, rfl, rfl, trivial⟩ () trivial J (Imp.refl _)))))))))))))
 ·refine aZ (dZ J (dZ J (oZ call143 J (Imp.refl _) (has_spec W0 _ (m := m) (n := n) (bs := bs) root) J ?_)))
  rintro ⟨⟩ -
  first | rw [decide_eq_false hh] | rw [decide_eq_true hh.1]
  refine cZ (pQ J) (dZ J (iZ J J (dZ J (iZ J J (oZ call144 J (Imp.refl _) (known_spec W0 _ p) J ?_)))))
  rintro ⟨⟩ -
  rw [decide_eq_false hh.2]
  refine iZ J J (cZ (pQ J) (cZ jZ ?_))
  exact fZ (bZ (gQ J (eZ (aZ (gZ J (gZ J (gZ J (fZ (bZ (tZ (vZ (fV [.int .i64 0, .int .i64 0, .int .i64 2] J ⟨rfl, rfl, rfl, trivial⟩ () trivial J (Imp.refl _)))))))))))))
theorem walk_spec {m n root p : Nat} {bs : List UInt8} (hr : root < n) (hp : p < 4096) : Ctr prog W0 84 [.pointer (some ⟨m, 0, none⟩), .int .i64 root, .int .i64 p] (M m n bs :: Fr) (fun _ : Unit => True) (fun _ => .tuple #[.int .i64 (walkR n bs root p).1, .int .i64 (walkR n bs root p).2.1, .int .i64 (walkR n bs root p).2.2]) (fun _ => M m n bs :: Fr) := by
 have hi : p % 64 < 64 := Nat.mod_lt _ (by decide)
 refine Ctr.of_body func84 J ntmps84 J (eZ (aZ (gZ J (gZ J (gZ J (fZ (bZ (eZ (eZ (aZ (dZ J (dZ J (oZ call143 J (Imp.refl _) (has_spec W0 _ (m := m) (n := n) (bs := bs) (root : Int)) J ?_)))))))))))))
 rintro ⟨⟩ -
 rw [decide_eq_true (p := 0 ≤ (root : Int) ∧ (root : Int) < (n : Int)) (by omega)]
 refine cZ (pQ J) (dZ J (iZ J J (dZ J (iZ J J (oZ call144 J (Imp.refl _) (known_spec W0 _ (p : Int)) J ?_)))))
 rintro ⟨⟩ -
 rw [decide_eq_true (p := 0 ≤ (p : Int) ∧ (p : Int) < 4096) (by omega)]
 refine iZ J J (cZ (pQ J) (cZ jZ ?_))
 refine fZ (bZ (qZ J (wZ (bZ (eZ (eZ (aZ (dZ J (dZ J (dZ J (oZ call145 J (Imp.refl _) (second_spec W0 _ (m := m) (n := n) (root := root) (p := p) (bs := bs) hr hp) J ?_)))))))))))
 rintro ⟨⟩ -
 refine dZ J (cZ (uZ J J) (cZ (uZ J J) (gZ J (gZ J (fZ (bZ (eZ ?_)))))))
 rcases hs2 : (secR n bs root p).2
 ·have hw : walkR n bs root p = (0, 0, 90) := by unfold walkR; rw [if_neg (by rw [hs2]; simp)]
  rw [hw]
  refine aZ (dZ J (fZ (bZ (qZ J (wZ (bZ (eZ (aZ (gZ J (gZ J (gZ J (fZ (bZ (tZ ?_))))))))))))))
  first | exact fV [.int .i64 0, .int .i64 0, .int .i64 90] J ⟨rfl, rfl, rfl, trivial⟩ () trivial (by first | rfl | (rw [hw]; rfl)) (Imp.refl _) | exact fV [.int .i64 x1, .int .i64 x2, .int .i64 0] J ⟨rfl, rfl, rfl, trivial⟩ () trivial (by rw [hw]; rfl) (Imp.refl _)
 ·obtain ⟨t, ht, htn⟩ := secR_in hs2
  rw [ht]
  generalize hx : sp (word bs t (p % 64)) = x
  obtain ⟨x1, x2, x3⟩ := x
  have hw : walkR n bs root p = if x3 = true then (x1, x2, 0) else (0, 0, 90) := by unfold walkR; rw [ht, Int.toNat_natCast, hx, hs2]; simp
  refine aZ (dZ J (fZ (bZ (gQ J (eZ (aZ (dZ J (dZ J (dZ J (cZ (tX (c := ((p % 64 : Nat) : Int)) J J (by decide) (tmod_nat p 64 (by decide))) (oZ call146 J (Imp.refl _) (read_spec W0 _ (m := m) (n := n) (t := t) (i := p % 64) (bs := bs) htn hi) J ?_)))))))))))
  rintro ⟨⟩ -
  rw [hx]
  dsimp only
  refine dZ J (cZ (uZ J J) (cZ (uZ J J) (cZ (uZ J J) (gZ J (gZ J (gZ J (fZ (bZ (eZ ?_)))))))))
  cases x3
  ·refine aZ (dZ J (fZ (bZ (qZ J (wZ (bZ (eZ (aZ (gZ J (gZ J (gZ J (fZ (bZ (tZ ?_))))))))))))))
   first | exact fV [.int .i64 0, .int .i64 0, .int .i64 90] J ⟨rfl, rfl, rfl, trivial⟩ () trivial (by first | rfl | (rw [hw]; rfl)) (Imp.refl _) | exact fV [.int .i64 x1, .int .i64 x2, .int .i64 0] J ⟨rfl, rfl, rfl, trivial⟩ () trivial (by rw [hw]; rfl) (Imp.refl _)
  ·refine aZ (dZ J (fZ (bZ (gQ J (eZ (aZ (dZ J (dZ J (gZ J (gZ J (gZ J (fZ (bZ (tZ (vZ ?_)))))))))))))))
   first | exact fV [.int .i64 0, .int .i64 0, .int .i64 90] J ⟨rfl, rfl, rfl, trivial⟩ () trivial (by first | rfl | (rw [hw]; rfl)) (Imp.refl _) | exact fV [.int .i64 x1, .int .i64 x2, .int .i64 0] J ⟨rfl, rfl, rfl, trivial⟩ () trivial (by rw [hw]; rfl) (Imp.refl _)
end
end Go.Proofs.YtphljkplokjonaaGreat.Pg
