/- Rules for steps of the model, and what functions of the program do. -/
import Derived.Test.YtphljkplokjonaaGreatZp1
import Derived.WideKeyArgs
import Derived.ProofKit
import Derived.OpenShut
import Derived.ChangeOld
import Derived.SizedLaws
import Derived.KernelRfl
import Derived.Scope
import Derived.Recover
import Derived.Test.YtphljkplokjonaaGreatProg
set_option linter.unusedVariables false
set_option linter.unusedSimpArgs false
set_option linter.unusedSectionVars false
set_option maxRecDepth 100000
namespace Go.Sl
open Go Go.RowKit
def byteV (b : UInt8) : Value := .int .u8 b.toNat
def bytesV (bs : List UInt8) : List Value := bs.map byteV
theorem bytesV_length (bs : List UInt8) : (bytesV bs).length = bs.length := by simp [bytesV]
theorem bytesV_append (a b : List UInt8) : bytesV (a ++ b) = bytesV a ++ bytesV b := by simp [bytesV]
theorem bytesV_one {bs : List UInt8} : ∀ v ∈ bytesV bs, one v = true := by
 intro v hv; simp only [bytesV, List.mem_map] at hv; obtain ⟨b, _, rfl⟩ := hv; rfl
theorem bytesV_get {bs : List UInt8} {i : Nat} {b : UInt8} (h : bs[i]? = some b) : (bytesV bs)[i]? = some (byteV b) := by simp [bytesV, h]
theorem bytesV_take (bs : List UInt8) (k : Nat) : (bytesV bs).take k = bytesV (bs.take k) := by simp [bytesV]
theorem bytesV_drop (bs : List UInt8) (k : Nat) : (bytesV bs).drop k = bytesV (bs.drop k) := by simp [bytesV]
theorem bytesV_inj {a b : List UInt8} (h : bytesV a = bytesV b) : a = b := by
 induction a generalizing b with
 | nil => cases b with
  | nil => rfl
  | cons y b => simp [bytesV] at h
 | cons x a ih => cases b with
  | nil => simp [bytesV] at h
  | cons y b =>
   simp only [bytesV, List.map_cons, List.cons.injEq, byteV, Value.int.injEq, true_and] at h
   obtain ⟨h1, h2⟩ := h
   rw [ih h2, UInt8.toNat_inj.1 (by omega : x.toNat = y.toNat)]
def strOf (bs : List UInt8) : ByteArray := ⟨bs.toArray⟩
section
variable {P : Program} {W0 : World} {e : Env} {G R : List HProp} {ty : TypeId} {E sz : Nat} {a : Option Addr} {c m : Nat} {xs : List Value}
def Env.evps (e : Env) : List (Nat × Operand) → Option (List (Nat × Value))
 | [] => some []
 | (i, x) :: l => match e.ev x, e.evps l with
  | some v, some vs => some ((i, v) :: vs)
  | _, _ => none
theorem Agrees.evps {ρ : Operand → Value} (h : Agrees e ρ) : ∀ {l : List (Nat × Operand)} {vs : List (Nat × Value)}, e.evps l = some vs → (l.map fun (i, x) => (i, ρ x)) = vs
 | [], vs, q => by simpa [Env.evps] using q
 | (i, x) :: l, vs, q => by
  simp only [Env.evps] at q
  split at q
  ·rename_i v us h1 h2
   simp only [Option.some.injEq] at q
   subst q
   simp [h x v h1, h.evps h2]
  ·cases q
theorem Sat.new_osl {w : World} {cs : List Value} {el : TypeId} (hw : Sat W0 G w) (hl : cs.length = m * sz) (k : Nat) :
 Sat W0 (osl el sz (some ⟨w.heap.size, 0, none⟩) m m cs :: G) { w with heap := w.heap.push (.cells cs.toArray el (0, 0)), drawn := k } := by
 refine (Sat.draw (Sat.new hw (.cells cs.toArray el (0, 0))) k).imp (Imp.head fun f hf => ?_)
 exact ⟨hl, Nat.le_refl _, .inr ⟨w.heap.size, 0, cs, (0, 0), rfl, hf, NoFr.zero _, by omega, by rw [List.drop_zero, ← hl, List.take_length]⟩⟩
theorem Eff.buildSlice {t el : TypeId} {len : Nat} {parts : List (Nat × Operand)} {pvs : List (Nat × Value)} {by' : Nat} {z : Value} {ag : Bool} {cells : List Value}
 (hu : P.underlying t = some (.slice el)) (ht : TI P el sz by' z ag) (hp : e.evps parts = some pvs) (hsz : len * sz ≤ 2 ^ 24)
 (hf : Instr.fill (fun i => some (i * sz, sz)) ((Array.range (len * sz)).map ((if len * sz = 0 then #[] else z.cells)[· % (if len * sz = 0 then #[] else z.cells).size]!)) pvs = some cells.toArray) (hl : cells.length = len * sz) :
 Eff P W0 (.buildSlice t len parts.toArray) ty e G (fun _ : Nat => True) (fun b => .slice (some ⟨b, 0, none⟩) len len) (fun b => osl el sz (some ⟨b, 0, none⟩) len len cells :: G) := fun ρ hρ w hw _ _ _ _ => by
 have h1 : (Instr.buildSlice t len (parts.toArray.map fun (i, x) => (i, ρ x))).run P w = .ok (.slice (some ⟨w.heap.size, 0, none⟩) len len) { w with heap := w.heap.push (.cells cells.toArray el (0, 0)) } := by
  unfold Instr.buildSlice
  have hq : (parts.toArray.map fun (i, x) => (i, ρ x)) = pvs.toArray := by
   rw [List.map_toArray, hρ.evps hp]
  rw [hq]
  show ((underlying t).bind _).run P w = _
  rw [run_bind_ok (run_underlying hu w)]
  simp only []
  show ((sizeOf el).bind _).run P w = _
  rw [run_bind_ok (ht.run_size w)]
  simp only [bind]
  rw [if_neg (by omega)]
  have hz : ((if len * sz = 0 then Pure.pure #[] else (zeroValue el).bind fun v => Pure.pure v.cells : Sem (Array Value))).run P w = .ok (if len * sz = 0 then #[] else z.cells) w := by
   split
   ·rfl
   ·rw [run_bind_ok (ht.run_zero w)]; rfl
  have hz' : ∀ (f : Array Value → Sem Value), (if len * sz = 0 then (Pure.pure #[] : Sem (Array Value)).bind f else (zeroValue el).bind fun v => (Pure.pure v.cells : Sem (Array Value)).bind f).run P w = (f (if len * sz = 0 then #[] else z.cells)).run P w := by
   intro f
   split
   ·rfl
   ·rw [run_bind_ok (ht.run_zero w)]; rfl
  first
   | rw [hz']
   | rw [run_bind_ok hz]
  rw [hf]
  simp only [newRow, newObj, bind, Sem.bind, pure, Sem.run]
 refine ⟨w.heap.size, _, trivial, Sat.new_osl hw hl w.drawn, .inl ?_⟩
 show ((Instr.buildSlice t len (parts.toArray.map fun (i, x) => (i, ρ x))).bind _).run P w = _
 rw [run_bind_ok h1]; rfl
theorem Eff.makeSlice {t el : TypeId} {x : Operand} {n : Int} {by' : Nat} {z : Value} {ag : Bool}
 (hu : P.underlying t = some (.slice el)) (ht : TI P el sz by' z ag) (hz : z.cells.size = sz) (hsz : 0 < sz) (hx : e.ev x = some (.int .i64 n)) (h0 : 0 ≤ n) (hb : by' * n ≤ 2 ^ 48) (hn : n ≤ 9223372036854775807) :
 Eff P W0 (.makeSlice t x x) ty e G (fun _ : Nat => True) (fun b => .slice (some ⟨b, 0, none⟩) n.toNat n.toNat) (fun b => osl el sz (some ⟨b, 0, none⟩) n.toNat n.toNat ((List.replicate n.toNat z.cells.toList).flatten) :: G) := fun ρ hρ w hw _ _ _ _ => by
 have hcells : ∀ (q : Nat), ((Array.range (q * sz)).map (z.cells[· % z.cells.size]!)) = ((List.replicate q z.cells.toList).flatten).toArray := by
  intro q
  apply Array.ext'
  simp only [Array.toList_map, Array.toList_range]
  induction q with
  | zero => simp
  | succ q ih =>
   rw [List.replicate_succ', List.flatten_append, ← ih, Nat.succ_mul, List.range_add, List.map_append]
   congr 1
   simp only [List.map_map, List.flatten_cons, List.flatten_nil, List.append_nil]
   apply List.ext_getElem
   ·simp [hz]
   ·intro i h1 h2
    simp only [List.length_map, List.length_range] at h1
    simp only [List.getElem_map, List.getElem_range, Function.comp, hz, Array.getElem_toList]
    have : (q * sz + i) % sz = i := by rw [Nat.mul_comm, Nat.mul_add_mod]; exact Nat.mod_eq_of_lt h1
    rw [this, getElem!_pos z.cells i (by rw [hz]; exact h1)]
 have h1 : (Instr.makeSlice t (.int .i64 n) (.int .i64 n)).run P w = .ok (.slice (some ⟨w.heap.size, 0, none⟩) n.toNat n.toNat) { w with heap := w.heap.push (.cells ((List.replicate n.toNat z.cells.toList).flatten).toArray el (0, 0)) } := by
  unfold Instr.makeSlice
  show ((underlying t).bind _).run P w = _
  rw [run_bind_ok (run_underlying hu w)]
  simp only [asInt, asIntOf, bind, pure, Sem.bind]
  obtain ⟨i, hi, hi1, hi2, hi3⟩ := ht.run_info w
  rw [run_bind_ok hi]
  have hw64 : IntKind.i64.wrap n = n := w64 (by omega) hn
  simp only [hw64, hi2]
  rw [if_neg (by simp; omega)]
  rw [run_bind_ok (show (askRoom (n.toNat * by')).run P w = .ok () w by unfold askRoom; split <;> simp [mark, pure, Sem.run])]
  rw [run_bind_ok (ht.run_size w)]
  by_cases hq : n.toNat * sz = 0
  ·have hn0 : n.toNat = 0 := by
    rcases Nat.mul_eq_zero.1 hq with h | h
    ·exact h
    ·omega
   rw [if_pos hq]
   have hr0 : Array.range 0 = #[] := rfl
   simp [hn0, hr0, newRow, newObj, bind, Sem.bind, pure, Sem.run]
  ·rw [if_neg hq, run_bind_ok (ht.run_zero w)]
   simp only [newRow, newObj, bind, Sem.bind, pure, Sem.run, hcells]
 refine ⟨w.heap.size, _, trivial, Sat.new_osl hw ?_ w.drawn, .inl ?_⟩
 ·simp [hz]
 ·show ((Instr.makeSlice t (ρ x) (ρ x)).bind _).run P w = _
  rw [hρ x _ hx, run_bind_ok h1]; rfl
theorem Eff.copy {x y : Operand} {st st2 el : TypeId} {a2 : Option Addr} {k c2 by' : Nat} {z : Value} {ag : Bool} {ys : List Value} {put : HProp → List HProp} {ats : Array TypeId}
 (hx : e.ev x = some (.slice a m c)) (hy : e.ev y = some (.slice a2 k c2)) (hats : ats = #[st, st2]) (hu : P.underlying st = some (.slice el)) (ht : TI P el sz by' z ag)
 (fc : Foc G (osl el sz a c m xs) put) (hr : SlR W0 G sz a2 k ys) (hone : ∀ v ∈ ys, one v = true) :
 Eff P W0 (.call { callee := .builtin .copy, args := #[x, y], argTypes := ats }) ty e G (fun _ : Unit => True) (fun _ => .int .i64 (min k m : Nat)) (fun _ => put (osl el sz a c m (over xs 0 (ys.take (min k m * sz))))) := fun ρ hρ w hw _ _ _ _ => by
 subst hats
 obtain ⟨R, hR⟩ := foc_ext fc
 have hy0 := hr w hw
 have hevs : e.evs [x, y] = some [.slice a m c, .slice a2 k c2] := by simp only [Env.evs, hx, hy]
 obtain ⟨f, hf, hA⟩ := Sat.ext hR hw
 obtain ⟨h1, h2, h3⟩ := hA
 have hpre : ∀ (w' : World) , (match a with | some ad => (storeCells ad (ys.take (min k m * sz))).run P w = .ok () w' | none => w' = w) →
  (Builtin.copy_ #[st, st2] ty #[.slice a m c, .slice a2 k c2]).run P w = .ok (.int .i64 (min k m : Nat)) w' := by
  intro w' hst
  unfold Builtin.copy_
  simp only [List.getElem?_toArray, List.getElem?_cons_zero, List.getElem?_cons_succ]
  show ((underlying st).bind _).run P w = _
  rw [run_bind_ok (run_underlying hu w)]
  simp only [bind]
  rw [run_bind_ok (show (Builtin.lenOf (.slice a2 k c2)).run P w = .ok k w by rfl)]
  rw [run_bind_ok (ht.run_size w)]
  rw [run_bind_ok (run_firstCells_le hy0 (Nat.min_le_left k m))]
  cases a with
  | none => simp only at hst; subst hst; rfl
  | some ad => simp only at hst; simp only []; rw [run_bind_ok hst]; rfl
 have hlen : (ys.take (min k m * sz)).length = min k m * sz := by
  rw [List.length_take, hy0.1]
  exact Nat.min_eq_left (Nat.mul_le_mul_right _ (Nat.min_le_left k m))
 have hle : min k m * sz ≤ m * sz := Nat.mul_le_mul_right _ (Nat.min_le_right k m)
 have hcm : m * sz ≤ c * sz := Nat.mul_le_mul_right _ h2
 rcases h3 with ⟨rfl, rfl, rfl⟩ | ⟨b, o, cs, fr, rfl, hbk, hfr, ho, htk⟩
 ·have hm : m = 0 := by omega
  subst hm
  refine ⟨(), w, trivial, ?_, .inl (run_built (s := Builtin.copy_ #[st, st2] ty #[.slice none 0 0, .slice a2 k c2]) hρ hevs (fun _ => rfl) (hpre w J))⟩
  have : over [] 0 (ys.take (min k 0 * sz)) = [] := by simp [over]
  rw [this]
  obtain ⟨R', e', hp⟩ := fc
  exact hw.imp (Imp.trans e'.1 (hp _))
 ·have hwb := hf _ _ hbk
  refine ⟨(), setObjW w b (.cells (over cs o (ys.take (min k m * sz))).toArray el fr), trivial, ?_, .inl (run_built (s := Builtin.copy_ #[st, st2] ty #[.slice (some ⟨b, o, none⟩) m c, .slice a2 k c2]) hρ hevs (fun _ => rfl) (hpre _ ?_))⟩
  ·refine Sat.write (b := b) (o := .cells cs.toArray el fr) fc hw hwb ?_
   intro f' hle' hf'
   obtain ⟨h1', _, h3'⟩ := hf'
   rcases h3' with ⟨h, _⟩ | ⟨b', o', cs', fr', hq, hbk', _, _, htk'⟩
   ·cases h
   ·cases hq
    have hsame : some (Obj.cells cs'.toArray el fr') = some (Obj.cells cs.toArray el fr) := (hle' _ _ hbk').symm.trans hwb
    simp only [Option.some.injEq, Obj.cells.injEq] at hsame
    obtain ⟨q1, _, q3⟩ := hsame
    have q1 := List.toArray_inj q1
    subst q1 q3
    have hol : (over cs' o (ys.take (min k m * sz))).length = cs'.length := over_length (by omega)
    refine ⟨hbk', ?_, h2, .inr ⟨b, o, over cs' o (ys.take (min k m * sz)), fr', rfl, by simp [updH], by rw [hol]; exact hfr, by rw [hol]; exact ho, ?_⟩⟩
    ·rw [over_length (by omega)]; exact h1
    ·subst htk
     unfold over
     have e1 : o - (List.take o cs').length = 0 := by simp; omega
     simp only [List.append_assoc, List.drop_append, e1, List.drop_zero, List.take_zero, List.nil_append, Nat.zero_add]
     rw [List.drop_eq_nil_of_le (by simp; omega : (List.take o cs').length ≤ o)]
     simp only [List.nil_append]
     generalize hY : ys.take (min k m * sz) = Y at *
     rw [List.take_append, List.take_of_length_le (by omega : Y.length ≤ m * sz)]
     congr 1
     rw [List.drop_take, List.drop_drop, Nat.zero_sub, Nat.add_zero]
     try rw [List.drop_drop]
  ·have := run_storeCells (P := P) (b := b) (o := o) (t := el) (ys.take (min k m * sz)) 0 w cs hwb hfr (by omega) (fun v hv => hone v (List.mem_of_mem_take hv))
   simpa using this
theorem run_toStr {w : World} {cc : Nat} {bs : List UInt8} (h : SlAt w 1 a m (bytesV bs)) : (Conv.bytesToString (.slice a m cc)).run P w = .ok (.string (strOf bs)) w := by
 obtain ⟨h1, h2⟩ := h
 rw [bytesV_length] at h1
 have loop : ∀ (l : List UInt8) (acc : ByteArray), (forIn (m := Sem) (bytesV l) acc (fun c s => match c with
  | .int .u8 n => pure (ForInStep.yield (s.push (UInt8.ofNat n.toNat)))
  | _ => (stuck "bytesToString: byte expected").bind fun (_ : PUnit) => pure (ForInStep.yield s))).run P w = .ok ⟨acc.data ++ l.toArray⟩ w := by
  intro l
  induction l with
  | nil => intro acc; simp [bytesV, pure, Sem.run]
  | cons b l ih =>
   intro acc
   simp only [bytesV, List.map_cons, List.forIn_cons, byteV]
   simp only [bind, pure, Sem.bind]
   have := ih (acc.push b)
   simp only [bytesV, byteV, pure] at this
   have hb : UInt8.ofNat ((b.toNat : Int)).toNat = b := by simp
   rw [hb]
   rw [this]
   simp [ByteArray.push]
 unfold Conv.bytesToString
 cases a with
 | none =>
  rcases h2 with h2 | ⟨_, _, h2, _⟩
  ·have : bs = [] := bytesV_inj (by simpa [bytesV] using h2)
   subst this; simp [strOf, pure, Sem.run]; rfl
  ·cases h2
 | some ad =>
  have hcells : (loadCells ad m).run P w = .ok (bytesV bs).toArray w := by
   rcases h2 with h2 | ⟨b, o, h2, h3⟩
   ·have hb0 : bs = [] := bytesV_inj (by simpa [bytesV] using h2)
    subst hb0
    have : m = 0 := by simpa using h1.symm
    subst this
    simp [loadCells, loadCellsFrom, pure, Sem.run, bytesV]
   ·cases h2; exact run_loadCells (by rw [bytesV_length]; omega) h3
  simp only [bind]
  rw [run_bind_ok hcells]
  have := loop bs ByteArray.empty
  simp only [List.forIn_toArray]
  refine (run_bind_ok (f := fun s => Sem.pure (Value.string s)) (w' := w) (a := ⟨ByteArray.empty.data ++ bs.toArray⟩) ?_).trans ?_
  ·exact this
  ·simp [strOf, Sem.run]
theorem uV {x : Operand} {src dst : TypeId} {el : TypeId} {cc : Nat} {bs : List UInt8} (hs : P.underlying src = some (.slice el)) (hd : P.underlying dst = some .string) (hel : P.underlying el = some (.int .u8))
 (hx : e.ev x = some (.slice a m cc)) (hr : SlR W0 G 1 a m (bytesV bs)) : Yield P W0 (.convert src dst x) ty e G (.string (strOf bs)) := fun ρ hρ w hw _ _ _ _ => by
 have h1 : (convert src dst (.slice a m cc)).run P w = .ok (.string (strOf bs)) w := by
  unfold convert
  show ((underlying src).bind _).run P w = _
  rw [run_bind_ok (run_underlying hs w)]
  show ((underlying dst).bind _).run P w = _
  rw [run_bind_ok (run_underlying hd w)]
  simp only []
  show ((underlying el).bind _).run P w = _
  rw [run_bind_ok (run_underlying hel w)]
  exact run_toStr (hr w hw)
 show ((convert src dst (ρ x)).bind _).run P w = _
 rw [hρ x _ hx, run_bind_ok h1]; rfl
theorem Yield.str_neq {t t' : TypeId} {x y : Operand} {s u : ByteArray} (hx : e.ev x = some (.string s)) (hy : e.ev y = some (.string u)) : Yield P W0 (.binOp .neq t x y t') ty e G (.bool (!(s.toList == u.toList))) := fun ρ hρ w _ _ _ _ _ => by
 simp [execOp, hρ x _ hx, hρ y _ hy, eqGuard, binOp, Op.stringOp, bind, Sem.bind, pure, Sem.run]
def RdB (W0 : World) (G : List HProp) (a : Option Addr) (c : Nat) (bs : List UInt8) : Prop := ∀ w, Sat W0 G w → SlAt w 1 a bs.length (bytesV bs) ∧ bs.length ≤ c
theorem RdB.slR {bs : List UInt8} (h : RdB W0 G a c bs) : SlR W0 G 1 a bs.length (bytesV bs) := fun w hw => (h w hw).1
theorem RdB.cap {bs : List UInt8} (h : RdB W0 G a c bs) (w : World) (hw : Sat W0 G w) : bs.length ≤ c := (h w hw).2
theorem RdB.imp {G' : List HProp} {bs : List UInt8} (h : RdB W0 G' a c bs) (hi : Imp G G') : RdB W0 G a c bs := fun w hw => h w (hw.imp hi)
theorem RdB.of_osl {bs : List UInt8} (x : Ext G (osl E 1 a c m xs) R) (h1 : m = bs.length) (h2 : xs = bytesV bs) : RdB W0 G a c bs := fun w hw => by
 subst h1 h2; exact ⟨SlR.of_osl x w hw, (osl_facts x w hw).2⟩
theorem RdB.of_slR {bs : List UInt8} (h : SlR W0 G 1 a bs.length (bytesV bs)) (hc : bs.length ≤ c) : RdB W0 G a c bs := fun w hw => ⟨h w hw, hc⟩
abbrev oby (E : Nat) (a : Option Addr) (c : Nat) (bs : List UInt8) : HProp := osl E 1 a c bs.length (bytesV bs)
theorem eV {x y : Operand} {st st2 el el2 : TypeId} {a2 : Option Addr} {c2 : Nat} {z : Value} {ag : Bool} {bs ys : List UInt8} {put : HProp → List HProp} {ats : Array TypeId}
 (hx : e.ev x = some (.slice a bs.length c)) (hy : e.ev y = some (.slice a2 ys.length c2)) (hats : ats = #[st, st2]) (hu : P.underlying st = some (.slice el)) (hu2 : P.underlying st2 = some (.slice el2)) (ht : TI P el 1 1 z ag) (hz : z.cells.size = 1)
 (fc : Foc G (oby el a c bs) put) (hr : SlR W0 G 1 a2 ys.length (bytesV ys)) (hb : bs.length + ys.length ≤ 2 ^ 47 - 500) :
 Eff P W0 (.call { callee := .builtin .append, args := #[x, y], argTypes := ats }) ty e G (fun _ : Option Addr × Nat => True) (fun p => .slice p.1 (bs ++ ys).length p.2) (fun p => put (oby el p.1 p.2 (bs ++ ys))) := by
 have := fX (ty := ty) hx hy hats hu hu2 ht hz (by decide) fc hr bytesV_one (by omega)
 simpa only [oby, List.length_append, bytesV_append] using this
theorem nV {x y : Operand} {st st2 el el2 : TypeId} {a2 : Option Addr} {c2 : Nat} {z : Value} {ag : Bool} {ys : List UInt8} {put : HProp → List HProp} {ats : Array TypeId}
 (hx : e.ev x = some (.slice a 0 c)) (hy : e.ev y = some (.slice a2 ys.length c2)) (hats : ats = #[st, st2]) (hu : P.underlying st = some (.slice el)) (hu2 : P.underlying st2 = some (.slice el2)) (ht : TI P el 1 1 z ag) (hz : z.cells.size = 1)
 (fc : Foc G (osl el 1 a c 0 []) put) (hr : SlR W0 G 1 a2 ys.length (bytesV ys)) (hb : ys.length ≤ 2 ^ 47 - 500) :
 Eff P W0 (.call { callee := .builtin .append, args := #[x, y], argTypes := ats }) ty e G (fun _ : Option Addr × Nat => True) (fun p => .slice p.1 ys.length p.2) (fun p => put (oby el p.1 p.2 ys)) :=
 Eff.append0 (ty := ty) hx hy hats hu hu2 ht hz (by decide) fc hr bytesV_one (by omega)
theorem flat_get {α : Type} {f : α → List Value} {sz : Nat} (hf : ∀ x, (f x).length = sz) : ∀ {xs : List α} {i : Nat} {x : α}, xs[i]? = some x → (((xs.map f).flatten).drop (i * sz)).take sz = f x
 | [], _, _, h => by simp at h
 | y :: xs, 0, x, h => by
  simp only [List.getElem?_cons_zero, Option.some.injEq] at h
  subst h
  simp only [List.map_cons, List.flatten_cons, Nat.zero_mul, List.drop_zero]
  rw [List.take_append_of_le_length (by rw [hf]; omega), List.take_of_length_le (by rw [hf]; omega)]
 | y :: xs, i + 1, x, h => by
  have ih := flat_get hf (xs := xs) (i := i) (x := x) (by simpa using h)
  simp only [List.map_cons, List.flatten_cons]
  have e1 : (i + 1) * sz - (f y).length = i * sz := by rw [hf, Nat.succ_mul]; omega
  rw [List.drop_append, List.drop_eq_nil_of_le (by rw [hf, Nat.succ_mul]; omega), List.nil_append, e1]
  exact ih
theorem flat_len {α : Type} {f : α → List Value} {sz : Nat} (hf : ∀ x, (f x).length = sz) (xs : List α) : ((xs.map f).flatten).length = xs.length * sz := by
 induction xs with
 | nil => simp
 | cons x xs ih => simp only [List.map_cons, List.flatten_cons, List.length_append, hf, ih, List.length_cons, Nat.succ_mul]; omega
theorem SlR.elem {α : Type} {f : α → List Value} {xs : List α} {b o i : Nat} {x : α} (s : SlR W0 G sz (some ⟨b, o, none⟩) m ((xs.map f).flatten)) (hf : ∀ x, (f x).length = sz) (hi : xs[i]? = some x) : Row W0 G b (o + i * sz) (f x) :=
 s.row (i * sz) sz (flat_get hf hi)
theorem SlR.elem_shape {α : Type} {f : α → List Value} {xs : List α} {i : Nat} (s : SlR W0 G sz a m ((xs.map f).flatten)) (hf : ∀ x, (f x).length = sz) (h0 : 0 < sz) (hi : i < xs.length) (w : World) (hw : Sat W0 G w) : ∃ b o, a = some ⟨b, o, none⟩ := by
 refine s.shape (fun q => ?_) w hw
 have := flat_len hf xs
 rw [q] at this
 have h1 : 1 * 1 ≤ xs.length * sz := Nat.mul_le_mul (by omega) h0
 simp at this h1; omega
theorem osl_nil : Imp G (osl E sz none 0 0 [] :: G) := fun h s => by
 refine ⟨fun _ => none, ?_, ⟨by simp, Nat.le_refl _, .inl ⟨rfl, rfl, rfl⟩⟩, s.mono fun k o q => minus_some.2 ⟨rfl, q⟩⟩
 intro k o q; cases q
theorem oby_nil : Imp G (oby E none 0 [] :: G) := osl_nil
theorem strOf_toList (bs : List UInt8) : (strOf bs).toList = bs := by
 simp [strOf]
/-! ### what an assertion hides is laid open -/
theorem Ctr.ex {f : FuncId} {args : List Value} {α : Type} {φ : α → Prop} {v : α → Value} {G' : α → List HProp} {A : HProp} {ι : Type} {ψ : ι → Prop} {B : ι → HProp} (x : Ext G A R) (h : ∀ y, A y → ∃ i, ψ i ∧ B i y)
 (k : ∀ i, ψ i → Ctr P W0 f args (B i :: R) φ v G') : Ctr P W0 f args G φ v G' := fun w hw => by
 obtain ⟨g, hg, hA, hs⟩ := x.1 _ hw.2
 obtain ⟨i, hi, hB⟩ := h g hA
 exact k i hi w ⟨hw.1, g, hg, hB, hs⟩
theorem kV {r : Option Nat} {n : Nat} {ds : List Deferred} {Q : Exit → Act → World → Prop} {cd : Code} {A : HProp} {ι : Type} {ψ : ι → Prop} {B : ι → HProp} (x : Ext G A R) (h : ∀ y, A y → ∃ i, ψ i ∧ B i y)
 (k : ∀ i, ψ i → CG r P W0 n ds cd Q e (B i :: R)) : CG r P W0 n ds cd Q e G := fun a w ha hw => by
 obtain ⟨g, hg, hA, hs⟩ := x.1 _ hw.2
 obtain ⟨i, hi, hB⟩ := h g hA
 exact k i hi a w ha ⟨hw.1, g, hg, hB, hs⟩
theorem osl_cut {l h : Nat} {ys : List Value} (hlh : l ≤ h) (hh : h ≤ c) (hm : h ≤ m) (hy : (xs.drop (l * sz)).take ((h - l) * sz) = ys) (x : Heaplet) (o : osl E sz a c m xs x) : osl E sz (a.map fun a => cutAt a l c sz) (c - l) (h - l) ys x := by
 obtain ⟨h1, h2, h3⟩ := o
 have hle : h * sz ≤ m * sz := Nat.mul_le_mul_right _ hm
 refine ⟨by subst hy; simp only [List.length_take, List.length_drop, h1, Nat.sub_mul]; omega, by omega, ?_⟩
 rcases h3 with ⟨rfl, rfl, rfl⟩ | ⟨b, o, cs, fr, rfl, hb, hf, ho, ht⟩
 ·exact .inl ⟨rfl, by omega, by simpa using hy.symm⟩
 ·have hlc : l * sz ≤ c * sz := Nat.mul_le_mul_right _ (by omega)
  have hmc : m * sz ≤ c * sz := Nat.mul_le_mul_right _ h2
  have hll : l * sz ≤ h * sz := Nat.mul_le_mul_right _ hlh
  by_cases hq : c = l
  ·have e1 : h - l = 0 := by omega
   refine .inr ⟨b, o, cs, fr, by simp [cutAt, hq], hb, hf, by rw [hq]; simp; omega, ?_⟩
   rw [e1] at hy ⊢; simpa using hy
  ·refine .inr ⟨b, o + l * sz, cs, fr, by simp [cutAt, hq, add_at], hb, hf, by rw [Nat.sub_mul]; omega, ?_⟩
   subst ht hy
   rw [List.drop_take, List.take_take, List.drop_drop, Nat.sub_mul, Nat.min_eq_left (by omega)]
theorem osl_take {h : Nat} (hm : h ≤ m) (x : Heaplet) (o : osl E sz a c m xs x) : osl E sz a c h (xs.take (h * sz)) x := by
 have h2 := o.2.1
 have := osl_cut (l := 0) (h := h) (ys := xs.take (h * sz)) (Nat.zero_le _) (by omega) hm (by simp) x o
 have e1 : (a.map fun a => cutAt a 0 c sz) = a := by
  cases a with
  | none => rfl
  | some a => simp [cutAt, Addr.add]
 rw [e1] at this
 simpa using this
theorem SlR.take {h : Nat} {ys : List Value} (s : SlR W0 G sz a m xs) (hh : h ≤ m) (hy : xs.take (h * sz) = ys) : SlR W0 G sz a h ys := fun w hw => by
 obtain ⟨h1, h2⟩ := s w hw
 have hle : h * sz ≤ m * sz := Nat.mul_le_mul_right _ hh
 subst hy
 refine ⟨by rw [List.length_take, h1]; omega, ?_⟩
 rcases h2 with h2 | ⟨b, o, rfl, h2⟩
 ·subst h2; simp
 ·exact .inr ⟨b, o, rfl, fun i v hi => h2 i v (by rw [List.getElem?_take] at hi; split at hi; exact hi; cases hi)⟩
theorem SlR.takeB {bs : List UInt8} (s : SlR W0 G 1 a bs.length (bytesV bs)) (k : Nat) : SlR W0 G 1 a (bs.take k).length (bytesV (bs.take k)) :=
 s.take (by simp; omega) (by rw [bytesV_take]; congr 1; rw [Nat.mul_one, List.length_take, List.take_eq_take_iff]; omega)
theorem SlR.dropB {bs : List UInt8} (s : SlR W0 G 1 a bs.length (bytesV bs)) {k cc : Nat} (hc : bs.length ≤ cc) (hk : k ≤ bs.length) : SlR W0 G 1 (a.map fun a => cutAt a k cc 1) (bs.drop k).length (bytesV (bs.drop k)) := by
 have := s.cut (l := k) (h := bs.length) (ys := bytesV (bs.drop k)) hk (Nat.le_refl _) hc (by rw [Nat.mul_one, Nat.mul_one, bytesV_drop, List.take_of_length_le (by simp [bytesV])])
 rw [List.length_drop]; exact this
theorem SlR.midB {bs : List UInt8} (s : SlR W0 G 1 a bs.length (bytesV bs)) {l k cc : Nat} (hc : bs.length ≤ cc) (hk : l + k ≤ bs.length) : SlR W0 G 1 (a.map fun a => cutAt a l cc 1) ((bs.drop l).take k).length (bytesV ((bs.drop l).take k)) := by
 have := s.cut (l := l) (h := l + k) (ys := bytesV ((bs.drop l).take k)) (by omega) hk hc (by rw [Nat.mul_one, Nat.mul_one, bytesV_drop, bytesV_take]; congr 2; omega)
 rw [show ((bs.drop l).take k).length = l + k - l by simp; omega]; exact this
/-! ### slice literals, element by element -/
def zipI : Nat → List Operand → List (Nat × Operand)
 | _, [] => []
 | i, x :: l => (i, x) :: zipI (i + 1) l
def zipV : Nat → List Value → List (Nat × Value)
 | _, [] => []
 | i, x :: l => (i, x) :: zipV (i + 1) l
theorem evps_zip : ∀ {xs : List Operand} {vs : List Value} (i : Nat), e.evs xs = some vs → e.evps (zipI i xs) = some (zipV i vs)
 | [], vs, i, h => by simp [Env.evs] at h; subst h; rfl
 | x :: xs, vs, i, h => by
  simp only [Env.evs] at h
  split at h
  ·rename_i v us h1 h2
   simp only [Option.some.injEq] at h
   subst h
   simp only [zipI, Env.evps, h1, evps_zip (i + 1) h2, zipV]
  ·cases h
theorem fold_over (off : Nat) : ∀ (vs : List Value) (j : Nat) (cs : List Value), off + j + vs.length ≤ cs.length →
 ((vs.zipIdx j).foldl (fun (a : Array Value) (p : Value × Nat) => a.setIfInBounds (off + p.2) p.1) cs.toArray) = (over cs (off + j) vs).toArray
 | [], j, cs, _ => by simp [over_nil]
 | v :: vs, j, cs, h => by
  simp only [List.length_cons] at h
  simp only [List.zipIdx_cons, List.foldl_cons, List.setIfInBounds_toArray]
  rw [fold_over off vs (j + 1) (cs.set (off + j) v) (by simp; omega), ← Nat.add_assoc, over_cons (by simp; omega)]
theorem fill_row (sz : Nat) : ∀ (vs : List Value) (i : Nat) (acc : List Value), acc.length = (i + vs.length) * sz → (∀ v ∈ vs, v.cells.size = sz) →
 Instr.fill (fun i => some (i * sz, sz)) acc.toArray (zipV i vs) = some (acc.take (i * sz) ++ (vs.map fun v => v.cells.toList).flatten).toArray
 | [], i, acc, h, _ => by
  simp only [zipV, Instr.fill, List.map_nil, List.flatten_nil, List.append_nil]
  rw [List.take_of_length_le (by simp at h; omega)]
 | v :: vs, i, acc, h, hv => by
  have hs : v.cells.size = sz := hv v (by simp)
  simp only [List.length_cons] at h
  have hle : i * sz + sz ≤ acc.length := by
   rw [h, ← Nat.succ_mul]; exact Nat.mul_le_mul_right _ (by omega)
  simp only [zipV, Instr.fill, hs]
  rw [if_neg (by simp; omega)]
  have hfold : (v.cells.zipIdx.foldl (fun (cs : Array Value) (x : Value × Nat) => match x with | (c, j) => cs.setIfInBounds (i * sz + j) c) acc.toArray) = (over acc (i * sz) v.cells.toList).toArray := by
   have := fold_over (i * sz) v.cells.toList 0 acc (by simp [hs]; omega)
   rw [Nat.add_zero] at this
   rw [← this, ← Array.foldl_toList]
   simp only [Array.toList_zipIdx]
  rw [hfold, fill_row sz vs (i + 1) _ (by rw [over_length (by simp [hs]; omega), h]; congr 1; omega) (fun u hu => hv u (by simp [hu]))]
  congr 2
  simp only [List.map_cons, List.flatten_cons]
  rw [← List.append_assoc]
  congr 1
  unfold over
  have e1 : (acc.take (i * sz)).length = i * sz := by simp; omega
  have e2 : (i + 1) * sz = i * sz + sz := Nat.succ_mul i sz
  rw [List.append_assoc, List.take_append, List.take_of_length_le (by rw [e1, e2]; omega), e1, e2, Nat.add_sub_cancel_left, List.take_append]
  have e3 : v.cells.toList.length = sz := by rw [Array.length_toList]; exact hs
  rw [List.take_of_length_le (by omega : v.cells.toList.length ≤ sz), e3, Nat.sub_self, List.take_zero, List.append_nil]
theorem aV (ops : List Operand) {t el : TypeId} {len : Nat} {parts : List (Nat × Operand)} {vs : List Value} {by' : Nat} {z : Value} {ag : Bool} {cells : List Value}
 (hu : P.underlying t = some (.slice el)) (ht : TI P el sz by' z ag) (hzs : z.cells.size = sz) (hparts : parts = zipI 0 ops) (hp : e.evs ops = some vs) (hn : vs.length = len) (hsz : len * sz ≤ 2 ^ 24)
 (hv : ∀ v ∈ vs, v.cells.size = sz) (hc : (vs.map fun v => v.cells.toList).flatten = cells) :
 Eff P W0 (.buildSlice t len parts.toArray) ty e G (fun _ : Nat => True) (fun b => .slice (some ⟨b, 0, none⟩) len len) (fun b => osl el sz (some ⟨b, 0, none⟩) len len cells :: G) := by
 subst hparts hc hn
 have hl : ∀ (l : List Value), (∀ v ∈ l, v.cells.size = sz) → ((l.map fun v => v.cells.toList).flatten).length = l.length * sz := by
  intro l
  induction l with
  | nil => intro _; simp
  | cons v l ih =>
   intro h
   simp only [List.map_cons, List.flatten_cons, List.length_append, List.length_cons, Nat.succ_mul, ih (fun u hu => h u (by simp [hu]))]
   have := h v (by simp)
   simp [this]; omega
 refine Eff.buildSlice hu ht (evps_zip 0 hp) hsz ?_ (hl vs hv)
 have := fill_row sz vs 0 ((Array.range (vs.length * sz)).map ((if vs.length * sz = 0 then #[] else z.cells)[· % (if vs.length * sz = 0 then #[] else z.cells).size]!)).toList (by simp) hv
 rw [Array.toArray_toList] at this
 rw [this]; simp
theorem sX {t el : TypeId} {by' : Nat} {z : Value} {ag : Bool} (hu : P.underlying t = some (.slice el)) (ht : TI P el sz by' z ag) (hzs : z.cells.size = sz) :
 Eff P W0 (.buildSlice t 0 #[]) ty e G (fun _ : Nat => True) (fun b => .slice (some ⟨b, 0, none⟩) 0 0) (fun b => osl el sz (some ⟨b, 0, none⟩) 0 0 [] :: G) :=
 aV [] (vs := []) (parts := []) (by' := by') (z := z) (ag := ag) hu ht hzs J J J (by simp) (by simp) J
theorem gV {t el : TypeId} {by' : Nat} {z v : Value} {ag : Bool} {x : Operand} (hu : P.underlying t = some (.slice el)) (ht : TI P el 1 by' z ag) (hzs : z.cells.size = 1) (hx : e.ev x = some v) (h1 : one v = true) :
 Eff P W0 (.buildSlice t 1 #[(0, x)]) ty e G (fun _ : Nat => True) (fun b => .slice (some ⟨b, 0, none⟩) 1 1) (fun b => osl el 1 (some ⟨b, 0, none⟩) 1 1 [v] :: G) :=
 aV [x] (vs := [v]) (parts := [(0, x)]) (by' := by') (z := z) (ag := ag) hu ht hzs J (by simp only [Env.evs, hx]) J (by decide) (by simp [ones h1]) (by simp [ones h1])
/-! ### struct literals -/
def places? (P : Program) (t : TypeId) : Option (List (Nat × Nat)) :=
 match P.underlying t with
 | some (.struct fs) => fs.toList.mapM fun f => match P.info? f.type with | some i => some (f.offset, i.size) | none => none
 | _ => none
def fillL (ps : List (Nat × Nat)) (cells : List Value) : List (Nat × Value) → Option (List Value)
 | [] => some cells
 | (i, v) :: rest => match ps[i]? with
  | none => none
  | some (off, size) => if v.cells.size = size ∧ off + size ≤ cells.length then fillL ps (over cells off v.cells.toList) rest else none
theorem fill_eq (ps : List (Nat × Nat)) : ∀ (pvs : List (Nat × Value)) (cells out : List Value), fillL ps cells pvs = some out → Instr.fill (fun i => (ps.toArray)[i]?) cells.toArray pvs = some out.toArray
 | [], cells, out, h => by simp [fillL] at h; subst h; rfl
 | (i, v) :: rest, cells, out, h => by
  simp only [fillL] at h
  split at h
  ·cases h
  ·rename_i off size hp
   split at h
   ·rename_i hc
    have hp' : ps.toArray[i]? = some (off, size) := by simpa using hp
    simp only [Instr.fill, hp']
    rw [if_neg (by simp; omega)]
    have hfold : (v.cells.zipIdx.foldl (fun (cs : Array Value) (x : Value × Nat) => match x with | (c, j) => cs.setIfInBounds (off + j) c) cells.toArray) = (over cells off v.cells.toList).toArray := by
     have := fold_over off v.cells.toList 0 cells (by simp; omega)
     rw [Nat.add_zero] at this
     rw [← this, ← Array.foldl_toList]
     simp only [Array.toList_zipIdx]
    rw [hfold]
    exact fill_eq ps rest _ _ h
   ·cases h
theorem run_places {w : World} : ∀ (fs : List Field) (ps : List (Nat × Nat)), (fs.mapM fun f => match P.info? f.type with | some i => some (f.offset, i.size) | none => none) = some ps →
 (fs.mapM (m := Sem) fun f => do pure (f.offset, ← sizeOf f.type)).run P w = .ok ps w
 | [], ps, h => by simp at h; subst h; rfl
 | f :: fs, ps, h => by
  rw [List.mapM_cons] at h ⊢
  simp only [bind, Option.bind_eq_some_iff, pure, Option.some.injEq] at h
  obtain ⟨y, hy, ys, hys, rfl⟩ := h
  cases hi : P.info? f.type with
  | none => rw [hi] at hy; cases hy
  | some i =>
   rw [hi] at hy
   simp only [Option.some.injEq] at hy
   subst hy
   have h1 : (sizeOf f.type).run P w = .ok i.size w := by simp [sizeOf, typeInfo, program, bind, Sem.bind, pure, hi, Sem.run]
   have ih := run_places (w := w) fs ys (by simpa [bind, pure] using hys)
   show (((sizeOf f.type).bind fun s => Sem.pure (f.offset, s)).bind _).run P w = _
   rw [run_bind_ok (show ((sizeOf f.type).bind fun s => Sem.pure (f.offset, s)).run P w = .ok (f.offset, i.size) w by rw [run_bind_ok h1]; rfl)]
   show (Sem.bind (List.mapM _ fs) _).run P w = _
   rw [run_bind_ok ih]; rfl
theorem aX {t : TypeId} {parts : List (Nat × Operand)} {pvs : List (Nat × Value)} {ps : List (Nat × Nat)} {zs cells : List Value} {by' : Nat} {ag : Bool}
 (hps : places? P t = some ps) (ht : TI P t sz by' (.agg zs.toArray) ag) (hp : e.evps parts = some pvs) (hf : fillL ps zs pvs = some cells) :
 Yield P W0 (.build t parts.toArray) ty e G (.agg cells.toArray) := fun ρ hρ w _ _ _ _ _ => by
 unfold places? at hps
 split at hps
 ·rename_i fs hu
  have h1 : (Instr.build t (parts.toArray.map fun (i, x) => (i, ρ x))).run P w = .ok (.agg cells.toArray) w := by
   have hq : (parts.toArray.map fun (i, x) => (i, ρ x)) = pvs.toArray := by rw [List.map_toArray, hρ.evps hp]
   rw [hq]
   unfold Instr.build
   simp only [bind, pure]
   rw [run_bind_ok (ht.run_zero w)]
   rw [run_bind_ok (run_underlying hu w)]
   simp only []
   have h2 : (fs.mapM (m := Sem) fun f => do pure (f.offset, ← sizeOf f.type)).run P w = .ok ps.toArray w := by
    rw [Array.mapM_eq_mapM_toList]
    have := run_places (P := P) (w := w) fs.toList ps hps
    show (Sem.run P (List.toArray <$> _) w) = _
    show (Sem.bind _ (fun a => Sem.pure (List.toArray a))).run P w = _
    rw [run_bind_ok this]; rfl
   simp only [bind, pure] at h2
   rw [run_bind_ok h2]
   have h3 := fill_eq ps pvs zs cells hf
   simp only [Value.cells] at h3 ⊢
   rw [h3]
   rfl
  show ((Instr.build t (parts.toArray.map fun (i, x) => (i, ρ x))).bind _).run P w = _
  rw [run_bind_ok h1]; rfl
 ·cases hps
theorem Yield.build0 {t : TypeId} {ps : List (Nat × Nat)} {zs : Array Value} {by' : Nat} {ag : Bool}
 (hps : places? P t = some ps) (ht : TI P t sz by' (.agg zs) ag) : Yield P W0 (.build t #[]) ty e G (.agg zs) := by
 have := aX (W0 := W0) (e := e) (G := G) (ty := ty) (parts := []) (pvs := []) (zs := zs.toList) (cells := zs.toList) (by' := by') (ag := ag) hps (by simpa using ht) J J
 simpa using this
theorem over_all {cs vs : List Value} (h : vs.length = cs.length) : over cs 0 vs = vs := by
 unfold over; rw [List.drop_eq_nil_of_le (by omega)]; simp
theorem iV {t : TypeId} {x y : Operand} {b o i : Nat} {v : Value} {put : HProp → List HProp} {by' z ag} (ht : TI P t 1 by' z ag) (hx : e.ev x = some (.pointer (some ⟨b, o + i, none⟩))) (hy : e.ev y = some v)
 (fc : Foc G (osl E sz (some ⟨b, o, none⟩) c m xs) put) (h1 : one v = true) (hi : i < m * sz) : Eff P W0 (.store t x y) ty e G (fun _ : Unit => True) (fun _ => undef) (fun _ => put (osl E sz (some ⟨b, o, none⟩) c m (xs.set i v))) := fun ρ hρ w hw _ _ _ _ => by
 obtain ⟨R, hR⟩ := foc_ext fc
 obtain ⟨f, hf, hA⟩ := Sat.ext hR hw
 obtain ⟨q1, q2, q3⟩ := hA
 rcases q3 with ⟨q, _⟩ | ⟨b', o', cs, fr, q, hbk, hfr, ho, htk⟩
 ·cases q
 ·cases q
  have hcm : m * sz ≤ c * sz := Nat.mul_le_mul_right _ q2
  have hwb := hf _ _ hbk
  have hv : v.cells.size = 1 := by rw [ones h1]; rfl
  have hst := run_storeVar (P := P) (t := t) (o := o + i) (v := v) ht hv (by rw [ones h1]; intro c hc; simp at hc; subst hc; exact h1) hwb hfr (by omega)
  have hov : over cs (o + i) v.cells.toList = cs.set (o + i) v := by rw [ones h1]; exact over_one (by omega)
  rw [hov] at hst
  refine ⟨(), setObjW w b (.cells (cs.set (o + i) v).toArray E fr), trivial, Sat.write (b := b) (o := .cells cs.toArray E fr) fc hw hwb ?_, .inr ⟨?_, rfl⟩⟩
  ·intro f' hle' hf'
   obtain ⟨h1', _, h3'⟩ := hf'
   rcases h3' with ⟨h, _⟩ | ⟨b', o', cs', fr', hq, hbk', _, _, htk'⟩
   ·cases h
   ·cases hq
    have hsame : some (Obj.cells cs'.toArray E fr') = some (Obj.cells cs.toArray E fr) := (hle' _ _ hbk').symm.trans hwb
    simp only [Option.some.injEq, Obj.cells.injEq] at hsame
    obtain ⟨p1, _, p3⟩ := hsame
    have p1 := List.toArray_inj p1
    subst p1 p3
    refine ⟨hbk', by simpa using h1', q2, .inr ⟨b, o, cs'.set (o + i) v, fr', rfl, by simp [updH], by simpa using hfr, by simpa using ho, ?_⟩⟩
    rw [List.drop_set, if_neg (by omega), show o + i - o = i by omega, List.take_set, htk']
  ·show (((Instr.storeAt t (ρ x) (ρ y))).bind _).run P w = _
   rw [hρ x _ hx, hρ y _ hy]
   rw [run_bind_ok (show (Instr.storeAt t (.pointer (some ⟨b, o + i, none⟩)) v).run P w = _ by
    show ((Instr.sureAddr _).bind _).run P w = _
    simp only [Instr.sureAddr, pure, Sem.bind]
    exact hst)]
   rfl
theorem bytesV_set (bs : List UInt8) (i : Nat) (b : UInt8) : (bytesV bs).set i (byteV b) = bytesV (bs.set i b) := by simp [bytesV, List.map_set]
theorem flat_zero (n : Nat) : (List.replicate n [Value.int .u8 0]).flatten = bytesV (List.replicate n 0) := by
 induction n with
 | zero => rfl
 | succ n ih => simp only [List.replicate_succ, List.flatten_cons, ih]; rfl
theorem Eff.makeB {t el : TypeId} {x : Operand} {n : Int} {ag : Bool} (k : Nat)
 (hu : P.underlying t = some (.slice el)) (ht : TI P el 1 1 (.int .u8 0) ag) (hx : e.ev x = some (.int .i64 n)) (hn : n = (k : Int)) (hb : k ≤ 2 ^ 48) :
 Eff P W0 (.makeSlice t x x) ty e G (fun _ : Nat => True) (fun b => .slice (some ⟨b, 0, none⟩) (List.replicate k (0 : UInt8)).length k) (fun b => oby el (some ⟨b, 0, none⟩) k (List.replicate k 0) :: G) := by
 subst hn
 have := Eff.makeSlice (P := P) (W0 := W0) (G := G) (ty := ty) (n := (k : Int)) hu ht J (by decide) hx (by omega) (by omega) (by omega)
 simp only [Int.toNat_natCast] at this
 rw [show (Value.int IntKind.u8 0).cells.toList = [Value.int IntKind.u8 0] from J, flat_zero] at this
 unfold oby; rw [List.length_replicate]; exact this
theorem Eff.copyB {x y : Operand} {st st2 el : TypeId} {a2 : Option Addr} {k c2 by' : Nat} {z : Value} {ag : Bool} {bs ys : List UInt8} {put : HProp → List HProp} {ats : Array TypeId}
 (hx : e.ev x = some (.slice a k c)) (hy : e.ev y = some (.slice a2 ys.length c2)) (hats : ats = #[st, st2]) (hu : P.underlying st = some (.slice el)) (ht : TI P el 1 by' z ag)
 (fc : Foc G (oby el a c bs) put) (hr : SlR W0 G 1 a2 ys.length (bytesV ys)) (hl : bs.length = ys.length) (hk : k = bs.length) :
 Eff P W0 (.call { callee := .builtin .copy, args := #[x, y], argTypes := ats }) ty e G (fun _ : Unit => True) (fun _ => .int .i64 ys.length) (fun _ => put (oby el a c ys)) := by
 subst hk
 have := Eff.copy (ty := ty) hx hy hats hu ht fc hr bytesV_one
 rw [← hl, Nat.min_self, Nat.mul_one] at this
 rw [List.take_of_length_le (by rw [bytesV_length]; omega), over_all (by rw [bytesV_length, bytesV_length]; omega)] at this
 unfold oby; rw [← hl]; exact this
theorem Yield.buildArr0 {t el : TypeId} {len : Nat} {zs : Array Value} {sz by' by2 by3 : Nat} {ag ag2 : Bool} {z : Value}
 (hu : P.underlying t = some (.array len el)) (ht : TI P t sz by' (.agg zs) ag) (hel : TI P el by2 by3 z ag2) : Yield P W0 (.build t #[]) ty e G (.agg zs) := fun ρ hρ w _ _ _ _ _ => by
 have h1 : (Instr.build t #[]).run P w = .ok (.agg zs) w := by
  unfold Instr.build
  simp only [bind, pure]
  rw [run_bind_ok (ht.run_zero w)]
  rw [run_bind_ok (run_underlying hu w)]
  simp only []
  rw [run_bind_ok (hel.run_size w)]
  rfl
 show ((Instr.build t ((#[] : Array (Nat × Operand)).map fun (i, x) => (i, ρ x))).bind _).run P w = _
 rw [List.map_toArray, List.map_nil]
 rw [run_bind_ok h1]; rfl
theorem flat_set {α : Type} {f : α → List Value} {sz : Nat} (hf : ∀ x, (f x).length = sz) : ∀ (xs : List α) (i : Nat) (x : α), i < xs.length → over ((xs.map f).flatten) (i * sz) (f x) = ((xs.set i x).map f).flatten
 | [], i, x, h => by simp at h
 | y :: xs, 0, x, _ => by
  simp only [Nat.zero_mul, List.set_cons_zero, List.map_cons, List.flatten_cons, over, List.take_zero, List.nil_append, Nat.zero_add]
  rw [hf, List.drop_append, List.drop_eq_nil_of_le (by rw [hf]; omega), hf, Nat.sub_self, List.drop_zero, List.nil_append]
 | y :: xs, i + 1, x, h => by
  have ih := flat_set hf xs i x (by simpa using h)
  simp only [List.set_cons_succ, List.map_cons, List.flatten_cons]
  rw [← ih]
  unfold over
  have e1 : (i + 1) * sz = (f y).length + i * sz := by rw [hf, Nat.succ_mul]; omega
  rw [e1, List.take_append, List.take_of_length_le (by omega : (f y).length ≤ (f y).length + i * sz), Nat.add_sub_cancel_left, Nat.add_assoc, List.drop_append, List.drop_eq_nil_of_le (by omega), List.nil_append, Nat.add_sub_cancel_left]
  simp only [List.append_assoc]
theorem run_storeOsl {t : TypeId} {b o i : Nat} {v : Value} {w : World} {cs : List Value} {by' : Nat} {z : Value} {ag : Bool} {k : Nat} (ht : TI P t k by' z ag) (hv : v.cells.size = k) (h1 : ∀ c ∈ v.cells.toList, one c = true) {fr : Nat × Nat}
 (hb : w.heap[b]? = some (.cells cs.toArray E fr)) (hf : NoFr fr cs.length) (ho : o + i + k ≤ cs.length) :
 (Instr.storeAt t (.pointer (some ⟨b, o + i, none⟩)) v).run P w = .ok () (setObjW w b (.cells (over cs (o + i) v.cells.toList).toArray E fr)) := by
 show ((Instr.sureAddr _).bind _).run P w = _
 simp only [Instr.sureAddr, pure, Sem.bind]
 exact run_storeVar ht hv h1 hb hf ho
theorem Eff.storeCells {t : TypeId} {x y : Operand} {b o i k : Nat} {v : Value} {put : HProp → List HProp} {by' z ag} (ht : TI P t k by' z ag) (hx : e.ev x = some (.pointer (some ⟨b, o + i, none⟩))) (hy : e.ev y = some v) (hv : v.cells.size = k)
 (fc : Foc G (osl E sz (some ⟨b, o, none⟩) c m xs) put) (h1 : ∀ c ∈ v.cells.toList, one c = true) (hi : i + k ≤ m * sz) : Eff P W0 (.store t x y) ty e G (fun _ : Unit => True) (fun _ => undef) (fun _ => put (osl E sz (some ⟨b, o, none⟩) c m (over xs i v.cells.toList))) := fun ρ hρ w hw _ _ _ _ => by
 obtain ⟨R, hR⟩ := foc_ext fc
 obtain ⟨f, hf, hA⟩ := Sat.ext hR hw
 obtain ⟨q1, q2, q3⟩ := hA
 have hvl : v.cells.toList.length = k := by rw [Array.length_toList]; exact hv
 rcases q3 with ⟨q, _⟩ | ⟨b', o', cs, fr, q, hbk, hfr, ho, htk⟩
 ·cases q
 ·cases q
  have hcm : m * sz ≤ c * sz := Nat.mul_le_mul_right _ q2
  have hwb := hf _ _ hbk
  have hst := run_storeOsl (P := P) (t := t) (o := o) (i := i) (v := v) ht hv h1 hwb hfr (by omega)
  refine ⟨(), setObjW w b (.cells (over cs (o + i) v.cells.toList).toArray E fr), trivial, Sat.write (b := b) (o := .cells cs.toArray E fr) fc hw hwb ?_, .inr ⟨?_, rfl⟩⟩
  ·intro f' hle' hf'
   obtain ⟨h1', _, h3'⟩ := hf'
   rcases h3' with ⟨h, _⟩ | ⟨b', o', cs', fr', hq, hbk', _, _, htk'⟩
   ·cases h
   ·cases hq
    have hsame : some (Obj.cells cs'.toArray E fr') = some (Obj.cells cs.toArray E fr) := (hle' _ _ hbk').symm.trans hwb
    simp only [Option.some.injEq, Obj.cells.injEq] at hsame
    obtain ⟨p1, _, p3⟩ := hsame
    have p1 := List.toArray_inj p1
    subst p1 p3
    have hol : (over cs' (o + i) v.cells.toList).length = cs'.length := over_length (by omega)
    refine ⟨hbk', by rw [over_length (by omega)]; exact h1', q2, .inr ⟨b, o, over cs' (o + i) v.cells.toList, fr', rfl, by simp [updH], by rw [hol]; exact hfr, by rw [hol]; exact ho, ?_⟩⟩
    rw [← htk']
    unfold over
    generalize hV : v.cells.toList = V at hvl
    have e0 : (cs'.take (o + i)).length = o + i := by rw [List.length_take]; omega
    rw [List.append_assoc, List.drop_append, e0, show o - (o + i) = 0 by omega, List.drop_zero, List.drop_take, show o + i - o = i by omega, List.take_append, List.length_take, List.length_drop]
    have e1 : min i (cs'.length - o) = i := by omega
    rw [e1, List.take_take, List.take_take, show min (m * sz) i = i by omega, show min i (m * sz) = i by omega, List.append_assoc]
    congr 1
    rw [List.take_append, hvl, List.take_of_length_le (by omega : V.length ≤ m * sz - i)]
    congr 1
    rw [List.drop_take, List.drop_drop]
    congr 1
    ·omega
    ·congr 1; omega
  ·show (((Instr.storeAt t (ρ x) (ρ y))).bind _).run P w = _
   rw [hρ x _ hx, hρ y _ hy, run_bind_ok hst]
   rfl
theorem Eff.storeRec {α : Type} {fc' : α → List Value} {t : TypeId} {x y : Operand} {b o i : Nat} {r : α} {rs : List α} {put : HProp → List HProp} {by' z ag} (hlen : ∀ x, (fc' x).length = sz) (hones : ∀ x, ∀ v ∈ fc' x, one v = true) (ht : TI P t sz by' z ag) (hx : e.ev x = some (.pointer (some ⟨b, o + i * sz, none⟩))) (hy : e.ev y = some (.agg (fc' r).toArray))
 (fc : Foc G (osl E sz (some ⟨b, o, none⟩) c m ((rs.map fc').flatten)) put) (hm : m = rs.length) (hi : i < m) : Eff P W0 (.store t x y) ty e G (fun _ : Unit => True) (fun _ => undef) (fun _ => put (osl E sz (some ⟨b, o, none⟩) c m (((rs.set i r).map fc').flatten))) := by
 subst hm
 have h := Eff.storeCells (P := P) (W0 := W0) (ty := ty) (i := i * sz) (k := sz) ht hx hy (by simpa [Value.cells] using hlen r) fc (by simpa [Value.cells] using hones r) (by rw [← Nat.succ_mul]; exact Nat.mul_le_mul_right _ hi)
 rw [show (Value.agg (fc' r).toArray).cells.toList = fc' r by simp [Value.cells], flat_set hlen rs i r hi] at h
 exact h
end
def cellEq : Value → Value → Bool
 | .int _ a, .int _ b => a == b
 | .bool a, .bool b => a == b
 | _, _ => false
def kindB : Option IntKind → Value → Bool
 | none, .bool _ => true
 | some k, .int k' _ => decide (k = k')
 | _, _ => false
def fitK : List (Option IntKind) → List Value → Bool
 | [], [] => true
 | k :: ks, x :: xs => kindB k x && fitK ks xs
 | _, _ => false
theorem fitK_len : ∀ {ks : List (Option IntKind)} {xs : List Value}, fitK ks xs = true → xs.length = ks.length
 | [], [], _ => rfl
 | k :: ks, y :: ys, h => by
  simp only [fitK, Bool.and_eq_true] at h
  simp [fitK_len h.2]
 | [], _ :: _, h => by cases h
 | _ :: _, [], h => by cases h
theorem fitK_append : ∀ {a b : List (Option IntKind)} {xs : List Value}, fitK (a ++ b) xs = true → fitK a (xs.take a.length) = true ∧ fitK b (xs.drop a.length) = true
 | [], b, xs, h => by simpa [fitK] using h
 | k :: a, b, x :: xs, h => by
  simp only [List.cons_append, fitK, Bool.and_eq_true] at h
  obtain ⟨h1, h2⟩ := fitK_append h.2
  simp only [List.length_cons, List.take_succ_cons, List.drop_succ_cons, fitK, Bool.and_eq_true]
  exact ⟨⟨h.1, h1⟩, h2⟩
 | _ :: _, _, [], h => by cases h
def eqCells : List Value → List Value → Bool
 | [], [] => true
 | x :: xs, y :: ys => cellEq x y && eqCells xs ys
 | _, _ => false
theorem eqCells_append : ∀ {a b c d : List Value}, a.length = c.length → eqCells (a ++ b) (c ++ d) = (eqCells a c && eqCells b d)
 | [], b, [], d, _ => by simp [eqCells]
 | x :: a, b, y :: c, d, h => by
  simp only [List.cons_append, eqCells, eqCells_append (a := a) (c := c) (b := b) (d := d) (by simpa using h), Bool.and_assoc]
 | [], _, _ :: _, _, h => by simp at h
 | _ :: _, _, [], _, h => by simp at h
section
variable {P : Program} {W0 : World} {e : Env} {G R : List HProp} {ty : TypeId}
def flatFs (g : TypeId → Option (List (Option IntKind) × Bool)) : Nat → List Field → Option (List (Option IntKind))
 | _, [] => some []
 | o, f :: fs => if f.name ≠ "_" ∧ f.offset = o then (match g f.type with
  | some (ks, _) => (match flatFs g (o + ks.length) fs with | some r => some (ks ++ r) | none => none)
  | none => none) else none
def flat? (P : Program) : Nat → TypeId → Option (List (Option IntKind) × Bool)
 | 0, _ => none
 | d + 1, t =>
  match P.underlying t, P.info? t with
  | some .bool, some i => if i.size = 1 then some ([none], false) else none
  | some (.int k), some i => if i.size = 1 then some ([some k], false) else none
  | some (.struct fs), some i => if P.stoodInHeld t = true then none else
   (match flatFs (flat? P d) 0 fs.toList with | some ks => if ks.length = i.size then some (ks, true) else none | none => none)
  | some (.array len el), some i => match flat? P d el with
   | some (ks, _) => if len * ks.length = i.size then some ((List.replicate len ks).flatten, true) else none
   | none => none
  | _, _ => none
def valOf (ag : Bool) (xs : List Value) : Value := match ag with | true => .agg xs.toArray | false => xs.headD undef
theorem run_forIn_all {α β : Type} {w : World} (f : α → β → Sem (ForInStep β)) (b0 bF : β) (p : α → Bool) : ∀ (l : List α), (∀ a ∈ l, (f a b0).run P w = .ok (if p a then .yield b0 else .done bF) w) → (forIn (m := Sem) l b0 f).run P w = .ok (if l.all p then b0 else bF) w
 | [], _ => by simp [pure, Sem.run]
 | a :: l, h => by
  rw [List.forIn_cons]
  have h1 := h a (by simp)
  show ((f a b0).bind _).run P w = _
  rw [run_bind_ok h1]
  cases hp : p a with
  | true =>
   simp only [if_true]
   rw [run_forIn_all f b0 bF p l (fun x hx => h x (by simp [hx]))]
   simp [hp]
  | false => simp [hp, pure, Sem.run]
theorem eq_split {xs ys : List Value} (hl : xs.length = ys.length) (o m : Nat) : eqCells (xs.drop o) (ys.drop o) = (eqCells ((xs.drop o).take m) ((ys.drop o).take m) && eqCells (xs.drop (o + m)) (ys.drop (o + m))) := by
 have h1 : xs.drop o = (xs.drop o).take m ++ xs.drop (o + m) := by rw [← List.drop_drop, List.take_append_drop]
 have h2 : ys.drop o = (ys.drop o).take m ++ ys.drop (o + m) := by rw [← List.drop_drop, List.take_append_drop]
 have h3 := eqCells_append (a := (xs.drop o).take m) (b := xs.drop (o + m)) (c := (ys.drop o).take m) (d := ys.drop (o + m)) (by simp; omega)
 rw [← h1, ← h2] at h3; exact h3
theorem run_part {t m off : Nat} {ag : Bool} {xs : List Value} {w : World} (hs : ∃ i, P.info? t = some i ∧ i.size = m) (ha : (isAgg t).run P w = .ok ag w) (h1 : ag = false → m = 1) (ho : off + m ≤ xs.length) :
 (part t xs.toArray off).run P w = .ok (valOf ag ((xs.drop off).take m)) w := by
 obtain ⟨i, hi, rfl⟩ := hs
 unfold part
 show ((isAgg t).bind _).run P w = _
 rw [run_bind_ok ha]
 cases ag with
 | true =>
  simp only [if_true]
  have hz : (sizeOf t).run P w = .ok i.size w := by simp [sizeOf, typeInfo, program, bind, Sem.bind, pure, hi, Sem.run]
  show ((sizeOf t).bind _).run P w = _
  rw [run_bind_ok hz]
  simp only [pure, Sem.run, List.extract_toArray, List.extract_eq_take_drop, Nat.add_sub_cancel_left, valOf]
 | false =>
  have h2 := h1 J
  rw [h2] at ho ⊢
  have hlt : off < xs.length := by omega
  have h3 : (xs.drop off).take 1 = [xs[off]] := by rw [List.drop_eq_getElem_cons hlt]; rfl
  simp [h3, valOf, hlt, pure, Sem.run]
abbrev KB := List (Option IntKind) × Bool
theorem flatFs_all {g : TypeId → Option KB} {xs ys : List Value} : ∀ {l : List Field} {o : Nat} {ks : List (Option IntKind)}, flatFs g o l = some ks → fitK ks (xs.drop o) = true → fitK ks (ys.drop o) = true → o ≤ xs.length → xs.length = ys.length →
 (∀ f ∈ l, f.name ≠ "_" ∧ ∃ m b, g f.type = some (m, b) ∧ f.offset + m.length ≤ xs.length ∧ fitK m ((xs.drop f.offset).take m.length) = true ∧ fitK m ((ys.drop f.offset).take m.length) = true) ∧
 (l.all fun f => eqCells ((xs.drop f.offset).take ((g f.type).getD ([], false)).1.length) ((ys.drop f.offset).take ((g f.type).getD ([], false)).1.length)) = eqCells (xs.drop o) (ys.drop o)
 | [], o, ks, h, hx, hy, ho, hl => by
  simp only [flatFs, Option.some.injEq] at h
  subst h
  have h1 := fitK_len hx
  have h2 := fitK_len hy
  rw [List.length_eq_zero_iff.1 h1, List.length_eq_zero_iff.1 h2]
  simp [eqCells]
 | f :: l, o, ks, h, hx, hy, ho, hl => by
  simp only [flatFs] at h
  split at h
  ·rename_i hc
   obtain ⟨hn, rfl⟩ := hc
   split at h
   ·rename_i m b hg
    split at h
    ·rename_i r hr
     simp only [Option.some.injEq] at h
     subst h
     obtain ⟨hx1, hx2⟩ := fitK_append hx
     obtain ⟨hy1, hy2⟩ := fitK_append hy
     rw [List.drop_drop] at hx2 hy2
     have hlen := fitK_len hx
     simp only [List.length_drop, List.length_append] at hlen
     obtain ⟨h2, h3⟩ := flatFs_all hr hx2 hy2 (by omega) hl
     refine ⟨?_, ?_⟩
     ·intro f' hf'
      rcases List.mem_cons.1 hf' with rfl | hf'
      ·exact ⟨hn, m, b, hg, by omega, hx1, hy1⟩
      ·exact h2 f' hf'
     ·rw [List.all_cons, h3, hg]
      exact (eq_split hl f.offset m.length).symm
    ·cases h
   ·cases h
  ·cases h
theorem rep_all {ks : List (Option IntKind)} {xs ys : List Value} (hl : xs.length = ys.length) : ∀ (len o : Nat), fitK ((List.replicate len ks).flatten) (xs.drop (o * ks.length)) = true → fitK ((List.replicate len ks).flatten) (ys.drop (o * ks.length)) = true → o * ks.length ≤ xs.length →
 (∀ i ∈ List.range' o len, i * ks.length + ks.length ≤ xs.length ∧ fitK ks ((xs.drop (i * ks.length)).take ks.length) = true ∧ fitK ks ((ys.drop (i * ks.length)).take ks.length) = true) ∧
 ((List.range' o len).all fun i => eqCells ((xs.drop (i * ks.length)).take ks.length) ((ys.drop (i * ks.length)).take ks.length)) = eqCells (xs.drop (o * ks.length)) (ys.drop (o * ks.length))
 | 0, o, hx, hy, ho => by
  have h1 := fitK_len hx
  have h2 := fitK_len hy
  simp only [List.replicate_zero, List.flatten_nil, List.length_nil] at h1 h2
  rw [List.length_eq_zero_iff.1 h1, List.length_eq_zero_iff.1 h2]
  simp [eqCells]
 | len + 1, o, hx, hy, ho => by
  simp only [List.replicate_succ, List.flatten_cons] at hx hy
  have hlen := fitK_len hx
  simp only [List.length_drop, List.length_append] at hlen
  obtain ⟨hx1, hx2⟩ := fitK_append hx
  obtain ⟨hy1, hy2⟩ := fitK_append hy
  rw [List.drop_drop, ← Nat.succ_mul] at hx2 hy2
  obtain ⟨h2, h3⟩ := rep_all hl len (o + 1) hx2 hy2 (by rw [Nat.succ_mul]; omega)
  refine ⟨?_, ?_⟩
  ·intro i hi
   rw [List.range'_succ] at hi
   rcases List.mem_cons.1 hi with rfl | hi
   ·exact ⟨by omega, hx1, hy1⟩
   ·exact h2 i hi
  ·rw [List.range'_succ, List.all_cons, h3, Nat.succ_mul]
   exact (eq_split hl (o * ks.length) ks.length).symm
theorem run_step {d t off : Nat} {ks : List (Option IntKind)} {ag : Bool} {xs ys : List Value} {w : World} {β : Type} {b0 bF : β} (hs : ∃ i, P.info? t = some i ∧ i.size = ks.length) (ha : ∀ w, (isAgg t).run P w = .ok ag w) (h1 : ag = false → ks.length = 1) (ho : off + ks.length ≤ xs.length) (hl : xs.length = ys.length)
 (h : ∀ w, (Op.equalIn d t (valOf ag ((xs.drop off).take ks.length)) (valOf ag ((ys.drop off).take ks.length))).run P w = .ok (eqCells ((xs.drop off).take ks.length) ((ys.drop off).take ks.length)) w) :
 ((part t xs.toArray off).bind fun a => (part t ys.toArray off).bind fun b => (Op.equalIn d t a b).bind fun r => (if (!r) = true then Sem.pure (ForInStep.done bF) else Sem.pure (ForInStep.yield b0) : Sem (ForInStep β))).run P w =
   .ok (if eqCells ((xs.drop off).take ks.length) ((ys.drop off).take ks.length) then .yield b0 else .done bF) w := by
 rw [run_bind_ok (run_part hs (ha w) h1 ho), run_bind_ok (run_part hs (ha w) h1 (by omega)), run_bind_ok (h w)]
 cases eqCells ((xs.drop off).take ks.length) ((ys.drop off).take ks.length) <;> rfl
theorem flat_spec : ∀ (d : Nat) (t : TypeId) (ks : List (Option IntKind)) (ag : Bool), flat? P d t = some (ks, ag) → (∃ i, P.info? t = some i ∧ i.size = ks.length) ∧ (∀ w, (isAgg t).run P w = .ok ag w) ∧ (ag = false → ks.length = 1) ∧
 ∀ (j : Nat) (xs ys : List Value), fitK ks xs = true → fitK ks ys = true → ∀ w, (Op.equalIn (d + j) t (valOf ag xs) (valOf ag ys)).run P w = .ok (eqCells xs ys) w
 | 0, t, n, ag, h => by cases h
 | d + 1, t, n, ag, h => by
  have hdj : ∀ j, d + 1 + j = (d + j) + 1 := by omega
  unfold flat? at h
  split at h
  ·rename_i i hu hi
   split at h
   ·rename_i hs
    simp only [Option.some.injEq, Prod.mk.injEq] at h
    obtain ⟨rfl, rfl⟩ := h
    refine ⟨⟨i, hi, hs⟩, fun w => by simp [isAgg, underlying, program, bind, Sem.bind, pure, hu, Sem.run], fun _ => rfl, fun j xs ys hx hy w => ?_⟩
    obtain ⟨x, rfl⟩ := List.length_eq_one_iff.1 (fitK_len hx)
    obtain ⟨y, rfl⟩ := List.length_eq_one_iff.1 (fitK_len hy)
    rw [hdj, Op.equalIn]
    show ((underlying t).bind _).run P w = _
    rw [run_bind_ok (run_underlying hu w)]
    cases x <;> simp [fitK, kindB] at hx
    cases y <;> simp [fitK, kindB] at hy
    simp [valOf, eqCells, cellEq, pure, Sem.run]
   ·cases h
  ·rename_i k i hu hi
   split at h
   ·rename_i hs
    simp only [Option.some.injEq, Prod.mk.injEq] at h
    obtain ⟨rfl, rfl⟩ := h
    refine ⟨⟨i, hi, hs⟩, fun w => by simp [isAgg, underlying, program, bind, Sem.bind, pure, hu, Sem.run], fun _ => rfl, fun j xs ys hx hy w => ?_⟩
    obtain ⟨x, rfl⟩ := List.length_eq_one_iff.1 (fitK_len hx)
    obtain ⟨y, rfl⟩ := List.length_eq_one_iff.1 (fitK_len hy)
    rw [hdj, Op.equalIn]
    show ((underlying t).bind _).run P w = _
    rw [run_bind_ok (run_underlying hu w)]
    cases x <;> simp [fitK, kindB] at hx
    cases y <;> simp [fitK, kindB] at hy
    subst hx hy
    simp [valOf, eqCells, cellEq, pure, Sem.run]
   ·cases h
  ·rename_i fs i hu hi
   split at h
   ·cases h
   ·rename_i hst
    split at h
    ·rename_i ks hk
     split at h
     ·rename_i hs
      simp only [Option.some.injEq, Prod.mk.injEq] at h
      obtain ⟨rfl, rfl⟩ := h
      refine ⟨⟨i, hi, hs.symm⟩, fun w => by simp [isAgg, underlying, program, bind, Sem.bind, pure, hu, Sem.run], fun q => (by cases q), fun j xs ys hx hy w => ?_⟩
      rw [hdj, Op.equalIn]
      show ((underlying t).bind _).run P w = _
      rw [run_bind_ok (run_underlying hu w)]
      have hl : xs.length = ys.length := by rw [fitK_len hx, fitK_len hy]
      obtain ⟨h2, h3⟩ := flatFs_all (xs := xs) (ys := ys) hk (by simpa using hx) (by simpa using hy) (Nat.zero_le _) hl
      simp only [List.drop_zero] at h3
      simp only [valOf, program, bind, Sem.bind, hst, pure, if_false, Sem.run, Bool.false_eq_true]
      rw [← Array.forIn_toList]
      rw [run_bind_ok (run_forIn_all _ _ (some false, ()) (fun f => eqCells ((xs.drop f.offset).take ((flat? P d f.type).getD ([], false)).1.length) ((ys.drop f.offset).take ((flat? P d f.type).getD ([], false)).1.length)) fs.toList ?_)]
      ·rw [h3]
       cases eqCells xs ys <;> rfl
      ·intro f hf
       obtain ⟨hn, m, b, hg, ho, hx1, hy1⟩ := h2 f hf
       obtain ⟨q1, q2, q3, q4⟩ := flat_spec d f.type m b hg
       rw [if_pos hn, hg]
       exact run_step q1 q2 q3 ho hl (q4 j _ _ hx1 hy1)
     ·cases h
    ·cases h
  ·rename_i len el i hu hi
   split at h
   ·rename_i ks b hg
    split at h
    ·rename_i hs
     simp only [Option.some.injEq, Prod.mk.injEq] at h
     obtain ⟨rfl, rfl⟩ := h
     have hfl : ((List.replicate len ks).flatten).length = len * ks.length := by simp
     obtain ⟨q1, q2, q3, q4⟩ := flat_spec d el ks b hg
     refine ⟨⟨i, hi, by rw [hfl]; exact hs.symm⟩, fun w => by simp [isAgg, underlying, program, bind, Sem.bind, pure, hu, Sem.run], fun q => (by cases q), fun j xs ys hx hy w => ?_⟩
     rw [hdj, Op.equalIn]
     show ((underlying t).bind _).run P w = _
     rw [run_bind_ok (run_underlying hu w)]
     have hl : xs.length = ys.length := by rw [fitK_len hx, fitK_len hy]
     obtain ⟨h2, h3⟩ := rep_all (ks := ks) hl len 0 (by simpa using hx) (by simpa using hy) (by simp)
     simp only [Nat.zero_mul, List.drop_zero] at h3
     obtain ⟨ii, hii, hiz⟩ := q1
     have hz : (sizeOf el).run P w = .ok ks.length w := by simp [sizeOf, typeInfo, program, bind, Sem.bind, pure, hii, Sem.run, hiz]
     simp only [valOf]
     show ((sizeOf el).bind _).run P w = _
     rw [run_bind_ok hz]
     simp only [program, bind, Sem.bind, pure, Std.Legacy.Range.forIn_eq_forIn_range']
     rw [run_bind_ok (run_forIn_all _ _ (some false, ()) (fun i => eqCells ((xs.drop (i * ks.length)).take ks.length) ((ys.drop (i * ks.length)).take ks.length)) _ ?_)]
     ·simp only [Std.Legacy.Range.size, Nat.sub_zero, Nat.add_sub_cancel, Nat.div_one]
      rw [h3]
      cases eqCells xs ys <;> rfl
     ·intro k hk
      simp only [Std.Legacy.Range.size, Nat.sub_zero, Nat.add_sub_cancel, Nat.div_one] at hk
      obtain ⟨ho, hx1, hy1⟩ := h2 k hk
      exact run_step ⟨ii, hii, hiz⟩ q2 q3 ho hl (q4 j _ _ hx1 hy1)
    ·cases h
   ·cases h
  ·cases h
theorem run_agg_equal {d : Nat} {t : TypeId} {ks : List (Option IntKind)} {xs ys : List Value} {w : World} (hd : d ≤ 10000) (ht : flat? P d t = some (ks, true)) (hx : fitK ks xs = true) (hy : fitK ks ys = true) :
 (Op.equal t (.agg xs.toArray) (.agg ys.toArray)).run P w = .ok (eqCells xs ys) w := by
 have := (flat_spec d t ks true ht).2.2.2 (10000 - d) xs ys hx hy w
 rw [Nat.add_sub_of_le hd] at this
 exact this
theorem run_agg_guard {op : BinOp} {t : TypeId} {x y : Operand} {a b : Array Value} {w : World} (hg : P.eqGuardType P.depth t = false) : (eqGuard op t x y (.agg a) (.agg b)).run P w = .ok () w := by
 cases op <;> simp [eqGuard, program, bind, Sem.bind, pure, hg, Sem.run]
theorem Yield.agg_eql (d : Nat) {t t' : TypeId} {x y : Operand} {ks : List (Option IntKind)} {xs ys : List Value} {b : Bool} (hx : e.ev x = some (.agg xs.toArray)) (hy : e.ev y = some (.agg ys.toArray)) (hd : d ≤ 10000) (ht : flat? P d t = some (ks, true)) (hg : P.eqGuardType P.depth t = false)
 (hfx : fitK ks xs = true) (hfy : fitK ks ys = true) (hb : eqCells xs ys = b) : Yield P W0 (.binOp .eql t x y t') ty e G (.bool b) := fun ρ hρ w _ _ _ _ _ => by
 refine run_eqOf (hρ x _ hx) (hρ y _ hy) (run_agg_guard hg) ?_
 show ((Op.equal t (.agg xs.toArray) (.agg ys.toArray)).bind _).run P w = _
 rw [run_bind_ok (run_agg_equal hd ht hfx hfy), hb]; rfl
theorem Yield.agg_neq (d : Nat) {t t' : TypeId} {x y : Operand} {ks : List (Option IntKind)} {xs ys : List Value} {b : Bool} (hx : e.ev x = some (.agg xs.toArray)) (hy : e.ev y = some (.agg ys.toArray)) (hd : d ≤ 10000) (ht : flat? P d t = some (ks, true)) (hg : P.eqGuardType P.depth t = false)
 (hfx : fitK ks xs = true) (hfy : fitK ks ys = true) (hb : (!eqCells xs ys) = b) : Yield P W0 (.binOp .neq t x y t') ty e G (.bool b) := fun ρ hρ w _ _ _ _ _ => by
 refine run_eqOf (hρ x _ hx) (hρ y _ hy) (run_agg_guard hg) ?_
 show ((Op.equal t (.agg xs.toArray) (.agg ys.toArray)).bind _).run P w = _
 rw [run_bind_ok (run_agg_equal hd ht hfx hfy), hb]; rfl
theorem Yield.index_agg {t el : TypeId} {len : Nat} {x i : Operand} {cs : List Value} {v : Value} {sz by' z} {k : IntKind} {j : Int} (hu : P.underlying t = some (.array len el)) (ht : TI P el sz by' z false) (hx : e.ev x = some (.agg cs.toArray)) (hi : e.ev i = some (.int k j))
 (h0 : 0 ≤ j) (h1 : j < len) (hv : cs[j.toNat * sz]? = some v) : Yield P W0 (.index t x i) ty e G v := fun ρ hρ w _ _ _ _ _ => by
 have h2 : (part el cs.toArray (j.toNat * sz)).run P w = .ok v w := by
  unfold part
  show ((isAgg el).bind _).run P w = _
  rw [run_bind_ok (ht.run_agg w)]
  simp [hv, pure, Sem.run]
 have h3 : (Instr.index t (.agg cs.toArray) (.int k j)).run P w = .ok v w := by
  unfold Instr.index
  simp only [asIntOf, bind, pure, Sem.bind]
  rw [run_bind_ok (run_underlying hu w)]
  simp only [h0, h1, and_self, if_true]
  rw [run_bind_ok (ht.run_size w)]
  exact h2
 show ((Instr.index t (ρ x) (ρ i)).bind _).run P w = _
 rw [hρ x _ hx, hρ i _ hi, run_bind_ok h3]; rfl
end
section
variable {P : Program} {W0 : World} {e : Env} {G R : List HProp} {ty : TypeId}
section
variable {κ β : Type} [DecidableEq κ] {kf : κ → Value} {vf : β → Value} {l : List (κ × β)} {r : Nat}
theorem eraseIdx_map' {α γ : Type} (f : α → γ) : ∀ (l : List α) (i : Nat), (l.map f).eraseIdx i = (l.eraseIdx i).map f
 | [], i => by simp
 | x :: l, 0 => rfl
 | x :: l, i + 1 => by simp [eraseIdx_map' f l i]
end
end
end Go.Sl
namespace Go.Sl
open Go Go.RowKit Go.ChangeShapes Go.WideShapes
def Opn (P : Program) (W : World) (t : TypeId) (R : List Value → Prop) : Prop :=
 ∀ (H : Type) (enc : TypeId × Value → H) (n : Nat) (cs : List Value) (x : DataW H × List MemPlace), DataW.trod enc P W 0 (fun _ => true) true n t cs = some x → (∀ k ∈ x.1.weights P t, k ≤ reachBytes) → R cs
section
variable {P : Program} {W : World}
theorem Opn.int {t : TypeId} {k : IntKind} (hu : P.underlying t = some (.int k)) : Opn P W t (fun cs => ∃ n, cs = [.int k n] ∧ (Lit.int k n).wf = true) := fun H enc n cs x h _ => by
 obtain ⟨n, h1, _, h2⟩ := DataW.trod_int hu h
 exact ⟨n, h1, h2⟩
theorem Opn.mono {t : TypeId} {R R' : List Value → Prop} (h : Opn P W t R) (hr : ∀ cs, R cs → R' cs) : Opn P W t R' := fun H enc n cs x h1 h2 => hr _ (h H enc n cs x h1 h2)
theorem flatten_get {sz : Nat} : ∀ {els : List (List Value)}, (∀ l ∈ els, l.length = sz) → ∀ {i j : Nat}, j < sz → els.flatten[i * sz + j]? = (els[i]?).bind (·[j]?)
 | [], _, i, j, hj => by simp
 | l :: els, h, i, j, hj => by
  have hl : l.length = sz := h l (by simp)
  rw [List.flatten_cons]
  cases i with
  | zero => rw [List.getElem?_append_left (by omega)]; simp
  | succ i =>
   rw [List.getElem?_append_right (by rw [hl, Nat.succ_mul]; omega), hl, Nat.succ_mul, show i * sz + sz + j - sz = i * sz + j by omega, flatten_get (fun m hm => h m (by simp [hm])) hj]
   simp
theorem flatten_len {sz : Nat} : ∀ {els : List (List Value)}, (∀ l ∈ els, l.length = sz) → els.flatten.length = els.length * sz
 | [], _ => by simp
 | l :: els, h => by
  rw [List.flatten_cons, List.length_append, flatten_len (fun m hm => h m (by simp [hm])), h l (by simp), List.length_cons, Nat.succ_mul]; omega
theorem mapM_range {α : Type} {f : Nat → Option α} : ∀ {n : Nat} {l : List α}, (List.range n).mapM f = some l → l.length = n ∧ ∀ i, i < n → f i = l[i]? := by
 intro n l h
 have h1 : l.length = n := by simpa using mapM_some_length h
 refine ⟨h1, fun i hi => ?_⟩
 have := mapM_some_get h i i (by simp [hi])
 exact this
theorem Opn.slice {t e sz by' : Nat} {R : List Value → Prop} (hu : P.underlying t = some (.slice e)) (hsz : P.cellsOf e = sz) (h0 : 0 < sz) (hby : P.bytesOf e = by') (he : Opn P W e R) :
 Opn P W t (fun cs => ∃ a m c, ∃ els : List (List Value), cs = [.slice a m c] ∧ m ≤ c ∧ els.length = m ∧ (∀ l ∈ els, l.length = sz ∧ R l) ∧ SlAt W sz a m els.flatten ∧ m * by' ≤ reachBytes) := fun H enc n cs x h hw => by
 rcases DataW.trod_slice hu h with ⟨rfl, rfl⟩ | ⟨a, len, cap, elems, rest, n', rfl, rfl, rfl, hb, hl, hm, hlen, hel, hsp, hns⟩
 ·exact ⟨none, 0, 0, [], rfl, Nat.le_refl _, rfl, by simp, ⟨by simp, .inl J⟩, by simp⟩
 ·have hwt : (elems.length + rest.length) * by' ≤ reachBytes := by
   have := hw ((elems.length + rest.length) * P.bytesOf e) (by simp [DataW.weights, hu])
   rw [hby] at this; exact this
  have hwe : ∀ y ∈ elems, ∀ k ∈ y.1.weights P e, k ≤ reachBytes := by
   intro y hy k hk
   refine hw k ?_
   simp only [DataW.weights, hu, List.mem_cons, List.mem_append]
   right; left
   have : ∀ (ys : List (DataW H × List MemPlace)), y ∈ ys → k ∈ DataW.weightsAll P e (ys.map (·.1)) := by
    intro ys
    induction ys with
    | nil => intro h; cases h
    | cons z ys ih =>
     intro h
     simp only [List.map_cons, DataW.weightsAll, List.mem_append]
     rcases List.mem_cons.1 h with rfl | h
     ·exact .inl hk
     ·exact .inr (ih h)
   exact this elems hy
  have hcell : ∀ i, i < len → ∃ l, W.cells? 0 (a.add (i * sz)) sz = some l ∧ R l := by
   intro i hi
   have h1 := hel i hi
   rw [hsz] at h1
   have h2 : elems[i]? = some elems[i] := by simp [hlen, hi]
   rw [h2] at h1
   obtain ⟨l, hl1, hl2⟩ := Option.bind_eq_some_iff.1 h1
   exact ⟨l, hl1, he H enc n' l _ hl2 (hwe _ (List.getElem_mem (by omega)))⟩
  let els := (List.range len).map fun i => (W.cells? 0 (a.add (i * sz)) sz).getD []
  have hels : ∀ i, i < len → ∃ l, W.cells? 0 (a.add (i * sz)) sz = some l ∧ els[i]? = some l ∧ R l := by
   intro i hi
   obtain ⟨l, h1, h2⟩ := hcell i hi
   exact ⟨l, h1, by simp [els, hi, h1], h2⟩
  have hll : ∀ l ∈ els, l.length = sz ∧ R l := by
   intro l hl
   obtain ⟨i, hi, rfl⟩ := List.mem_map.1 hl
   have hi' : i < len := by simpa using hi
   obtain ⟨l, h1, h2⟩ := hcell i hi'
   rw [h1]
   refine ⟨?_, h2⟩
   unfold World.cells? at h1
   rw [if_pos (Nat.zero_le _)] at h1
   exact (mapM_range h1).1
  refine ⟨some a, len, cap, els, rfl, hl, by simp [els], hll, ⟨?_, ?_⟩, ?_⟩
  ·rw [flatten_len (fun l h => (hll l h).1)]; simp [els]
  ·by_cases hz : len = 0
   ·subst hz; left; simp [els]
   ·right
    have hspot : a.spot = none := by
     obtain ⟨l, h1, _⟩ := hcell 0 (by omega)
     unfold World.cells? at h1
     rw [if_pos (Nat.zero_le _)] at h1
     obtain ⟨q1, q2⟩ := mapM_range h1
     have h2 := q2 0 h0
     have h3 : l[0]? = some l[0] := by simp [q1, h0]
     rw [h3] at h2
     cases hs : a.spot with
     | none => rfl
     | some s =>
      exfalso
      have e1 : (a.add (0 * sz)).add 0 = a := by simp [Addr.add]
      rw [e1] at h2
      unfold World.cell? at h2
      split at h2
      ·simp [hs] at h2
      ·cases h2
    obtain ⟨b, o, sp⟩ := a
    simp only at hspot
    subst hspot
    refine ⟨b, o, rfl, fun q v hq => ?_⟩
    have hlen2 : els.flatten.length = len * sz := by rw [flatten_len (fun l h => (hll l h).1)]; simp [els]
    have hq2 := le_of_get hq
    rw [hlen2] at hq2
    have hi : q / sz < len := Nat.div_lt_of_lt_mul (by rw [Nat.mul_comm]; exact hq2)
    have hj : q % sz < sz := Nat.mod_lt _ h0
    have hqe : q = q / sz * sz + q % sz := by rw [Nat.mul_comm]; exact (Nat.div_add_mod q sz).symm
    obtain ⟨l, h1, h2, _⟩ := hels (q / sz) hi
    rw [hqe, flatten_get (fun l h => (hll l h).1) hj, h2] at hq
    simp only [Option.bind_some] at hq
    unfold World.cells? at h1
    rw [if_pos (Nat.zero_le _)] at h1
    have h3 := (mapM_range h1).2 (q % sz) hj
    rw [hq, add_at, add_at, Nat.add_assoc, ← hqe] at h3
    exact h3
  ·have : len * by' ≤ (elems.length + rest.length) * by' := Nat.mul_le_mul_right _ (by omega)
   omega
def OpnF (P : Program) (W : World) (l : List (Nat × Nat × Nat)) (p : Nat) (Q : List Value → Prop) : Prop :=
 ∀ cs : List Value, cs.length = p + (l.map (·.2.2)).sum → (∀ q ∈ l, ∃ (H : Type) (enc : TypeId × Value → H) (n : Nat) (x : DataW H × List MemPlace), DataW.trod enc P W 0 (fun _ => true) true n q.1 ((cs.drop q.2.1).take q.2.2) = some x ∧ ∀ k ∈ x.1.weights P q.1, k ≤ reachBytes) → Q (cs.drop p)
theorem OpnF.nil {p : Nat} : OpnF P W [] p (fun cs => cs = []) := fun cs h _ => by simp at h; exact List.drop_eq_nil_of_le (by omega)
theorem OpnF.cons {t p s : Nat} {l : List (Nat × Nat × Nat)} {R Q : List Value → Prop} (h : Opn P W t R) (k : OpnF P W l (p + s) Q) : OpnF P W ((t, p, s) :: l) p (fun cs => ∃ a b, cs = a ++ b ∧ a.length = s ∧ R a ∧ Q b) := fun cs hl hq => by
 simp only [List.map_cons, List.sum_cons] at hl
 refine ⟨(cs.drop p).take s, cs.drop (p + s), ?_, by simp; omega, ?_, k cs (by omega) (fun q hq' => hq q (by simp [hq']))⟩
 ·rw [← List.drop_drop, List.take_append_drop]
 ·obtain ⟨H, enc, n, x, h1, h2⟩ := hq (t, p, s) (by simp)
  exact h H enc n _ x h1 h2
theorem Opn.of_fields {t : TypeId} {fs : Array Field} {l : List (Nat × Nat × Nat)} {Q : List Value → Prop} (hu : P.underlying t = some (.struct fs)) (hl : (fs.toList.map fun f => (f.type, f.offset, P.cellsOf f.type)) = l) (hsz : P.cellsOf t = (l.map (·.2.2)).sum) (h : OpnF P W l 0 Q) : Opn P W t Q := fun H enc n cs x hx hw => by
 obtain ⟨xs, n', rfl, rfl, hlen, hxl, hf⟩ := DataW.trod_struct hu hx
 have hq := h cs (by omega) ?_
 ·simpa using hq
 intro q hq
 subst hl
 obtain ⟨i, hi, rfl⟩ := List.getElem_of_mem hq
 have hi' : i < fs.size := by simpa using hi
 have hfi : fs[i]? = some fs[i] := by simp [hi']
 have h1 := hf i fs[i] hfi
 have h2 : xs[i]? = some xs[i] := by simp [hxl, hi']
 rw [h2] at h1
 refine ⟨H, enc, n', xs[i], by simpa using h1, fun k hk => hw k ?_⟩
 simp only [DataW.weights, hu]
 have hmem : ∀ (ts : List TypeId) (ds : List (DataW H)) (i : Nat) (t : TypeId) (d : DataW H), ts[i]? = some t → ds[i]? = some d → k ∈ d.weights P t → k ∈ DataW.weightsEach P ts ds := by
  intro ts
  induction ts with
  | nil => intro ds i t d h; simp at h
  | cons t' ts ih =>
   intro ds i t d h1 h2 h3
   cases ds with
   | nil => simp at h2
   | cons d' ds =>
    simp only [DataW.weightsEach, List.mem_append]
    cases i with
    | zero => simp at h1 h2; subst h1 h2; exact .inl h3
    | succ i => exact .inr (ih ds i t d (by simpa using h1) (by simpa using h2) h3)
 refine hmem (fs.toList.map (·.type)) (xs.map (·.1)) i fs[i].type xs[i].1 (by
  rw [List.getElem?_map, Array.getElem?_toList, hfi]; rfl) (by rw [List.getElem?_map, h2]; rfl) ?_
 simpa using hk
theorem Opn.param {r : Reach} {H : Type} {enc : TypeId × Value → H} {b0 : Nat} {t e : TypeId} {v : Value} {d : DataW H} {ps : List MemPlace} {R : List Value → Prop} (hu : P.underlying t = some (.slice e)) (ho : Opn P W t R) (hval : Value.okWide P W r b0 t v)
 (hd : DataW.Trod enc P W 0 (fun _ => true) true t v d ps) (hw : ∀ k ∈ d.weights P t, k ≤ reachBytes) : R [v] := by
 obtain ⟨a, m, c, rfl⟩ := okWide_slice hu hval
 obtain ⟨n, hn⟩ := hd
 exact ho H enc n _ _ hn hw
theorem SlAt.old {sz : Nat} {a : Option Addr} {m : Nat} {xs : List Value} {G R : List HProp} (h : SlAt W sz a m xs) (x : Ext G (old W) R) : SlR W G sz a m xs := fun w hw => by
 obtain ⟨h1, h2⟩ := h
 refine ⟨h1, ?_⟩
 rcases h2 with h2 | ⟨b, o, ha, h2⟩
 ·exact .inl h2
 ·exact .inr ⟨b, o, ha, fun i v hi => Cel.of_old x (h2 i v hi) w hw⟩
theorem bytes_of : ∀ {els : List (List Value)}, (∀ l ∈ els, l.length = 1 ∧ ∃ n, l = [Value.int .u8 n] ∧ (Lit.int .u8 n).wf = true) → ∃ bs : List UInt8, els.flatten = bytesV bs
 | [], _ => ⟨[], rfl⟩
 | l :: els, h => by
  obtain ⟨bs, hb⟩ := bytes_of (els := els) (fun m hm => h m (by simp [hm]))
  obtain ⟨_, n, rfl, hw⟩ := h l (by simp)
  refine ⟨UInt8.ofNat n.toNat :: bs, ?_⟩
  have hn : 0 ≤ n ∧ n ≤ 255 := by simpa [Lit.wf, IntKind.min, IntKind.max, IntKind.signed, IntKind.bits] using hw
  rw [List.flatten_cons, hb]
  simp only [bytesV, List.map_cons, byteV, List.singleton_append, List.cons.injEq, Value.int.injEq, true_and, and_true]
  rw [UInt8.toNat_ofNat']; omega
theorem Opn.bytes {t e : Nat} (hu : P.underlying t = some (.slice e)) (hue : P.underlying e = some (.int .u8)) (hsz : P.cellsOf e = 1) (hby : P.bytesOf e = 1) :
 Opn P W t (fun cs => ∃ a c, ∃ bs : List UInt8, cs = [.slice a bs.length c] ∧ bs.length ≤ c ∧ SlAt W 1 a bs.length (bytesV bs) ∧ bs.length ≤ reachBytes) :=
 (Opn.slice hu hsz (by decide) hby (Opn.int hue)).mono fun cs ⟨a, m, c, els, h1, h2, h3, h4, h5, h6⟩ => by
  obtain ⟨bs, hb⟩ := bytes_of h4
  have hm : m = bs.length := by
   have := h5.1
   rw [hb, bytesV_length] at this; omega
  subst hm
  exact ⟨a, c, bs, h1, h2, by rw [← hb]; exact h5, by omega⟩
theorem list_choose {α β : Type} {f : β → α} {Q : β → Prop} : ∀ {l : List α}, (∀ x ∈ l, ∃ y, x = f y ∧ Q y) → ∃ ys : List β, l = ys.map f ∧ ∀ y ∈ ys, Q y
 | [], _ => ⟨[], rfl, by simp⟩
 | x :: l, h => by
  obtain ⟨y, rfl, hy⟩ := h x (by simp)
  obtain ⟨ys, rfl, hys⟩ := list_choose (l := l) (fun z hz => h z (by simp [hz]))
  exact ⟨y :: ys, rfl, by intro z hz; rcases List.mem_cons.1 hz with rfl | hz; exact hy; exact hys z hz⟩
theorem Opn.recs {α : Type} {f : α → List Value} {OK : α → Prop} {t e sz by' : Nat} (hu : P.underlying t = some (.slice e)) (hsz : P.cellsOf e = sz) (h0 : 0 < sz) (hby : P.bytesOf e = by') (he : Opn P W e (fun cs => ∃ x, cs = f x ∧ OK x)) :
 Opn P W t (fun cs => ∃ a c, ∃ xs : List α, cs = [.slice a xs.length c] ∧ xs.length ≤ c ∧ (∀ x ∈ xs, OK x) ∧ SlAt W sz a xs.length ((xs.map f).flatten) ∧ xs.length * by' ≤ reachBytes) :=
 (Opn.slice hu hsz h0 hby he).mono fun cs ⟨a, m, c, els, h1, h2, h3, h4, h5, h6⟩ => by
  obtain ⟨xs, rfl, hxs⟩ := list_choose (l := els) (f := f) (Q := OK) (fun l hl => (h4 l hl).2)
  have : xs.length = m := by simpa using h3
  subst this
  exact ⟨a, c, xs, h1, h2, hxs, h5, h6⟩
theorem weights_mem {H : Type} {k : Nat} : ∀ {ts : List TypeId} {ds : List (DataW H)} (i : Nat) {t : TypeId} {d : DataW H}, ts[i]? = some t → ds[i]? = some d → k ∈ d.weights P t → k ∈ DataW.weightsEach P ts ds
 | [], _, i, _, _, h, _, _ => by simp at h
 | t' :: ts, [], i, _, _, _, h, _ => by simp at h
 | t' :: ts, d' :: ds, 0, _, _, h1, h2, h3 => by
  simp only [List.getElem?_cons_zero, Option.some.injEq] at h1 h2
  subst h1 h2; simp only [DataW.weightsEach, List.mem_append]; exact .inl h3
 | t' :: ts, d' :: ds, i + 1, _, _, h1, h2, h3 => by
  simp only [DataW.weightsEach, List.mem_append]
  exact .inr (weights_mem i (by simpa using h1) (by simpa using h2) h3)
theorem weights_le {H : Type} {ts : List TypeId} {ds : List (DataW H)} (h : (DataW.weightsEach P ts ds).all (· ≤ reachBytes) = true) (i : Nat) {t : TypeId} {d : DataW H} (h1 : ts[i]? = some t) (h2 : ds[i]? = some d) : ∀ k ∈ d.weights P t, k ≤ reachBytes := fun k hk => by
 have := List.all_eq_true.1 h k (weights_mem i h1 h2 hk)
 simpa using this
theorem params_ok {ts : Array TypeId} (h : (ts.toList.all fun t => P.readableRec t && decide (t < P.types.size)) = true) : ∀ t ∈ ts.toList, P.readableRec t = true ∧ t < P.types.size := fun t ht => by
 have := List.all_eq_true.1 h t ht
 simpa using this
theorem law_post {H : Type} {enc : TypeId × Value → H} {s : ChangeSpec} {f : Func} {apart : Bool} {W W' : World} {args : Array Value} {ds gs : List (DataW H)} {before : List MemPlace} {tb : TypeId}
 (hl : laidOutB P = true) (hr : ∀ t ∈ f.params.toList, P.readableRec t = true ∧ t < P.types.size) (hres : f.resultTypes = #[tb]) (hb : P.underlying tb = some .bool)
 (hW : DataW.Whole enc P f.params.toList s.vars apart W args.toList ds gs before) (hv : s.vars = []) (hfn : s.fn H (ds ++ gs) = { results := [.lit (.bool true)], args := ds }) (hbel : Below W.heap.size W W') :
 s.post enc P f apart true false false W args (.bool true) W' := by
 have hW' := hW
 obtain ⟨p, q, hA, hV, rfl, hfz, hnd⟩ := hW
 rw [hv] at hV
 obtain ⟨rfl, rfl⟩ := trodVars_none hV
 have hstay : ∀ (ts : List TypeId) (vs : List Value) (ds : List (DataW H)) (p : List MemPlace), (∀ t ∈ ts, P.readableRec t = true ∧ t < P.types.size) → (∀ m ∈ p, m.block < W.heap.size) →
  DataW.TrodAll enc P W 0 (fun _ => true) true ts vs ds p → DataW.TrodAll enc P W' 0 (fun b => decide (b < W.heap.size)) true ts vs ds p := by
  intro ts
  induction ts with
  | nil => intro vs ds p _ _ h; obtain ⟨rfl, rfl, rfl⟩ := trodAll_nil h; exact trodAll_mk0
  | cons t ts ih =>
   intro vs ds p ht hp h
   obtain ⟨v, vs', d, ds', p1, q1, rfl, rfl, rfl, h1, h2⟩ := trodAll_cons h
   refine trodAll_cons_mk ?_ (ih vs' ds' q1 (fun t ht' => ht t (by simp [ht'])) (fun m hm => hp m (by simp [hm])) h2)
   obtain ⟨r1, r2⟩ := ht t (by simp)
   exact Go.WideElems.Trod_stays hl r1 r2 h1 (fun m hm => hbel.same (hp m (by simp [hm]))) (fun m hm => by simpa using hp m (by simp [hm]))
 have hlt : ∀ m ∈ p, m.block < W.heap.size := fun m hm => hW'.lt m (by simp [hm])
 refine ⟨ds, [], p ++ [], [], p, [], hW', ?_, ?_, ?_, hbel.frame _, fun h => by cases h⟩
 ·rw [hfn, hres]
  exact trodAll_mk1 (shut_bool hb _)
 ·rw [hfn]; exact hstay _ _ _ _ hr hlt hA
 ·rw [hfn, hv]; rfl
end
end Go.Sl
namespace Go.Sl
open Go Go.RowKit
section
variable {P : Program} {W0 : World} {e : Env} {G R : List HProp} {ty : TypeId} {E sz : Nat} {a : Option Addr} {c m : Nat} {xs : List Value}
theorem flat_setf {α : Type} {f : α → List Value} (hf : ∀ x, (f x).length = sz) {x y : α} {j : Nat} {v : Value} (hy : f y = (f x).set j v) (hj : j < sz) : ∀ {xs : List α} {i : Nat}, xs[i]? = some x → ((xs.map f).flatten).set (i * sz + j) v = ((xs.set i y).map f).flatten
 | [], i, h => by simp at h
 | z :: xs, 0, h => by
  simp only [List.getElem?_cons_zero, Option.some.injEq] at h
  subst h
  simp only [Nat.zero_mul, Nat.zero_add, List.set_cons_zero, List.map_cons, List.flatten_cons]
  rw [List.set_append_left _ _ (by rw [hf]; exact hj), hy]
 | z :: xs, i + 1, h => by
  have ih := flat_setf hf hy hj (xs := xs) (i := i) (by simpa using h)
  simp only [List.set_cons_succ, List.map_cons, List.flatten_cons]
  rw [← ih, List.set_append_right _ _ (by rw [hf, Nat.succ_mul]; omega), hf, show (i + 1) * sz + j - sz = i * sz + j by rw [Nat.succ_mul]; omega]
theorem fV {α : Type} {fc' : α → List Value} {t : TypeId} {x y : Operand} {b o i : Nat} (j : Nat) {r r' : α} {rs : List α} {v : Value} {put : HProp → List HProp} {by' z ag} (hlen : ∀ x, (fc' x).length = sz) (hr : rs[i]? = some r) (hr' : fc' r' = (fc' r).set j v) (hj : j < sz) (ht : TI P t 1 by' z ag) (hx : e.ev x = some (.pointer (some ⟨b, o + i * sz + j, none⟩))) (hy : e.ev y = some v)
 (fc : Foc G (osl E sz (some ⟨b, o, none⟩) c m ((rs.map fc').flatten)) put) (h1 : one v = true) (hm : m = rs.length) : Eff P W0 (.store t x y) ty e G (fun _ : Unit => True) (fun _ => undef) (fun _ => put (osl E sz (some ⟨b, o, none⟩) c m (((rs.set i r').map fc').flatten))) := by
 subst hm
 have hi := (List.getElem?_eq_some_iff.1 hr).1
 have h := iV (P := P) (W0 := W0) (ty := ty) (i := i * sz + j) ht (by rw [hx, Nat.add_assoc]) hy fc h1 (by
  have : i * sz + sz ≤ rs.length * sz := by rw [← Nat.succ_mul]; exact Nat.mul_le_mul_right _ hi
  omega)
 rw [flat_setf hlen hr' hj hr] at h
 exact h
theorem xV {t el : TypeId} {len : Nat} {x : Operand} {lo hi : Option Operand} {b o sz by' z ag} {l h : Int} (hu : P.underlying t = some (.array len el)) (ht : TI P el sz by' z ag) (hx : e.ev x = some (.pointer (some ⟨b, o, none⟩)))
 (hl : Bound e lo 0 l) (hh : Bound e hi len h) (h0 : 0 ≤ l) (h1 : l ≤ h) (h2 : h ≤ len) (h3 : l < len) : Yield P W0 (.slice t x lo hi none) ty e G (.slice (some ⟨b, o + l.toNat * sz, none⟩) (h.toNat - l.toNat) (len - l.toNat)) := fun ρ hρ w _ _ _ _ _ => by
 have hs : (Instr.sliceAt t (.pointer (some ⟨b, o, none⟩)) (lo.map ρ) (hi.map ρ) none).run P w = .ok (.slice (some ⟨b, o + l.toNat * sz, none⟩) (h.toNat - l.toNat) (len - l.toNat)) w := by
  unfold Instr.sliceAt
  show ((underlying t).bind _).run P w = _
  rw [run_bind_ok (run_underlying hu w)]
  simp only []
  show ((Instr.sureAddr _).bind _).run P w = _
  rw [run_bind_ok (show (Instr.sureAddr (.pointer (some ⟨b, o, none⟩))).run P w = .ok ⟨b, o, none⟩ w by rfl)]
  show ((Instr.sliceBounds _ _ _ _ _ _).bind _).run P w = _
  rw [run_bind_ok (run_sliceBounds hρ hl hh h0 h1 h2 w)]
  simp only []
  show ((sizeOf el).bind _).run P w = _
  rw [run_bind_ok (ht.run_size w)]
  rw [if_neg (by omega), add_at]
  rfl
 show ((Instr.sliceAt t (ρ x) (lo.map ρ) (hi.map ρ) ((Option.none : Option Operand).map ρ)).bind _).run P w = _
 rw [hρ x _ hx, Option.map_none, run_bind_ok hs]; rfl
theorem over_over {cs ys : List Value} {o k j : Nat} (h : (cs.drop o).take k = xs) (hj : j + ys.length ≤ k) (ho : o + k ≤ cs.length) : ((over cs (o + j) ys).drop o).take k = over xs j ys := by
 subst h
 unfold over
 have e0 : (cs.take (o + j)).length = o + j := by rw [List.length_take]; omega
 rw [List.append_assoc, List.drop_append, e0, show o - (o + j) = 0 by omega, List.drop_zero, List.drop_take, show o + j - o = j by omega, List.take_append, List.length_take, List.length_drop]
 have e1 : min j (cs.length - o) = j := by omega
 rw [e1, List.take_take, List.take_take, show min k j = j by omega, show min j k = j by omega, List.append_assoc]
 congr 1
 rw [List.take_append, List.take_of_length_le (by omega : ys.length ≤ k - j)]
 congr 1
 rw [List.drop_take, List.drop_drop]
 congr 1
 ·omega
 ·congr 1; omega
theorem Eff.copyIn {x y : Operand} {st st2 el : TypeId} {a2 : Option Addr} {b o j n cn k c2 by' : Nat} {z : Value} {ag : Bool} {ys : List Value} {put : HProp → List HProp} {ats : Array TypeId}
 (hx : e.ev x = some (.slice (some ⟨b, o + j, none⟩) n cn)) (hy : e.ev y = some (.slice a2 k c2)) (hats : ats = #[st, st2]) (hu : P.underlying st = some (.slice el)) (ht : TI P el 1 by' z ag)
 (fc : Foc G (osl E sz (some ⟨b, o, none⟩) c m xs) put) (hj : j + n ≤ m * sz) (hr : SlR W0 G 1 a2 k ys) (hone : ∀ v ∈ ys, one v = true) :
 Eff P W0 (.call { callee := .builtin .copy, args := #[x, y], argTypes := ats }) ty e G (fun _ : Unit => True) (fun _ => .int .i64 (min k n : Nat)) (fun _ => put (osl E sz (some ⟨b, o, none⟩) c m (over xs j (ys.take (min k n))))) := fun ρ hρ w hw _ _ _ _ => by
 subst hats
 obtain ⟨R, hR⟩ := foc_ext fc
 have hy0 := hr w hw
 have hevs : e.evs [x, y] = some [.slice (some ⟨b, o + j, none⟩) n cn, .slice a2 k c2] := by simp only [Env.evs, hx, hy]
 obtain ⟨f, hf, hA⟩ := Sat.ext hR hw
 obtain ⟨h1, h2, h3⟩ := hA
 have hpre : ∀ (w' : World), ((Go.storeCells ⟨b, o + j, none⟩ (ys.take (min k n))).run P w = .ok () w') →
  (Builtin.copy_ #[st, st2] ty #[.slice (some ⟨b, o + j, none⟩) n cn, .slice a2 k c2]).run P w = .ok (.int .i64 (min k n : Nat)) w' := by
  intro w' hst
  unfold Builtin.copy_
  simp only [List.getElem?_toArray, List.getElem?_cons_zero, List.getElem?_cons_succ]
  show ((underlying st).bind _).run P w = _
  rw [run_bind_ok (run_underlying hu w)]
  simp only [bind]
  rw [run_bind_ok (show (Builtin.lenOf (.slice a2 k c2)).run P w = .ok k w by rfl)]
  rw [run_bind_ok (ht.run_size w)]
  have hfc := run_firstCells_le (P := P) (cc := c2) hy0 (Nat.min_le_left k n)
  rw [Nat.mul_one] at hfc
  rw [run_bind_ok hfc]
  simp only []; rw [run_bind_ok hst]; rfl
 have hlen : (ys.take (min k n)).length = min k n := by
  rw [List.length_take, hy0.1]; omega
 have hcm : m * sz ≤ c * sz := Nat.mul_le_mul_right _ h2
 generalize hY : ys.take (min k n) = Y at *
 have hYone : ∀ v ∈ Y, one v = true := by rw [← hY]; exact fun v hv => hone v (List.mem_of_mem_take hv)
 rcases h3 with ⟨q, _⟩ | ⟨b', o', cs, fr, q, hbk, hfr, ho, htk⟩
 ·cases q
 ·cases q
  have hwb := hf _ _ hbk
  refine ⟨(), setObjW w b (.cells (over cs (o + j) Y).toArray E fr), trivial, ?_, .inl (run_built (s := Builtin.copy_ #[st, st2] ty #[.slice (some ⟨b, o + j, none⟩) n cn, .slice a2 k c2]) hρ hevs (fun _ => rfl) (hpre _ ?_))⟩
  ·refine Sat.write (b := b) (o := .cells cs.toArray E fr) fc hw hwb ?_
   intro f' hle' hf'
   obtain ⟨h1', _, h3'⟩ := hf'
   rcases h3' with ⟨h, _⟩ | ⟨b', o', cs', fr', hq, hbk', _, _, htk'⟩
   ·cases h
   ·cases hq
    have hsame : some (Obj.cells cs'.toArray E fr') = some (Obj.cells cs.toArray E fr) := (hle' _ _ hbk').symm.trans hwb
    simp only [Option.some.injEq, Obj.cells.injEq] at hsame
    obtain ⟨q1, _, q3⟩ := hsame
    have q1 := List.toArray_inj q1
    subst q1 q3
    have hol : (over cs' (o + j) Y).length = cs'.length := over_length (by omega)
    refine ⟨hbk', ?_, h2, .inr ⟨b, o, over cs' (o + j) Y, fr', rfl, by simp [updH], by rw [hol]; exact hfr, by rw [hol]; exact ho, ?_⟩⟩
    ·rw [over_length (by omega)]; exact h1
    ·exact over_over htk (by omega) (by omega)
  ·have := run_storeCells (P := P) (b := b) (o := o + j) (t := E) Y 0 w cs hwb hfr (by omega) hYone
   simpa using this
theorem SlR.part {b o i k : Nat} {ys : List Value} (s : SlR W0 G sz (some ⟨b, o, none⟩) m xs) (hy : (xs.drop i).take k = ys) (hk : i + k ≤ m * sz) : SlR W0 G 1 (some ⟨b, o + i, none⟩) k ys := fun w hw => by
 have h1 := (s w hw).1
 exact SlR.of_row (s.row i k hy) (by rw [← hy, List.length_take, List.length_drop]; omega) w hw
theorem blk_osl {b n : Nat} {cs : List Value} (h : cs.length = n) (x : Heaplet) (hb : blk b cs E x) : osl E 1 (some ⟨b, 0, none⟩) n n cs x :=
 ⟨by omega, Nat.le_refl _, .inr ⟨b, 0, cs, (0, 0), rfl, hb, NoFr.zero _, by omega, by rw [List.drop_zero, ← h]; simp⟩⟩
theorem Ctr.to {f : FuncId} {args : List Value} {α β : Type} {φ : α → Prop} {v : α → Value} {G' : α → List HProp} {ψ : β → Prop} {u : β → Value} {D : β → List HProp} (h : Ctr P W0 f args G φ v G') (g : α → β) (hφ : ∀ x, φ x → ψ (g x)) (hv : ∀ x, v x = u (g x)) (hG : ∀ x, Imp (G' x) (D (g x))) : Ctr P W0 f args G ψ u D := fun w hw =>
 (h w hw).mono fun r w' ⟨x, hx, hr, hs⟩ => ⟨g x, hφ x hx, by rw [hr, hv], hs.imp (hG x)⟩
theorem Yield.slice_in {t el : TypeId} {x : Operand} {lo hi : Option Operand} {b o m c sz by' z ag} {l h : Int} (hu : P.underlying t = some (.slice el)) (ht : TI P el sz by' z ag) (hx : e.ev x = some (.slice (some ⟨b, o, none⟩) m c))
 (hl : Bound e lo 0 l) (hh : Bound e hi m h) (h0 : 0 ≤ l) (h1 : l ≤ h) (h2 : h ≤ c) (h3 : l < c) : Yield P W0 (.slice t x lo hi none) ty e G (.slice (some ⟨b, o + l.toNat * sz, none⟩) (h.toNat - l.toNat) (c - l.toNat)) := by
 have := Yield.slice (W0 := W0) (G := G) (ty := ty) hu ht hx hl hh h0 h1 h2
 rw [Option.map_some, show cutAt ⟨b, o, none⟩ l.toNat c sz = ⟨b, o + l.toNat * sz, none⟩ by unfold cutAt; rw [if_neg (by omega), add_at]] at this
 exact this
theorem Eff.storeByteS {t : TypeId} {x y : Operand} {b o o' i : Nat} {z : UInt8} {bs : List UInt8} {put : HProp → List HProp} {by' zv ag} (ht : TI P t 1 by' zv ag) (ho : o' = o + i) (hx : e.ev x = some (.pointer (some ⟨b, o', none⟩))) (hy : e.ev y = some (byteV z))
 (fc : Foc G (oby E (some ⟨b, o, none⟩) c bs) put) (hi : i < bs.length) : Eff P W0 (.store t x y) ty e G (fun _ : Unit => True) (fun _ => undef) (fun _ => put (oby E (some ⟨b, o, none⟩) c (bs.set i z))) := by
 subst ho
 have := iV (P := P) (W0 := W0) (ty := ty) ht hx hy fc J (by omega)
 rw [bytesV_set] at this
 unfold oby; rw [List.length_set]; exact this
end
theorem Imp.perm {L L' : List HProp} (h : L.Perm L') : Imp L L' := by
 induction h with
 | nil => exact Imp.refl _
 | cons x _ ih => exact Imp.cons ih
 | swap x y l => exact fun _ s => Sep.swap s
 | trans _ _ h1 h2 => exact Imp.trans h1 h2
theorem erase_perm {α : Type} {L : List α} {i : Nat} (hi : i < L.length) : (L[i] :: L.eraseIdx i).Perm L := by
 have e : L = L.take i ++ L[i] :: L.drop (i + 1) := by rw [← List.drop_eq_getElem_cons hi, List.take_append_drop]
 rw [List.eraseIdx_eq_take_drop_succ]
 conv => rhs; rw [e]
 exact List.perm_middle.symm
theorem star_take {L : List HProp} {G : List HProp} {i : Nat} {A : HProp} (h : L[i]? = some A) : Imp (Star L :: G) (A :: Star (L.eraseIdx i) :: G) := by
 obtain ⟨hi, rfl⟩ := List.getElem?_eq_some_iff.1 h
 refine Imp.trans star_open (Imp.trans (Imp.perm (L' := L[i] :: (L.eraseIdx i ++ G)) ?_) (Imp.cons star_close))
 exact ((erase_perm hi).symm).append_right G
theorem star_put {L : List HProp} {G : List HProp} {i : Nat} {A B : HProp} (h : L[i]? = some A) : Imp (B :: Star (L.eraseIdx i) :: G) (Star (L.set i B) :: G) := by
 obtain ⟨hi, rfl⟩ := List.getElem?_eq_some_iff.1 h
 refine Imp.trans (Imp.cons star_open) (Imp.trans (Imp.perm (L' := L.set i B ++ G) ?_) star_close)
 have hp := erase_perm (L := L.set i B) (i := i) (by simpa using hi)
 rw [List.getElem_set_self, List.eraseIdx_set_eq] at hp
 exact hp.append_right G
theorem star_add {L : List HProp} {G : List HProp} {A : HProp} : Imp (A :: Star L :: G) (Star (L ++ [A]) :: G) := by
 refine Imp.trans (Imp.cons star_open) (Imp.trans (Imp.perm (L' := (L ++ [A]) ++ G) ?_) star_close)
 rw [List.append_assoc]
 exact (List.perm_middle (a := A) (l₁ := L) (l₂ := G)).symm
theorem star_join {L M : List HProp} {G : List HProp} : Imp (Star L :: Star M :: G) (Star (L ++ M) :: G) := by
 refine Imp.trans (Imp.cons star_open) (Imp.trans star_open (Imp.trans ?_ star_close))
 rw [List.append_assoc]; exact Imp.refl _
theorem star_nil {G : List HProp} : Imp G (Star [] :: G) := star_close (D := [])
section
variable {P : Program} {W0 : World} {n : Nat} {ds : List Deferred} {Q : Exit → Act → World → Prop} {e : Env} {G R : List HProp}
theorem RdB.of_star {L : List HProp} {E : Nat} {a : Option Addr} {c : Nat} {bs : List UInt8} (x : Ext G (Star L) R) (h : oby E a c bs ∈ L) : RdB W0 G a c bs := by
 obtain ⟨i, hi⟩ := List.getElem?_of_mem h
 exact RdB.imp (RdB.of_osl (G := oby E a c bs :: Star (L.eraseIdx i) :: R) Ext.here J J) (Imp.trans x.1 (star_take hi))
theorem CG.scope {c : Code} (k : CG none P W0 n ds c (Exit.noGoto Q) e G) : CG none P W0 n ds (.scope c) Q e G := fun a w ha hw => (wpIn_wide (n := 0)).2 (wp_scope_straight ((wpIn_wide (n := 0)).1 (k a w ha hw)))
theorem CG.label {r : Option Nat} {l : Nat} (k : QG W0 n ds Q .normal e G) : CG r P W0 n ds (.label l) Q e G := fun a w ha hw => wpIn_label (k a w ha hw)
theorem QG.scope_normal (k : QG W0 n ds Q .normal e G) : QG W0 n ds (Exit.noGoto Q) .normal e G := fun a w ha hw => k a w ha hw
end
section
variable {P : Program} {W0 : World} {n : Nat} {e : Env} {G : List HProp}
theorem run_loadVar {t : TypeId} {a : Addr} {v : Value} {sz by' z} (ht : TI P t sz by' z false) {w : World} (hc : w.cell? a = some v) : (loadVar t a).run P w = .ok v w := by
 unfold loadVar
 show ((isAgg t).bind _).run P w = _
 rw [run_bind_ok (ht.run_agg w)]
 simp [Go.load, Sem.run, hc]
theorem run_loadVar_agg {t : TypeId} {b o : Nat} {vs : List Value} {sz by' z} (ht : TI P t sz by' z true) (hl : vs.length = sz) {w : World} (hc : ∀ j v, vs[j]? = some v → w.cell? ⟨b, o + j, none⟩ = some v) : (loadVar t ⟨b, o, none⟩).run P w = .ok (.agg vs.toArray) w := by
 unfold loadVar
 show ((isAgg t).bind _).run P w = _
 rw [run_bind_ok (ht.run_agg w)]
 simp only [if_true]
 show ((sizeOf t).bind _).run P w = _
 rw [run_bind_ok (ht.run_size w)]
 show ((loadCells _ _).bind _).run P w = _
 rw [run_bind_ok (run_loadCells hl hc)]
 rfl
def ResP (P : Program) (W0 : World) (G : List HProp) (e : Env) : ResultVar → Value → Prop
 | .tmp t, v => e.get t = some v
 | .cell t ty, v => ∃ a, e.get t = some (.pointer (some a)) ∧ ∀ w, Sat W0 G w → (loadVar ty a).run P w = .ok v w
theorem ResP.cell {t ty : Nat} {a : Addr} {v : Value} {sz by' z} (ht : TI P ty sz by' z false) (h : e.get t = some (.pointer (some a))) (hc : Cel W0 G a v) : ResP P W0 G e (.cell t ty) v := ⟨a, h, fun w hw => run_loadVar ht (hc w hw)⟩
theorem ResP.agg {t ty b o : Nat} {vs : List Value} {sz by' z} (ht : TI P ty sz by' z true) (h : e.get t = some (.pointer (some ⟨b, o, none⟩))) (hl : vs.length = sz) (hc : Row W0 G b o vs) : ResP P W0 G e (.cell t ty) (.agg vs.toArray) := ⟨_, h, fun w hw => run_loadVar_agg ht hl (fun j v hj => hc j v hj w hw)⟩
theorem run_res {r : ResultVar} {v : Value} {a : Act} {w : World} (h : ResP P W0 G e r v) (ha : At n [] e a) (hw : Sat W0 G w) : (match r with | .tmp t => (pure (a.tmps.getD t undef) : Sem Value) | .cell x t => (asAddr (a.tmps.getD x undef)).bind fun y => loadVar t y).run P w = .ok v w := by
 cases r with
 | tmp t => have := ha.slot t v h; simp only [this]; rfl
 | cell t ty =>
  obtain ⟨ad, h1, h2⟩ := h
  have := ha.slot t _ h1
  simp only [this]
  rw [run_bind_ok (show (asAddr (.pointer (some ad))).run P w = .ok ad w from J)]
  exact h2 w hw
theorem run_mapM {α β : Type} {f : α → Sem β} {w : World} : ∀ (xs : List α) (vs : List β) (acc : List β), xs.length = vs.length → (∀ (i : Nat) (x : α) (v : β), xs[i]? = some x → vs[i]? = some v → (f x).run P w = .ok v w) → (List.mapM.loop f xs acc).run P w = .ok (acc.reverse ++ vs) w
 | [], [], acc, _, _ => by simp [List.mapM.loop, pure, Sem.run]
 | [], _ :: _, acc, hl, _ => by simp at hl
 | _ :: _, [], acc, hl, _ => by simp at hl
 | x :: xs, v :: vs, acc, hl, h => by
  show ((f x).bind fun y => List.mapM.loop f xs (y :: acc)).run P w = _
  rw [run_bind_ok (h 0 x v J J), run_mapM xs vs (v :: acc) (by simpa using hl) (fun i a b ha hb => h (i + 1) a b (by simpa using ha) (by simpa using hb))]
  simp
def ResL (P : Program) (W0 : World) (G : List HProp) (e : Env) : List ResultVar → List Value → Prop
 | [], [] => True
 | r :: rs, v :: vs => ResP P W0 G e r v ∧ ResL P W0 G e rs vs
 | _, _ => False
theorem ResL.get : ∀ {rs : List ResultVar} {vs : List Value}, ResL P W0 G e rs vs → rs.length = vs.length ∧ ∀ (i : Nat) (r : ResultVar) (v : Value), rs[i]? = some r → vs[i]? = some v → ResP P W0 G e r v
 | [], [], _ => ⟨rfl, fun i r v h _ => by simp at h⟩
 | r :: rs, v :: vs, h => by
  obtain ⟨h1, h2⟩ := ResL.get h.2
  refine ⟨by simp [h1], fun i r' v' hr hv => ?_⟩
  cases i with
  | zero => simp only [List.getElem?_cons_zero, Option.some.injEq] at hr hv; subst hr hv; exact h.1
  | succ i => exact h2 i r' v' (by simpa using hr) (by simpa using hv)
def valsV : List Value → Value
 | [v] => v
 | vs => .tuple vs.toArray
theorem run_results {fn : Func} {rs : List ResultVar} {vs : List Value} (hr : fn.results = rs.toArray) (h : ResL P W0 G e rs vs) {a : Act} {w : World} (ha : At n [] e a) (hw : Sat W0 G w) : (results fn a.tmps).run P w = .ok (valsV vs) w := by
 obtain ⟨hl, hg⟩ := h.get
 unfold results
 rw [hr, List.mapM_toArray]
 have h1 := run_mapM (P := P) (w := w) (f := fun r : ResultVar => (match r with | .tmp t => (pure (a.tmps.getD t undef) : Sem Value) | .cell x t => (asAddr (a.tmps.getD x undef)).bind fun y => loadVar t y)) rs vs [] hl (fun i r v q1 q2 => run_res (hg i r v q1 q2) ha hw)
 simp only [List.reverse_nil, List.nil_append] at h1
 have h2 : (List.toArray <$> List.mapM (fun r : ResultVar => (match r with | .tmp t => (pure (a.tmps.getD t undef) : Sem Value) | .cell x t => (asAddr (a.tmps.getD x undef)).bind fun y => loadVar t y)) rs).run P w = .ok vs.toArray w := by
  exact (run_bind_ok (f := fun x => Sem.pure x.toArray) h1).trans J
 refine (run_bind_ok h2).trans ?_
 cases vs with
 | nil => rfl
 | cons v vs => cases vs with
  | nil => rfl
  | cons u vs => simp [valsV, pure, Sem.run]
theorem hX {fn : Func} {rs : List ResultVar} (us : List Value) {α : Type} {φ : α → Prop} {v : α → Value} {G' : α → List HProp} (hr : fn.results = rs.toArray) (h : ResL P W0 G e rs us) (x : α) (hx : φ x) (hv : v x = valsV us) (hi : Imp G (G' x)) : QG W0 n [] (bodyPost P fn (RetP W0 φ v G')) .ret e G := fun a w ha hw =>
 ⟨ha.defers, _, run_results hr h ha hw, x, hx, by rw [hv], hw.imp hi⟩
end
section
variable {P : Program} {W0 : World} {n : Nat} {ds : List Deferred} {ops : Array Oper} {Q : Exit → Act → World → Prop} {rest : List Oper} {e : Env} {G : List HProp} {ty : TypeId}
theorem tX {f : FuncId} {first cap : List Operand} {fi ca : List Value} (h1 : e.evs first = some fi) (h2 : e.evs cap = some ca) : Yield P W0 (.makeFunc (.func f) first.toArray cap.toArray) ty e G (.func (.func f) fi.toArray ca.toArray) := fun ρ hρ w _ _ _ _ _ => by
 have e1 := hρ.evs h1
 have e2 := hρ.evs h2
 simp [execOp, Instr.makeFunc, e1, e2, pure, Sem.run, bind, Sem.bind]
theorem run_callv {f : FuncId} {fn : Func} {c : Code} (hf : P.funcs[f]? = some fn) (hb : fn.body = some c) (hn : (fn.name == "runtime.NumGoroutine") = false) {x : Operand} {fi ca : List Value}
 {args : List Operand} {vs : List Value} {ats : Array TypeId} {ρ : Operand → Value} (hρ : Agrees e ρ) (hx : e.ev x = some (.func (.func f) fi.toArray ca.toArray)) (ha : e.evs args = some vs) (w : World) (dst pos after guard) :
 (execOp ρ ⟨dst, .call { callee := .value x, args := args.toArray, argTypes := ats }, ty, pos, after, guard⟩).run P w = .ok (.enter f (fi ++ vs ++ ca).toArray) w := by
 have h1 : ρ x = .func (.func f) fi.toArray ca.toArray := hρ _ _ hx
 have h2 : args.map ρ = vs := hρ.evs ha
 have h3 := callFunc_run hf hb hn (fi ++ vs ++ ca).toArray w
 have h4 : (fi.toArray ++ (args.toArray.map ρ)) ++ ca.toArray = (fi ++ vs ++ ca).toArray := by rw [List.map_toArray, h2]; simp
 simp only [execOp, resolve, h1, Deferred.ofValue, bind, Sem.bind, pure, invoke, h4]
 exact h3
theorem OG.callv {d : Nat} {pos : String} {af : Array Edge} {x : Operand} {f : FuncId} {fi ca : List Value} {args : List Operand} {ats : Array TypeId} {vs : List Value} {G1 : List HProp} {α : Type} {φ : α → Prop} {v : α → Value} {G' : α → List HProp}
 (hc : CallOK P f) (hx : e.ev x = some (.func (.func f) fi.toArray ca.toArray)) (ha : e.evs args = some vs) (hi : Imp G G1) (hs : Ctr P W0 f (fi ++ vs ++ ca) G1 φ v G') (hd : Nat.ble (d + 1) n = true)
 (k : ∀ x, φ x → OG P W0 n ds ops Q rest ((d, v x) :: e) (G' x)) :
 OG P W0 n ds ops Q (⟨some d, .call { callee := .value x, args := args.toArray, argTypes := ats }, ty, pos, af, none⟩ :: rest) e G := fun a w hat hw => by
 obtain ⟨fn, c, hf, hb, hn⟩ := hc
 unfold wpL
 rw [if_pos (by simp [Region.wanted])]
 refine Or.inl ?_
 unfold Oper.wp
 rw [run_callv hf hb hn hat.agrees hx ha w, Oper.upon_enter]
 refine (hs w (hw.imp hi)).mono ?_
 rintro r w' ⟨x, hx, rfl, hs'⟩
 exact k x hx _ _ (hat.put (Nat.le_of_ble_eq_true hd)) hs'
theorem run_equal_sl {t el : TypeId} {a b : Option Addr} {m c m' c' : Nat} (hu : P.underlying t = some (.slice el)) (hb : b = none) (w : World) : (Op.equal t (.slice a m c) (.slice b m' c')).run P w = .ok a.isNone w := by
 subst hb
 show (Op.equalIn (9999 + 1) t _ _).run P w = _
 rw [Op.equalIn]
 show ((underlying t).bind _).run P w = _
 rw [run_bind_ok (run_underlying hu w)]
 cases a <;> rfl
theorem Yield.sl_nil {t t' el : TypeId} {x y : Operand} {a : Option Addr} {m c : Nat} (hu : P.underlying t = some (.slice el)) (hx : e.ev x = some (.slice a m c)) (hy : e.ev y = some (.slice none 0 0)) : Yield P W0 (.binOp .eql t x y t') ty e G (.bool a.isNone) := fun ρ hρ w _ _ _ _ _ => by
 refine run_eqOf (hρ x _ hx) (hρ y _ hy) J ?_
 show ((Op.equal t (.slice a m c) (.slice none 0 0)).bind _).run P w = _
 rw [run_bind_ok (run_equal_sl hu J w)]; rfl
end
abbrev pnc (v : Value) : List PanicEntry := [{ v := v, recovered := false }]
def RetX (W0 : World) {α : Type} (φ : α → Prop) (v : α → Value) (G' : α → List HProp) {β : Type} (ψ : β → Prop) (p : β → Value) (H : β → List HProp) : Ending → World → Prop
 | .returned r, w => ∃ x, φ x ∧ r = v x ∧ Sat W0 (G' x) w
 | .panicked ch, w => ∃ y, ψ y ∧ ch = pnc (p y) ∧ Sat W0 (H y) w
 | .outgrown, _ => False
def CtrX (P : Program) (W0 : World) (f : FuncId) (args : List Value) (G : List HProp) {α : Type} (φ : α → Prop) (v : α → Value) (G' : α → List HProp) {β : Type} (ψ : β → Prop) (p : β → Value) (H : β → List HProp) : Prop :=
 ∀ w, Sat W0 G w → Calls P f args.toArray w (RetX W0 φ v G' ψ p H)
section
variable {P : Program} {W0 : World} {n : Nat} {ds : List Deferred} {ops : Array Oper} {Q : Exit → Act → World → Prop} {rest : List Oper} {e : Env} {G : List HProp} {ty : TypeId}
theorem vV {x : Operand} {t : TypeId} {u : Value} {dst : Option Nat} {pos : String} {af : Array Edge} (hx : e.ev x = some (.iface t u)) (k : QG W0 n ds Q (.panic (pnc (.iface t u))) e G) : OG P W0 n ds ops Q (⟨dst, .panic x, ty, pos, af, none⟩ :: rest) e G := fun a w ha hw => by
 unfold wpL
 rw [if_pos (by simp [Region.wanted])]
 refine Or.inl ?_
 unfold Oper.wp
 have h1 : (execOp a.eval ⟨dst, .panic x, ty, pos, af, none⟩).run P w = .halt (.panic (.iface t u)) w := by
  simp [execOp, ha.agrees x _ hx, Instr.panic, goPanic, Sem.run, bind, Sem.bind]
 rw [h1]
 exact k a w ha hw
theorem OG.defer {x : Operand} {f : FuncId} {fi ca : List Value} {pos : String} {af : Array Edge} {args : List Operand} {ats : Array TypeId} {vs : List Value} (hx : e.ev x = some (.func (.func f) fi.toArray ca.toArray)) (ha : e.evs args = some vs)
 (k : OG P W0 n ({ target := .fn (.func f) ca.toArray, args := (fi ++ vs).toArray } :: ds) ops Q rest e G) : OG P W0 n ds ops Q (⟨none, .defer { callee := .value x, args := args.toArray, argTypes := ats }, ty, pos, af, none⟩ :: rest) e G := fun a w hat hw => by
 unfold wpL
 rw [if_pos (by simp [Region.wanted])]
 refine Or.inl ?_
 unfold Oper.wp
 have h2 : args.map a.eval = vs := hat.agrees.evs ha
 have h1 : (execOp a.eval ⟨none, .defer { callee := .value x, args := args.toArray, argTypes := ats }, ty, pos, af, none⟩).run P w = .ok (.defer { target := .fn (.func f) ca.toArray, args := (fi ++ vs).toArray }) w := by
  simp [execOp, resolve, hat.agrees x _ hx, Deferred.ofValue, Sem.run, bind, Sem.bind, Pure.pure, h2]
 rw [h1]
 exact k _ _ ⟨hat.size, hat.slot, by show _ :: a.defers = _; rw [hat.defers]⟩ hw
theorem OG.callx {d : Nat} {ty : TypeId} {pos : String} {af : Array Edge} {f : FuncId} {args : List Operand} {ats : Array TypeId} {vs : List Value} {G1 : List HProp} {α : Type} {φ : α → Prop} {v : α → Value} {G' : α → List HProp} {β : Type} {ψ : β → Prop} {p : β → Value} {H : β → List HProp}
 (hc : CallOK P f) (ha : e.evs args = some vs) (hi : Imp G G1) (hs : CtrX P W0 f vs G1 φ v G' ψ p H) (hd : Nat.ble (d + 1) n = true)
 (kp : ∀ y, ψ y → QG W0 n ds Q (.panic (pnc (p y))) e (H y)) (k : ∀ x, φ x → OG P W0 n ds ops Q rest ((d, v x) :: e) (G' x)) :
 OG P W0 n ds ops Q (⟨some d, .call { callee := .value (.func f), args := args.toArray, argTypes := ats }, ty, pos, af, none⟩ :: rest) e G := fun a w hat hw => by
 obtain ⟨fn, c, hf, hb, hn⟩ := hc
 unfold wpL
 rw [if_pos (by simp [Region.wanted])]
 refine Or.inl ?_
 unfold Oper.wp
 rw [run_call hf hb hn hat.agrees ha w, Oper.upon_enter]
 refine (hs w (hw.imp hi)).mono fun r w' hr => ?_
 cases r with
 | returned r => obtain ⟨x, hx, rfl, hs'⟩ := hr; exact k x hx _ _ (hat.put (Nat.le_of_ble_eq_true hd)) hs'
 | panicked c => obtain ⟨y, hy, rfl, hs'⟩ := hr; exact kp y hy _ _ hat hs'
 | outgrown => exact hr.elim
theorem OG.callvx {d : Nat} {pos : String} {af : Array Edge} {x : Operand} {f : FuncId} {fi ca : List Value} {args : List Operand} {ats : Array TypeId} {vs : List Value} {G1 : List HProp} {α : Type} {φ : α → Prop} {v : α → Value} {G' : α → List HProp} {β : Type} {ψ : β → Prop} {p : β → Value} {H : β → List HProp}
 (hc : CallOK P f) (hx : e.ev x = some (.func (.func f) fi.toArray ca.toArray)) (ha : e.evs args = some vs) (hi : Imp G G1) (hs : CtrX P W0 f (fi ++ vs ++ ca) G1 φ v G' ψ p H) (hd : Nat.ble (d + 1) n = true)
 (kp : ∀ y, ψ y → QG W0 n ds Q (.panic (pnc (p y))) e (H y)) (k : ∀ x, φ x → OG P W0 n ds ops Q rest ((d, v x) :: e) (G' x)) :
 OG P W0 n ds ops Q (⟨some d, .call { callee := .value x, args := args.toArray, argTypes := ats }, ty, pos, af, none⟩ :: rest) e G := fun a w hat hw => by
 obtain ⟨fn, c, hf, hb, hn⟩ := hc
 unfold wpL
 rw [if_pos (by simp [Region.wanted])]
 refine Or.inl ?_
 unfold Oper.wp
 rw [run_callv hf hb hn hat.agrees hx ha w, Oper.upon_enter]
 refine (hs w (hw.imp hi)).mono fun r w' hr => ?_
 cases r with
 | returned r => obtain ⟨x, hx, rfl, hs'⟩ := hr; exact k x hx _ _ (hat.put (Nat.le_of_ble_eq_true hd)) hs'
 | panicked c => obtain ⟨y, hy, rfl, hs'⟩ := hr; exact kp y hy _ _ hat hs'
 | outgrown => exact hr.elim
theorem yV {effs lt : List Nat} {K L : List HProp} {i : Nat} {rel : Bool} {pl : Plan} {dst : Option Nat} {pos : String} {af : Array Edge} {g : Option (Nat × Bool)} {f : FuncId} {args : List Operand} {ats : Array TypeId} {vs : List Value} {G1 : List HProp} {α : Type} {φ : α → Prop} {v : α → Value} {G' K' : α → List HProp} {β : Type} {ψ : β → Prop} {p : β → Value} {H : β → List HProp}
 (ho : ops[i]? = some ⟨dst, .call { callee := .value (.func f), args := args.toArray, argTypes := ats }, ty, pos, af, g⟩) (hg : guardS ops e ⟨dst, .call { callee := .value (.func f), args := args.toArray, argTypes := ats }, ty, pos, af, g⟩ = some true)
 (hc : CallOK P f) (ha : e.evs args = some vs) (hi : Imp G G1) (hs : CtrX P W0 f vs G1 φ v G' ψ p H) (hd : fitsE n dst = true) (hk : ∀ x, Imp (G' x) (K' x)) (hk' : ∀ x, Imp (K' x) K) (hl : ∀ x, Imp (G' x) (relL rel L))
 (kp : ∀ y, ψ y → QG W0 n ds Q (.panic (pnc (p y))) [] (H y)) (k : ∀ x, φ x → DG P W0 n ds ops effs lt Q pl (putE e dst (v x)) (K' x) (relL rel L) (G' x)) : Chg P W0 n ds ops effs lt Q i rel pl e K L G := by
 obtain ⟨fn, c, hf, hb, hn⟩ := hc
 refine ⟨_, ho, fun a hat w hw => ?_⟩
 unfold wpOp
 simp only [ho]
 rw [if_pos (guardS_spec hg hat)]
 refine .inl ?_
 unfold Oper.wp
 rw [run_call hf hb hn hat.agrees ha w, Oper.upon_enter]
 refine (hs w (hw.imp hi)).mono fun r w' hr => ?_
 cases r with
 | returned r => obtain ⟨x, hx, rfl, hs'⟩ := hr; exact ⟨_, _, _, hat.putE hd, hs', hk x, hk' x, hl x, k x hx⟩
 | panicked c =>
  obtain ⟨y, hy, rfl, hs'⟩ := hr
  exact fun a' h1 h2 => kp y hy a' w' ⟨by rw [h2]; exact hat.size, (fun t v q => by cases q), by rw [h1]; exact hat.defers⟩ hs'
 | outgrown => exact hr.elim
theorem jX {K : Act → World → Prop} {ch : List PanicEntry} (k : QG W0 n ds Q (.panic ch) e G) : QG W0 n ds (Exit.then K Q) (.panic ch) e G := fun a w ha hw => k a w ha hw
theorem lV {id : Nat} {ch : List PanicEntry} (k : QG W0 n ds Q (.panic ch) e G) : QG W0 n ds (Exit.inBlock id Q) (.panic ch) e G := fun a w ha hw => k a w ha hw
theorem CtrX.of_body {f : FuncId} {fn : Func} {c : Code} {args : List Value} {α : Type} {φ : α → Prop} {v : α → Value} {G' : α → List HProp} {β : Type} {ψ : β → Prop} {p : β → Value} {H : β → List HProp} (hf : P.funcs[f]? = some fn) (hb : fn.body = some c) (hn : fn.ntmps = n)
 (hl : Nat.ble args.length n = true) (k : CG none P W0 n [] c (bodyPost P fn (RetX W0 φ v G' ψ p H)) (env0 0 args) G) : CtrX P W0 f args G φ v G' ψ p H := fun w hw => by
 subst hn
 exact calls_of_wp hf hb ((wpIn_wide (n := 0)).1 (k _ w (At.start (Nat.le_of_ble_eq_true hl)) hw))
theorem tV {fn : Func} {x : Exit} {α : Type} {φ : α → Prop} {v : α → Value} {G' : α → List HProp} {β : Type} {ψ : β → Prop} {p : β → Value} {H : β → List HProp} (k : QG W0 n ds (bodyPost P fn (RetP W0 φ v G')) x e G) : QG W0 n ds (bodyPost P fn (RetX W0 φ v G' ψ p H)) x e G := fun a w ha hw => by
 have h := k a w ha hw
 cases x with
 | normal => obtain ⟨h1, u, h2, y, h3, h4, h5⟩ := h; cases h4; exact ⟨h1, _, h2, y, h3, rfl, h5⟩
 | ret => obtain ⟨h1, u, h2, y, h3, h4, h5⟩ := h; cases h4; exact ⟨h1, _, h2, y, h3, rfl, h5⟩
 | panic c => obtain ⟨_, y, _, h4, _⟩ := h; cases h4
 | outgrown => obtain ⟨y, _, h4, _⟩ := h; cases h4
 | exit id => exact h.elim
 | goto l => exact h.elim
theorem jV {fn : Func} {α : Type} {φ : α → Prop} {v : α → Value} {G' : α → List HProp} {β : Type} {ψ : β → Prop} {p : β → Value} {H : β → List HProp} {u : Value} (y : β) (hy : ψ y) (hu : u = p y) (hi : Imp G (H y)) : QG W0 n [] (bodyPost P fn (RetX W0 φ v G' ψ p H)) (.panic (pnc u)) e G := fun a w ha hw =>
 ⟨ha.defers, y, hy, by rw [hu], hw.imp hi⟩
/-! ### recover -/
def rcvd : FrameMode → Option (Value × FrameMode)
 | .panicking ({ v, recovered := false, goexit := false } :: older) => some (v, .panicking ({ v, recovered := true } :: older))
 | .returning => some (.nilIface, .returning)
 | _ => none
def DCtr (P : Program) (W0 : World) (f : FuncId) (args : List Value) (u u' : FrameMode) (G : List HProp) {α : Type} (φ : α → Prop) (G' : α → List HProp) : Prop :=
 ∀ w, Sat W0 G w → CallsD P f args.toArray u w fun e v w' => ∃ x, φ x ∧ e = .returned (.tuple #[]) ∧ v = u' ∧ Sat W0 (G' x) w'
theorem DCtr.of_body {f : FuncId} {fn : Func} {id d : Nat} {ty : TypeId} {pos : String} {ats : Array TypeId} {c2 : Code} {args : List Value} {u u' : FrameMode} {rv : Value} {α : Type} {φ : α → Prop} {G' : α → List HProp}
 (hf : P.funcs[f]? = some fn) (hb : fn.body = some (.seq (.region id #[⟨some d, .call { callee := .builtin .recover, args := #[], argTypes := ats }, ty, pos, #[], none⟩] false) c2)) (hn : fn.ntmps = n)
 (hl : Nat.ble args.length n = true) (hd : Nat.ble (d + 1) n = true) (hr : rcvd u = some (rv, u')) (k : CG none P W0 n [] c2 (bodyPost P fn (RetP W0 φ (fun _ => .tuple #[]) G')) ((d, rv) :: env0 0 args) G) : DCtr P W0 f args u u' G φ G' := fun w hw => by
 subst hn
 refine callsD_of_wpS hf hb fun c₀ cs hu => ?_
 apply wpS_seq
 apply wpS_region
 have h0 : ∀ ρ : Operand → Value, (execOp ρ ⟨some d, .call { callee := .builtin .recover, args := #[], argTypes := ats }, ty, pos, #[], none⟩).run P w = .ok .recover w := fun ρ => by
  simp [execOp, resolve, Sem.run, bind, Sem.bind, Pure.pure, invoke, builtin]
 have hat := (At.start (args := args) (n := fn.ntmps) (Nat.le_of_ble_eq_true hl)).put (v := rv) (Nat.le_of_ble_eq_true hd)
 have hk := (wpIn_wide (n := 0)).1 (k _ w hat hw)
 rw [show List.range (#[(⟨some d, .call { callee := .builtin .recover, args := #[], argTypes := ats }, ty, pos, #[], none⟩ : Oper)]).size = [0] from J]
 simp only [wpOpsS]
 rw [show (#[(⟨some d, .call { callee := .builtin .recover, args := #[], argTypes := ats }, ty, pos, #[], none⟩ : Oper)])[0]? = some ⟨some d, .call { callee := .builtin .recover, args := #[], argTypes := ats }, ty, pos, #[], none⟩ from J]
 simp only [Region.wanted, if_true, h0]
 have fin : ∀ cs', (cs' = { c₀ with mode := u' } :: cs) → c2.wpS P (bodyPostS P fn c₀ cs fun e v w' => ∃ x, φ x ∧ e = .returned (.tuple #[]) ∧ v = u' ∧ Sat W0 (G' x) w') (({ tmps := args.toArray ++ Array.replicate (fn.ntmps - args.toArray.size) undef, defers := [] } : Act).put (some d) rv) cs' w := fun cs' hcs => by
  refine wpS_of_wp (wp_mono hk fun e a' w' h => ?_)
  cases e with
  | normal => obtain ⟨h1, v, h2, x, h3, h4, h5⟩ := h; cases h4; exact ⟨h1, u', hcs, _, h2, x, h3, rfl, rfl, h5⟩
  | ret => obtain ⟨h1, v, h2, x, h3, h4, h5⟩ := h; cases h4; exact ⟨h1, u', hcs, _, h2, x, h3, rfl, rfl, h5⟩
  | panic c => obtain ⟨_, y, _, h4, _⟩ := h; cases h4
  | outgrown => obtain ⟨y, _, h4, _⟩ := h; cases h4
  | exit id => exact h.elim
  | goto l => exact h.elim
 subst hu
 unfold rcvd at hr
 split at hr
 ·rename_i v older hm
  simp only [Option.some.injEq, Prod.mk.injEq] at hr
  obtain ⟨rfl, rfl⟩ := hr
  simp only [recoverD, hm, Exit.thenS]
  exact fin _ J
 ·rename_i hm
  simp only [Option.some.injEq, Prod.mk.injEq] at hr
  obtain ⟨rfl, rfl⟩ := hr
  simp only [recoverD, hm, Exit.thenS]
  exact fin _ (by rw [← hm])
 ·cases hr
/-! ### what stands around -/
theorem Yield.neg {t : TypeId} {x : Operand} {k : IntKind} {a c : Int} (hx : e.ev x = some (.int k a)) (hc : k.wrap (0 - a) = c) : Yield P W0 (.unOp .neg t x) ty e G (.int k c) := fun ρ hρ w _ _ _ _ _ => by
 simp [execOp, hρ x _ hx, Op.unary, Op.intArith, pure, Sem.run, bind, Sem.bind]
 simpa using hc
theorem bV {t : TypeId} {d : TypeDesc} {x : Operand} {v : Value} (hu : P.underlying t = some d) (hd : ∀ ms, d ≠ .interface ms) (hx : e.ev x = some v) : Yield P W0 (.makeInterface t x) ty e G (.iface t v) := fun ρ hρ w _ _ _ _ _ => by
 have h1 : (Instr.makeInterface t v).run P w = .ok (.iface t v) w := by
  unfold Instr.makeInterface
  show ((underlying t).bind _).run P w = _
  rw [run_bind_ok (run_underlying hu w)]
  cases d <;> first | rfl | exact absurd J (hd _)
 show ((Instr.makeInterface t (ρ x)).bind _).run P w = _
 rw [hρ x _ hx, run_bind_ok h1]; rfl
theorem Yield.assert {t t0 : TypeId} {d : TypeDesc} {x : Operand} {v : Value} (hu : P.underlying t = some d) (hd : ∀ ms, d ≠ .interface ms) (hx : e.ev x = some (.iface t v)) : Yield P W0 (.typeAssert x t0 t true) ty e G (.tuple #[v, .bool true]) := fun ρ hρ w _ _ _ _ _ => by
 have h1 : (Instr.typeAssert (.iface t v) t0 t true).run P w = .ok (.tuple #[v, .bool true]) w := by
  unfold Instr.typeAssert
  show ((underlying t).bind _).run P w = _
  rw [run_bind_ok (run_underlying hu w)]
  cases d <;> first | (simp [pure, Sem.run]; done) | exact absurd J (hd _)
 show ((Instr.typeAssert (ρ x) t0 t true).bind _).run P w = _
 rw [hρ x _ hx, run_bind_ok h1]; rfl
theorem Yield.nil_is {t t' : TypeId} {ms : Array (String × TypeId)} {x : Operand} (hu : P.underlying t = some (.interface ms)) (hx : e.ev x = some .nilIface) : Yield P W0 (.binOp .eql t x (.const .nilIface) t') ty e G (.bool true) := fun ρ hρ w _ _ _ _ _ => by
 refine run_eqOf (u := .nilIface) (v := .nilIface) (hρ x _ hx) (hρ (.const .nilIface) _ J) ?_ ?_
 ·unfold eqGuard; simp [pure, Sem.run]
 ·show ((Op.equal t .nilIface .nilIface).bind _).run P w = _
  have : (Op.equal t .nilIface .nilIface).run P w = .ok true w := by
   show (Op.equalIn (9999 + 1) t _ _).run P w = _
   rw [Op.equalIn]
   show ((underlying t).bind _).run P w = _
   rw [run_bind_ok (run_underlying hu w)]
   rfl
  rw [run_bind_ok this]; rfl
theorem Yield.nil_not {t t' : TypeId} {ms : Array (String × TypeId)} {x : Operand} {u : TypeId} {v : Value} (hu : P.underlying t = some (.interface ms)) (hx : e.ev x = some (.iface u v)) : Yield P W0 (.binOp .eql t x (.const .nilIface) t') ty e G (.bool false) := fun ρ hρ w _ _ _ _ _ => by
 refine run_eqOf (u := .iface u v) (v := .nilIface) (hρ x _ hx) (hρ (.const .nilIface) _ J) ?_ ?_
 ·unfold eqGuard; simp [pure, Sem.run]
 ·show ((Op.equal t (.iface u v) .nilIface).bind _).run P w = _
  have : (Op.equal t (.iface u v) .nilIface).run P w = .ok false w := by
   show (Op.equalIn (9999 + 1) t _ _).run P w = _
   rw [Op.equalIn]
   show ((underlying t).bind _).run P w = _
   rw [run_bind_ok (run_underlying hu w)]
   rfl
  rw [run_bind_ok this]; rfl
/-! ### a body that defers -/
theorem Ctr.of_bodyD {f : FuncId} {fn : Func} {c : Code} {args : List Value} {α : Type} {φ : α → Prop} {v : α → Value} {G' : α → List HProp} (hf : P.funcs[f]? = some fn) (hb : fn.body = some c) (hn : fn.ntmps = n)
 (hl : Nat.ble args.length n = true) (k : CG none P W0 n [] c (bodyPostD P fn (RetP W0 φ v G')) (env0 0 args) G) : Ctr P W0 f args G φ v G' := fun w hw => by
 subst hn
 exact calls_of_wp_defers hf hb ((wpIn_wide (n := 0)).1 (k _ w (At.start (Nat.le_of_ble_eq_true hl)) hw))
theorem invoke_closure {g : FuncId} {fn : Func} {c : Code} (hf : P.funcs[g]? = some fn) (hb : fn.body = some c) (hn : (fn.name == "runtime.NumGoroutine") = false) (ca ar : List Value) (w : World) : (invoke (.fn (.func g) ca.toArray) ar.toArray).run P w = .ok (.enter g (ar ++ ca).toArray) w := by
 have h := callFunc_run hf hb hn (ar ++ ca).toArray w
 simp only [invoke, List.append_toArray]
 exact h
theorem leave_one {fn : Func} {tmps : Array Value} {R : Ending → World → Prop} {g : FuncId} {ca ar : List Value} {u u' : FrameMode} {w : World} {α : Type} {φ : α → Prop} {G' : α → List HProp} (hu : u ≠ .run) (hc : CallOK P g) (hD : DCtr P W0 g (ar ++ ca) u u' G φ G') (hw : Sat W0 G w) (hs : settle u' = .returning)
 (k : ∀ x, φ x → ∀ w', Sat W0 (G' x) w' → ∃ v, (results fn tmps).run P w' = .ok v w' ∧ R (.returned v) w') : Leaves P fn tmps R [{ target := .fn (.func g) ca.toArray, args := ar.toArray }] u w := by
 obtain ⟨gn, c, h1, h2, h3⟩ := hc
 refine leaves_cons (f := g) (args := (ar ++ ca).toArray) hu (invoke_closure h1 h2 h3 ca ar w) ((hD w hw).mono ?_)
 rintro e v w' ⟨x, hx, rfl, rfl, hs'⟩
 simp only [hs]
 exact k x hx w' hs'
theorem run_results' {fn : Func} {rs : List ResultVar} {vs : List Value} (hr : fn.results = rs.toArray) (h : ResL P W0 G e rs vs) {a : Act} {w : World} (ha : At n ds e a) (hw : Sat W0 G w) : (results fn a.tmps).run P w = .ok (valsV vs) w :=
 run_results (a := { a with defers := [] }) hr h ⟨ha.size, ha.slot, rfl⟩ hw
theorem QG.leave_ret {fn : Func} {rs : List ResultVar} {g : FuncId} {ca ar : List Value} {α : Type} {φ : α → Prop} {v : α → Value} {G' : α → List HProp} {γ : Type} {φg : γ → Prop} {Gg : γ → List HProp} (hc : CallOK P g) (hD : DCtr P W0 g (ar ++ ca) .returning .returning G φg Gg) (us : γ → List Value) (hr : fn.results = rs.toArray)
 (h : ∀ y, φg y → ResL P W0 (Gg y) e rs (us y)) (k : ∀ y, φg y → ∃ x, φ x ∧ v x = valsV (us y) ∧ Imp (Gg y) (G' x)) : QG W0 n [{ target := .fn (.func g) ca.toArray, args := ar.toArray }] (bodyPostD P fn (RetP W0 φ v G')) .ret e G := fun a w ha hw => by
 show Leaves P fn a.tmps _ a.defers .returning w
 rw [ha.defers]
 refine leave_one (by simp) hc hD hw J fun y hy w' hw' => ?_
 obtain ⟨x, hx, hv, hi⟩ := k y hy
 exact ⟨_, run_results' hr (h y hy) ha hw', x, hx, by rw [hv], hw'.imp hi⟩
theorem QG.leave_panic {fn : Func} {rs : List ResultVar} {g : FuncId} {ca ar : List Value} {pv : Value} {α : Type} {φ : α → Prop} {v : α → Value} {G' : α → List HProp} {γ : Type} {φg : γ → Prop} {Gg : γ → List HProp} (hc : CallOK P g) (hD : DCtr P W0 g (ar ++ ca) (.panicking (pnc pv)) (.panicking [{ v := pv, recovered := true }]) G φg Gg) (us : γ → List Value) (hr : fn.results = rs.toArray)
 (h : ∀ y, φg y → ResL P W0 (Gg y) e rs (us y)) (k : ∀ y, φg y → ∃ x, φ x ∧ v x = valsV (us y) ∧ Imp (Gg y) (G' x)) : QG W0 n [{ target := .fn (.func g) ca.toArray, args := ar.toArray }] (bodyPostD P fn (RetP W0 φ v G')) (.panic (pnc pv)) e G := fun a w ha hw => by
 show Leaves P fn a.tmps _ a.defers (.panicking (pnc pv)) w
 rw [ha.defers]
 refine leave_one (by simp) hc hD hw J fun y hy w' hw' => ?_
 obtain ⟨x, hx, hv, hi⟩ := k y hy
 exact ⟨_, run_results' hr (h y hy) ha hw', x, hx, by rw [hv], hw'.imp hi⟩
end
end Go.Sl
namespace Go.Proofs.YtphljkplokjonaaGreat.T
open Go Go.Sl Go.Proofs Tryz
theorem ti3 : TI prog 3 1 8 (.int .i64 0) false := by unfold TI; kernel_rfl
theorem ti4 : TI prog 4 1 1 (.bool false) false := by unfold TI; kernel_rfl
theorem ti5 : TI prog 5 1 1 (.int .u8 0) false := by unfold TI; kernel_rfl
theorem ti25 : TI prog 25 1 8 (.pointer none) false := by unfold TI; kernel_rfl
theorem ti27 : TI prog 27 1 4 (.int .u32 0) false := by unfold TI; kernel_rfl
theorem ti31 : TI prog 31 25 136 (.agg (List.replicate 16 (Value.int .u32 0) ++ List.replicate 8 (Value.int .u64 0) ++ [Value.int .u32 0]).toArray) true := by unfold TI; kernel_rfl
theorem ti32 : TI prog 32 1 24 (.slice none 0 0) false := by unfold TI; kernel_rfl
theorem ti34 : TI prog 34 28 176 (.agg ([Value.int .i64 0] ++ List.replicate 16 (Value.int .u32 0) ++ List.replicate 8 (Value.int .u64 0) ++ [Value.int .u32 0] ++ [Value.int .i64 0] ++ [Value.slice none 0 0]).toArray) true := by unfold TI; kernel_rfl
theorem ti36 : TI prog 36 1 24 (.slice none 0 0) false := by unfold TI; kernel_rfl
theorem ti37 : TI prog 37 1 24 (.slice none 0 0) false := by unfold TI; kernel_rfl
theorem ti38 : TI prog 38 1 24 (.slice none 0 0) false := by unfold TI; kernel_rfl
theorem ti53 : TI prog 53 1 8 (.pointer none) false := by unfold TI; kernel_rfl
theorem ti54 : TI prog 54 1 8 (.pointer none) false := by unfold TI; kernel_rfl
theorem ti55 : TI prog 55 1 8 (.pointer none) false := by unfold TI; kernel_rfl
theorem ti56 : TI prog 56 1 8 (.pointer none) false := by unfold TI; kernel_rfl
theorem ti62 : TI prog 62 1 8 (.pointer none) false := by unfold TI; kernel_rfl
theorem ti67 : TI prog 67 1 24 (.slice none 0 0) false := by unfold TI; kernel_rfl
theorem ti72 : TI prog 72 1 24 (.slice none 0 0) false := by unfold TI; kernel_rfl
theorem ti80 : TI prog 80 1 24 (.slice none 0 0) false := by unfold TI; kernel_rfl
theorem ti83 : TI prog 83 8 64 (.agg #[.int .i64 0, .pointer none, .pointer none, .pointer none, .pointer none, .pointer none, .int .i64 0, .int .i64 0]) true := by unfold TI; kernel_rfl
theorem ti92 : TI prog 92 1 8 (.nilFunc) false := by unfold TI; kernel_rfl
theorem ti101 : TI prog 101 5 48 (.agg #[.int .i64 0, .int .u32 0, .bool false, .int .i64 0, .slice none 0 0]) true := by unfold TI; kernel_rfl
theorem ti111 : TI prog 111 1 8 (.pointer none) false := by unfold TI; kernel_rfl
theorem ti114 : TI prog 114 1 8 (.pointer none) false := by unfold TI; kernel_rfl
theorem ti117 : TI prog 117 1 8 (.pointer none) false := by unfold TI; kernel_rfl
theorem ti134 : TI prog 134 1 8 (.pointer none) false := by unfold TI; kernel_rfl
theorem ti135 : TI prog 135 1 8 (.pointer none) false := by unfold TI; kernel_rfl
theorem ti137 : TI prog 137 7 48 (.agg #[.pointer none, .int .u32 0, .int .u32 0, .int .u32 0, .pointer none, .int .i64 0, .int .i64 0]) true := by unfold TI; kernel_rfl
theorem ti148 : TI prog 148 132 160 (.agg (List.replicate 64 (Value.int .u8 0) ++ List.replicate 2 (Value.int .i64 0) ++ List.replicate 64 (Value.int .u8 0) ++ List.replicate 2 (Value.int .i64 0)).toArray) true := by unfold TI; kernel_rfl
theorem ti156 : TI prog 156 5 40 (.agg #[.int .i64 0, .int .i64 0, .int .i64 0, .int .i64 0, .int .i64 0]) true := by unfold TI; kernel_rfl
theorem ti158 : TI prog 158 4 40 (.agg #[.int .u32 0, .bool false, .int .u32 0, .slice none 0 0]) true := by unfold TI; kernel_rfl
theorem ti159 : TI prog 159 8 8 (.agg #[.bool false, .bool false, .bool false, .bool false, .bool false, .bool false, .bool false, .bool false]) true := by unfold TI; kernel_rfl
theorem ti160 : TI prog 160 8 8 (.agg #[.bool false, .bool false, .bool false, .bool false, .bool false, .bool false, .bool false, .bool false]) true := by unfold TI; kernel_rfl
theorem ti162 : TI prog 162 18 32 (.agg (List.replicate 16 (Value.bool false) ++ [Value.int .i64 0] ++ [Value.bool false]).toArray) true := by unfold TI; kernel_rfl
theorem ti166 : TI prog 166 5 40 (.agg #[.int .i64 0, .int .i64 0, .pointer none, .pointer none, .pointer none]) true := by unfold TI; kernel_rfl
theorem ti173 : TI prog 173 1 24 (.slice none 0 0) false := by unfold TI; kernel_rfl
theorem ti175 : TI prog 175 7 88 (.agg #[.int .i64 0, .int .i64 0, .int .i64 0, .int .i64 0, .int .u32 0, .slice none 0 0, .slice none 0 0]) true := by unfold TI; kernel_rfl
theorem ti177 : TI prog 177 7 64 (.agg #[.int .u32 0, .bool false, .int .i64 0, .int .u32 0, .slice none 0 0, .int .i64 0, .int .i64 0]) true := by unfold TI; kernel_rfl
theorem ti180 : TI prog 180 3 40 (.agg #[.int .i64 0, .int .i64 0, .slice none 0 0]) true := by unfold TI; kernel_rfl
theorem ti189 : TI prog 189 1 24 (.agg #[.slice none 0 0]) true := by unfold TI; kernel_rfl
theorem ti191 : TI prog 191 7 88 (.agg #[.int .i64 0, .int .i64 0, .int .i64 0, .int .i64 0, .int .i64 0, .slice none 0 0, .slice none 0 0]) true := by unfold TI; kernel_rfl
theorem ti194 : TI prog 194 1 24 (.slice none 0 0) false := by unfold TI; kernel_rfl
theorem ti196 : TI prog 196 1 24 (.agg #[.slice none 0 0]) true := by unfold TI; kernel_rfl
theorem ti197 : TI prog 197 1 8 (.pointer none) false := by unfold TI; kernel_rfl
theorem ti199 : TI prog 199 2 32 (.agg #[.int .i64 0, .slice none 0 0]) true := by unfold TI; kernel_rfl
theorem ti200 : TI prog 200 1 8 (.pointer none) false := by unfold TI; kernel_rfl
theorem ti203 : TI prog 203 1 8 (.pointer none) false := by unfold TI; kernel_rfl
theorem ti206 : TI prog 206 1 8 (.pointer none) false := by unfold TI; kernel_rfl
theorem ti208 : TI prog 208 1 8 (.pointer none) false := by unfold TI; kernel_rfl
theorem ti210 : TI prog 210 1 8 (.pointer none) false := by unfold TI; kernel_rfl
theorem ti213 : TI prog 213 8 64 (.agg #[.int .i64 0, .pointer none, .pointer none, .pointer none, .pointer none, .pointer none, .int .i64 0, .int .i64 0]) true := by unfold TI; kernel_rfl
theorem ti217 : TI prog 217 4 24 (.agg #[.int .u32 0, .int .u32 0, .bool false, .int .i64 0]) true := by unfold TI; kernel_rfl
theorem ti220 : TI prog 220 2 48 (.agg #[.slice none 0 0, .slice none 0 0]) true := by unfold TI; kernel_rfl
theorem ti221 : TI prog 221 1 24 (.slice none 0 0) false := by unfold TI; kernel_rfl
theorem ti223 : TI prog 223 1 24 (.agg #[.slice none 0 0]) true := by unfold TI; kernel_rfl
theorem ti226 : TI prog 226 1026 8224 (.agg (List.replicate 1025 (Value.int .i64 0) ++ [Value.slice none 0 0]).toArray) true := by unfold TI; kernel_rfl
theorem ti227 : TI prog 227 1 24 (.slice none 0 0) false := by unfold TI; kernel_rfl
theorem ti229 : TI prog 229 4 48 (.agg #[.slice none 0 0, .int .i64 0, .int .i64 0, .int .i64 0]) true := by unfold TI; kernel_rfl
theorem ti261 : TI prog 261 256 256 (.agg (List.replicate 256 (Value.int .u8 0)).toArray) true := by unfold TI; kernel_rfl
theorem ti264 : TI prog 264 4 64 (.agg #[.pointer none, .int .i64 0, .slice none 0 0, .slice none 0 0]) true := by unfold TI; kernel_rfl
theorem ti265 : TI prog 265 1 24 (.slice none 0 0) false := by unfold TI; kernel_rfl
theorem ti267 : TI prog 267 7 88 (.agg #[.int .i64 0, .int .i64 0, .int .i64 0, .int .i64 0, .slice none 0 0, .int .u32 0, .slice none 0 0]) true := by unfold TI; kernel_rfl
theorem ti269 : TI prog 269 17 24 (.agg (List.replicate 16 (Value.bool false) ++ [Value.int .i64 0]).toArray) true := by unfold TI; kernel_rfl
theorem ti271 : TI prog 271 3 72 (.agg #[.slice none 0 0, .slice none 0 0, .slice none 0 0]) true := by unfold TI; kernel_rfl
theorem ti274 : TI prog 274 8 64 (.agg #[.int .u32 0, .bool false, .int .i64 0, .int .u32 0, .slice none 0 0, .int .i64 0, .bool false, .bool false]) true := by unfold TI; kernel_rfl
theorem ti275 : TI prog 275 4 40 (.agg #[.int .u32 0, .bool false, .int .u32 0, .slice none 0 0]) true := by unfold TI; kernel_rfl
theorem ti305 : TI prog 305 4 32 (.agg #[.int .i64 0, .int .i64 0, .int .i64 0, .int .i64 0]) true := by unfold TI; kernel_rfl
theorem ti307 : TI prog 307 5 40 (.agg #[.bool false, .int .i64 0, .int .i64 0, .int .i64 0, .int .i64 0]) true := by unfold TI; kernel_rfl
theorem fa31_0 : FieldAt prog 31 0 0 := by unfold FieldAt; kernel_rfl
theorem fa31_2 : FieldAt prog 31 2 24 := by unfold FieldAt; kernel_rfl
theorem fa34_0 : FieldAt prog 34 0 0 := by unfold FieldAt; kernel_rfl
theorem fa34_1 : FieldAt prog 34 1 1 := by unfold FieldAt; kernel_rfl
theorem fa34_2 : FieldAt prog 34 2 26 := by unfold FieldAt; kernel_rfl
theorem fa34_3 : FieldAt prog 34 3 27 := by unfold FieldAt; kernel_rfl
theorem fa83_0 : FieldAt prog 83 0 0 := by unfold FieldAt; kernel_rfl
theorem fa83_1 : FieldAt prog 83 1 1 := by unfold FieldAt; kernel_rfl
theorem fa83_2 : FieldAt prog 83 2 2 := by unfold FieldAt; kernel_rfl
theorem fa83_3 : FieldAt prog 83 3 3 := by unfold FieldAt; kernel_rfl
theorem fa83_4 : FieldAt prog 83 4 4 := by unfold FieldAt; kernel_rfl
theorem fa83_5 : FieldAt prog 83 5 5 := by unfold FieldAt; kernel_rfl
theorem fa83_6 : FieldAt prog 83 6 6 := by unfold FieldAt; kernel_rfl
theorem fa83_7 : FieldAt prog 83 7 7 := by unfold FieldAt; kernel_rfl
theorem fa101_1 : FieldAt prog 101 1 1 := by unfold FieldAt; kernel_rfl
theorem fa101_4 : FieldAt prog 101 4 4 := by unfold FieldAt; kernel_rfl
theorem fa137_0 : FieldAt prog 137 0 0 := by unfold FieldAt; kernel_rfl
theorem fa137_1 : FieldAt prog 137 1 1 := by unfold FieldAt; kernel_rfl
theorem fa137_2 : FieldAt prog 137 2 2 := by unfold FieldAt; kernel_rfl
theorem fa137_3 : FieldAt prog 137 3 3 := by unfold FieldAt; kernel_rfl
theorem fa137_4 : FieldAt prog 137 4 4 := by unfold FieldAt; kernel_rfl
theorem fa137_5 : FieldAt prog 137 5 5 := by unfold FieldAt; kernel_rfl
theorem fa137_6 : FieldAt prog 137 6 6 := by unfold FieldAt; kernel_rfl
theorem fa146_0 : FieldAt prog 146 0 0 := by unfold FieldAt; kernel_rfl
theorem fa146_1 : FieldAt prog 146 1 64 := by unfold FieldAt; kernel_rfl
theorem fa146_2 : FieldAt prog 146 2 65 := by unfold FieldAt; kernel_rfl
theorem fa148_0 : FieldAt prog 148 0 0 := by unfold FieldAt; kernel_rfl
theorem fa148_1 : FieldAt prog 148 1 66 := by unfold FieldAt; kernel_rfl
theorem fa156_0 : FieldAt prog 156 0 0 := by unfold FieldAt; kernel_rfl
theorem fa156_1 : FieldAt prog 156 1 1 := by unfold FieldAt; kernel_rfl
theorem fa156_2 : FieldAt prog 156 2 2 := by unfold FieldAt; kernel_rfl
theorem fa156_3 : FieldAt prog 156 3 3 := by unfold FieldAt; kernel_rfl
theorem fa156_4 : FieldAt prog 156 4 4 := by unfold FieldAt; kernel_rfl
theorem fa158_3 : FieldAt prog 158 3 3 := by unfold FieldAt; kernel_rfl
theorem fa162_0 : FieldAt prog 162 0 0 := by unfold FieldAt; kernel_rfl
theorem fa162_1 : FieldAt prog 162 1 8 := by unfold FieldAt; kernel_rfl
theorem fa162_2 : FieldAt prog 162 2 16 := by unfold FieldAt; kernel_rfl
theorem fa162_3 : FieldAt prog 162 3 17 := by unfold FieldAt; kernel_rfl
theorem fa166_0 : FieldAt prog 166 0 0 := by unfold FieldAt; kernel_rfl
theorem fa166_1 : FieldAt prog 166 1 1 := by unfold FieldAt; kernel_rfl
theorem fa166_2 : FieldAt prog 166 2 2 := by unfold FieldAt; kernel_rfl
theorem fa166_3 : FieldAt prog 166 3 3 := by unfold FieldAt; kernel_rfl
theorem fa166_4 : FieldAt prog 166 4 4 := by unfold FieldAt; kernel_rfl
theorem fa175_0 : FieldAt prog 175 0 0 := by unfold FieldAt; kernel_rfl
theorem fa175_1 : FieldAt prog 175 1 1 := by unfold FieldAt; kernel_rfl
theorem fa175_2 : FieldAt prog 175 2 2 := by unfold FieldAt; kernel_rfl
theorem fa175_3 : FieldAt prog 175 3 3 := by unfold FieldAt; kernel_rfl
theorem fa175_4 : FieldAt prog 175 4 4 := by unfold FieldAt; kernel_rfl
theorem fa175_5 : FieldAt prog 175 5 5 := by unfold FieldAt; kernel_rfl
theorem fa175_6 : FieldAt prog 175 6 6 := by unfold FieldAt; kernel_rfl
theorem fa177_0 : FieldAt prog 177 0 0 := by unfold FieldAt; kernel_rfl
theorem fa177_1 : FieldAt prog 177 1 1 := by unfold FieldAt; kernel_rfl
theorem fa177_2 : FieldAt prog 177 2 2 := by unfold FieldAt; kernel_rfl
theorem fa177_3 : FieldAt prog 177 3 3 := by unfold FieldAt; kernel_rfl
theorem fa177_4 : FieldAt prog 177 4 4 := by unfold FieldAt; kernel_rfl
theorem fa177_5 : FieldAt prog 177 5 5 := by unfold FieldAt; kernel_rfl
theorem fa177_6 : FieldAt prog 177 6 6 := by unfold FieldAt; kernel_rfl
theorem fa180_0 : FieldAt prog 180 0 0 := by unfold FieldAt; kernel_rfl
theorem fa180_1 : FieldAt prog 180 1 1 := by unfold FieldAt; kernel_rfl
theorem fa180_2 : FieldAt prog 180 2 2 := by unfold FieldAt; kernel_rfl
theorem fa189_0 : FieldAt prog 189 0 0 := by unfold FieldAt; kernel_rfl
theorem fa191_0 : FieldAt prog 191 0 0 := by unfold FieldAt; kernel_rfl
theorem fa191_1 : FieldAt prog 191 1 5 := by unfold FieldAt; kernel_rfl
theorem fa191_2 : FieldAt prog 191 2 6 := by unfold FieldAt; kernel_rfl
theorem fa196_0 : FieldAt prog 196 0 0 := by unfold FieldAt; kernel_rfl
theorem fa199_0 : FieldAt prog 199 0 0 := by unfold FieldAt; kernel_rfl
theorem fa199_1 : FieldAt prog 199 1 1 := by unfold FieldAt; kernel_rfl
theorem fa213_0 : FieldAt prog 213 0 0 := by unfold FieldAt; kernel_rfl
theorem fa213_1 : FieldAt prog 213 1 1 := by unfold FieldAt; kernel_rfl
theorem fa213_2 : FieldAt prog 213 2 2 := by unfold FieldAt; kernel_rfl
theorem fa213_3 : FieldAt prog 213 3 3 := by unfold FieldAt; kernel_rfl
theorem fa213_4 : FieldAt prog 213 4 4 := by unfold FieldAt; kernel_rfl
theorem fa213_5 : FieldAt prog 213 5 5 := by unfold FieldAt; kernel_rfl
theorem fa213_6 : FieldAt prog 213 6 6 := by unfold FieldAt; kernel_rfl
theorem fa213_7 : FieldAt prog 213 7 7 := by unfold FieldAt; kernel_rfl
theorem fa217_0 : FieldAt prog 217 0 0 := by unfold FieldAt; kernel_rfl
theorem fa217_1 : FieldAt prog 217 1 1 := by unfold FieldAt; kernel_rfl
theorem fa217_2 : FieldAt prog 217 2 2 := by unfold FieldAt; kernel_rfl
theorem fa217_3 : FieldAt prog 217 3 3 := by unfold FieldAt; kernel_rfl
theorem fa220_0 : FieldAt prog 220 0 0 := by unfold FieldAt; kernel_rfl
theorem fa220_1 : FieldAt prog 220 1 1 := by unfold FieldAt; kernel_rfl
theorem fa223_0 : FieldAt prog 223 0 0 := by unfold FieldAt; kernel_rfl
theorem fa226_0 : FieldAt prog 226 0 0 := by unfold FieldAt; kernel_rfl
theorem fa226_1 : FieldAt prog 226 1 1024 := by unfold FieldAt; kernel_rfl
theorem fa226_2 : FieldAt prog 226 2 1025 := by unfold FieldAt; kernel_rfl
theorem fa229_0 : FieldAt prog 229 0 0 := by unfold FieldAt; kernel_rfl
theorem fa229_1 : FieldAt prog 229 1 1 := by unfold FieldAt; kernel_rfl
theorem fa229_2 : FieldAt prog 229 2 2 := by unfold FieldAt; kernel_rfl
theorem fa229_3 : FieldAt prog 229 3 3 := by unfold FieldAt; kernel_rfl
theorem fa264_0 : FieldAt prog 264 0 0 := by unfold FieldAt; kernel_rfl
theorem fa264_1 : FieldAt prog 264 1 1 := by unfold FieldAt; kernel_rfl
theorem fa264_2 : FieldAt prog 264 2 2 := by unfold FieldAt; kernel_rfl
theorem fa264_3 : FieldAt prog 264 3 3 := by unfold FieldAt; kernel_rfl
theorem fa267_0 : FieldAt prog 267 0 0 := by unfold FieldAt; kernel_rfl
theorem fa267_1 : FieldAt prog 267 1 1 := by unfold FieldAt; kernel_rfl
theorem fa267_2 : FieldAt prog 267 2 2 := by unfold FieldAt; kernel_rfl
theorem fa267_3 : FieldAt prog 267 3 3 := by unfold FieldAt; kernel_rfl
theorem fa267_4 : FieldAt prog 267 4 4 := by unfold FieldAt; kernel_rfl
theorem fa267_5 : FieldAt prog 267 5 5 := by unfold FieldAt; kernel_rfl
theorem fa267_6 : FieldAt prog 267 6 6 := by unfold FieldAt; kernel_rfl
theorem fa269_0 : FieldAt prog 269 0 0 := by unfold FieldAt; kernel_rfl
theorem fa269_1 : FieldAt prog 269 1 8 := by unfold FieldAt; kernel_rfl
theorem fa269_2 : FieldAt prog 269 2 16 := by unfold FieldAt; kernel_rfl
theorem fa271_0 : FieldAt prog 271 0 0 := by unfold FieldAt; kernel_rfl
theorem fa271_1 : FieldAt prog 271 1 1 := by unfold FieldAt; kernel_rfl
theorem fa271_2 : FieldAt prog 271 2 2 := by unfold FieldAt; kernel_rfl
theorem fa274_0 : FieldAt prog 274 0 0 := by unfold FieldAt; kernel_rfl
theorem fa274_1 : FieldAt prog 274 1 1 := by unfold FieldAt; kernel_rfl
theorem fa274_2 : FieldAt prog 274 2 2 := by unfold FieldAt; kernel_rfl
theorem fa274_3 : FieldAt prog 274 3 3 := by unfold FieldAt; kernel_rfl
theorem fa274_4 : FieldAt prog 274 4 4 := by unfold FieldAt; kernel_rfl
theorem fa274_5 : FieldAt prog 274 5 5 := by unfold FieldAt; kernel_rfl
theorem fa274_6 : FieldAt prog 274 6 6 := by unfold FieldAt; kernel_rfl
theorem fa274_7 : FieldAt prog 274 7 7 := by unfold FieldAt; kernel_rfl
theorem fa275_3 : FieldAt prog 275 3 3 := by unfold FieldAt; kernel_rfl
theorem fa305_2 : FieldAt prog 305 2 2 := by unfold FieldAt; kernel_rfl
theorem fa305_3 : FieldAt prog 305 3 3 := by unfold FieldAt; kernel_rfl
theorem fa307_0 : FieldAt prog 307 0 0 := by unfold FieldAt; kernel_rfl
theorem fa307_1 : FieldAt prog 307 1 1 := by unfold FieldAt; kernel_rfl
theorem bu83 : places? prog 83 = some [(0, 1), (1, 1), (2, 1), (3, 1), (4, 1), (5, 1), (6, 1), (7, 1)] := by kernel_rfl
theorem bu101 : places? prog 101 = some [(0, 1), (1, 1), (2, 1), (3, 1), (4, 1)] := by kernel_rfl
theorem bu137 : places? prog 137 = some [(0, 1), (1, 1), (2, 1), (3, 1), (4, 1), (5, 1), (6, 1)] := by kernel_rfl
theorem bu148 : places? prog 148 = some [(0, 66), (66, 66)] := by kernel_rfl
theorem bu156 : places? prog 156 = some [(0, 1), (1, 1), (2, 1), (3, 1), (4, 1)] := by kernel_rfl
theorem bu158 : places? prog 158 = some [(0, 1), (1, 1), (2, 1), (3, 1)] := by kernel_rfl
theorem bu162 : places? prog 162 = some [(0, 8), (8, 8), (16, 1), (17, 1)] := by kernel_rfl
theorem bu166 : places? prog 166 = some [(0, 1), (1, 1), (2, 1), (3, 1), (4, 1)] := by kernel_rfl
theorem bu175 : places? prog 175 = some [(0, 1), (1, 1), (2, 1), (3, 1), (4, 1), (5, 1), (6, 1)] := by kernel_rfl
theorem bu177 : places? prog 177 = some [(0, 1), (1, 1), (2, 1), (3, 1), (4, 1), (5, 1), (6, 1)] := by kernel_rfl
theorem bu180 : places? prog 180 = some [(0, 1), (1, 1), (2, 1)] := by kernel_rfl
theorem bu189 : places? prog 189 = some [(0, 1)] := by kernel_rfl
theorem bu191 : places? prog 191 = some [(0, 5), (5, 1), (6, 1)] := by kernel_rfl
theorem bu196 : places? prog 196 = some [(0, 1)] := by kernel_rfl
theorem bu199 : places? prog 199 = some [(0, 1), (1, 1)] := by kernel_rfl
theorem bu213 : places? prog 213 = some [(0, 1), (1, 1), (2, 1), (3, 1), (4, 1), (5, 1), (6, 1), (7, 1)] := by kernel_rfl
theorem bu217 : places? prog 217 = some [(0, 1), (1, 1), (2, 1), (3, 1)] := by kernel_rfl
theorem bu220 : places? prog 220 = some [(0, 1), (1, 1)] := by kernel_rfl
theorem bu223 : places? prog 223 = some [(0, 1)] := by kernel_rfl
theorem bu226 : places? prog 226 = some [(0, 1024), (1024, 1), (1025, 1)] := by kernel_rfl
theorem bu229 : places? prog 229 = some [(0, 1), (1, 1), (2, 1), (3, 1)] := by kernel_rfl
theorem bu264 : places? prog 264 = some [(0, 1), (1, 1), (2, 1), (3, 1)] := by kernel_rfl
theorem bu267 : places? prog 267 = some [(0, 1), (1, 1), (2, 1), (3, 1), (4, 1), (5, 1), (6, 1)] := by kernel_rfl
theorem bu269 : places? prog 269 = some [(0, 8), (8, 8), (16, 1)] := by kernel_rfl
theorem bu271 : places? prog 271 = some [(0, 1), (1, 1), (2, 1)] := by kernel_rfl
theorem bu274 : places? prog 274 = some [(0, 1), (1, 1), (2, 1), (3, 1), (4, 1), (5, 1), (6, 1), (7, 1)] := by kernel_rfl
theorem bu275 : places? prog 275 = some [(0, 1), (1, 1), (2, 1), (3, 1)] := by kernel_rfl
theorem bu305 : places? prog 305 = some [(0, 1), (1, 1), (2, 1), (3, 1)] := by kernel_rfl
theorem bu307 : places? prog 307 = some [(0, 1), (1, 4)] := by kernel_rfl
theorem call13 : CallOK prog 13 := ⟨_, _, func13, rfl, by kernel_rfl⟩
theorem call14 : CallOK prog 14 := ⟨_, _, func14, rfl, by kernel_rfl⟩
theorem call16 : CallOK prog 16 := ⟨_, _, func16, rfl, by kernel_rfl⟩
theorem call20 : CallOK prog 20 := ⟨_, _, func20, rfl, by kernel_rfl⟩
theorem call21 : CallOK prog 21 := ⟨_, _, func21, rfl, by kernel_rfl⟩
theorem call26 : CallOK prog 26 := ⟨_, _, func26, rfl, by kernel_rfl⟩
theorem call27 : CallOK prog 27 := ⟨_, _, func27, rfl, by kernel_rfl⟩
theorem call29 : CallOK prog 29 := ⟨_, _, func29, rfl, by kernel_rfl⟩
theorem call30 : CallOK prog 30 := ⟨_, _, func30, rfl, by kernel_rfl⟩
theorem call31 : CallOK prog 31 := ⟨_, _, func31, rfl, by kernel_rfl⟩
theorem call32 : CallOK prog 32 := ⟨_, _, func32, rfl, by kernel_rfl⟩
theorem call34 : CallOK prog 34 := ⟨_, _, func34, rfl, by kernel_rfl⟩
theorem call36 : CallOK prog 36 := ⟨_, _, func36, rfl, by kernel_rfl⟩
theorem call38 : CallOK prog 38 := ⟨_, _, func38, rfl, by kernel_rfl⟩
theorem call39 : CallOK prog 39 := ⟨_, _, func39, rfl, by kernel_rfl⟩
theorem call40 : CallOK prog 40 := ⟨_, _, func40, rfl, by kernel_rfl⟩
theorem call41 : CallOK prog 41 := ⟨_, _, func41, rfl, by kernel_rfl⟩
theorem call42 : CallOK prog 42 := ⟨_, _, func42, rfl, by kernel_rfl⟩
theorem call43 : CallOK prog 43 := ⟨_, _, func43, rfl, by kernel_rfl⟩
theorem call44 : CallOK prog 44 := ⟨_, _, func44, rfl, by kernel_rfl⟩
theorem call45 : CallOK prog 45 := ⟨_, _, func45, rfl, by kernel_rfl⟩
theorem call46 : CallOK prog 46 := ⟨_, _, func46, rfl, by kernel_rfl⟩
theorem call47 : CallOK prog 47 := ⟨_, _, func47, rfl, by kernel_rfl⟩
theorem call48 : CallOK prog 48 := ⟨_, _, func48, rfl, by kernel_rfl⟩
theorem call49 : CallOK prog 49 := ⟨_, _, func49, rfl, by kernel_rfl⟩
theorem call50 : CallOK prog 50 := ⟨_, _, func50, rfl, by kernel_rfl⟩
theorem call51 : CallOK prog 51 := ⟨_, _, func51, rfl, by kernel_rfl⟩
theorem call52 : CallOK prog 52 := ⟨_, _, func52, rfl, by kernel_rfl⟩
theorem call53 : CallOK prog 53 := ⟨_, _, func53, rfl, by kernel_rfl⟩
theorem call54 : CallOK prog 54 := ⟨_, _, func54, rfl, by kernel_rfl⟩
theorem call55 : CallOK prog 55 := ⟨_, _, func55, rfl, by kernel_rfl⟩
theorem call56 : CallOK prog 56 := ⟨_, _, func56, rfl, by kernel_rfl⟩
theorem call57 : CallOK prog 57 := ⟨_, _, func57, rfl, by kernel_rfl⟩
theorem call58 : CallOK prog 58 := ⟨_, _, func58, rfl, by kernel_rfl⟩
theorem call59 : CallOK prog 59 := ⟨_, _, func59, rfl, by kernel_rfl⟩
theorem call60 : CallOK prog 60 := ⟨_, _, func60, rfl, by kernel_rfl⟩
theorem call61 : CallOK prog 61 := ⟨_, _, func61, rfl, by kernel_rfl⟩
theorem call62 : CallOK prog 62 := ⟨_, _, func62, rfl, by kernel_rfl⟩
theorem call63 : CallOK prog 63 := ⟨_, _, func63, rfl, by kernel_rfl⟩
theorem call64 : CallOK prog 64 := ⟨_, _, func64, rfl, by kernel_rfl⟩
theorem call65 : CallOK prog 65 := ⟨_, _, func65, rfl, by kernel_rfl⟩
theorem call66 : CallOK prog 66 := ⟨_, _, func66, rfl, by kernel_rfl⟩
theorem call67 : CallOK prog 67 := ⟨_, _, func67, rfl, by kernel_rfl⟩
theorem call68 : CallOK prog 68 := ⟨_, _, func68, rfl, by kernel_rfl⟩
theorem call72 : CallOK prog 72 := ⟨_, _, func72, rfl, by kernel_rfl⟩
theorem call73 : CallOK prog 73 := ⟨_, _, func73, rfl, by kernel_rfl⟩
theorem call74 : CallOK prog 74 := ⟨_, _, func74, rfl, by kernel_rfl⟩
theorem call81 : CallOK prog 81 := ⟨_, _, func81, rfl, by kernel_rfl⟩
theorem call82 : CallOK prog 82 := ⟨_, _, func82, rfl, by kernel_rfl⟩
theorem call83 : CallOK prog 83 := ⟨_, _, func83, rfl, by kernel_rfl⟩
theorem call84 : CallOK prog 84 := ⟨_, _, func84, rfl, by kernel_rfl⟩
theorem call85 : CallOK prog 85 := ⟨_, _, func85, rfl, by kernel_rfl⟩
theorem call86 : CallOK prog 86 := ⟨_, _, func86, rfl, by kernel_rfl⟩
theorem call87 : CallOK prog 87 := ⟨_, _, func87, rfl, by kernel_rfl⟩
theorem call88 : CallOK prog 88 := ⟨_, _, func88, rfl, by kernel_rfl⟩
theorem call89 : CallOK prog 89 := ⟨_, _, func89, rfl, by kernel_rfl⟩
theorem call90 : CallOK prog 90 := ⟨_, _, func90, rfl, by kernel_rfl⟩
theorem call91 : CallOK prog 91 := ⟨_, _, func91, rfl, by kernel_rfl⟩
theorem call92 : CallOK prog 92 := ⟨_, _, func92, rfl, by kernel_rfl⟩
theorem call93 : CallOK prog 93 := ⟨_, _, func93, rfl, by kernel_rfl⟩
theorem call94 : CallOK prog 94 := ⟨_, _, func94, rfl, by kernel_rfl⟩
theorem call95 : CallOK prog 95 := ⟨_, _, func95, rfl, by kernel_rfl⟩
theorem call96 : CallOK prog 96 := ⟨_, _, func96, rfl, by kernel_rfl⟩
theorem call97 : CallOK prog 97 := ⟨_, _, func97, rfl, by kernel_rfl⟩
theorem call98 : CallOK prog 98 := ⟨_, _, func98, rfl, by kernel_rfl⟩
theorem call99 : CallOK prog 99 := ⟨_, _, func99, rfl, by kernel_rfl⟩
theorem call100 : CallOK prog 100 := ⟨_, _, func100, rfl, by kernel_rfl⟩
theorem call101 : CallOK prog 101 := ⟨_, _, func101, rfl, by kernel_rfl⟩
theorem call102 : CallOK prog 102 := ⟨_, _, func102, rfl, by kernel_rfl⟩
theorem call103 : CallOK prog 103 := ⟨_, _, func103, rfl, by kernel_rfl⟩
theorem call104 : CallOK prog 104 := ⟨_, _, func104, rfl, by kernel_rfl⟩
theorem call105 : CallOK prog 105 := ⟨_, _, func105, rfl, by kernel_rfl⟩
theorem call106 : CallOK prog 106 := ⟨_, _, func106, rfl, by kernel_rfl⟩
theorem call107 : CallOK prog 107 := ⟨_, _, func107, rfl, by kernel_rfl⟩
theorem call108 : CallOK prog 108 := ⟨_, _, func108, rfl, by kernel_rfl⟩
theorem call109 : CallOK prog 109 := ⟨_, _, func109, rfl, by kernel_rfl⟩
theorem call110 : CallOK prog 110 := ⟨_, _, func110, rfl, by kernel_rfl⟩
theorem call111 : CallOK prog 111 := ⟨_, _, func111, rfl, by kernel_rfl⟩
theorem call112 : CallOK prog 112 := ⟨_, _, func112, rfl, by kernel_rfl⟩
theorem call113 : CallOK prog 113 := ⟨_, _, func113, rfl, by kernel_rfl⟩
theorem call114 : CallOK prog 114 := ⟨_, _, func114, rfl, by kernel_rfl⟩
theorem call115 : CallOK prog 115 := ⟨_, _, func115, rfl, by kernel_rfl⟩
theorem call116 : CallOK prog 116 := ⟨_, _, func116, rfl, by kernel_rfl⟩
theorem call117 : CallOK prog 117 := ⟨_, _, func117, rfl, by kernel_rfl⟩
theorem call118 : CallOK prog 118 := ⟨_, _, func118, rfl, by kernel_rfl⟩
theorem call119 : CallOK prog 119 := ⟨_, _, func119, rfl, by kernel_rfl⟩
theorem call120 : CallOK prog 120 := ⟨_, _, func120, rfl, by kernel_rfl⟩
theorem call121 : CallOK prog 121 := ⟨_, _, func121, rfl, by kernel_rfl⟩
theorem call122 : CallOK prog 122 := ⟨_, _, func122, rfl, by kernel_rfl⟩
theorem call123 : CallOK prog 123 := ⟨_, _, func123, rfl, by kernel_rfl⟩
theorem call124 : CallOK prog 124 := ⟨_, _, func124, rfl, by kernel_rfl⟩
theorem call125 : CallOK prog 125 := ⟨_, _, func125, rfl, by kernel_rfl⟩
theorem call126 : CallOK prog 126 := ⟨_, _, func126, rfl, by kernel_rfl⟩
theorem call127 : CallOK prog 127 := ⟨_, _, func127, rfl, by kernel_rfl⟩
theorem call131 : CallOK prog 131 := ⟨_, _, func131, rfl, by kernel_rfl⟩
theorem call132 : CallOK prog 132 := ⟨_, _, func132, rfl, by kernel_rfl⟩
theorem call133 : CallOK prog 133 := ⟨_, _, func133, rfl, by kernel_rfl⟩
theorem call134 : CallOK prog 134 := ⟨_, _, func134, rfl, by kernel_rfl⟩
theorem call135 : CallOK prog 135 := ⟨_, _, func135, rfl, by kernel_rfl⟩
theorem call136 : CallOK prog 136 := ⟨_, _, func136, rfl, by kernel_rfl⟩
theorem call143 : CallOK prog 143 := ⟨_, _, func143, rfl, by kernel_rfl⟩
theorem call144 : CallOK prog 144 := ⟨_, _, func144, rfl, by kernel_rfl⟩
theorem call145 : CallOK prog 145 := ⟨_, _, func145, rfl, by kernel_rfl⟩
theorem call146 : CallOK prog 146 := ⟨_, _, func146, rfl, by kernel_rfl⟩
theorem call147 : CallOK prog 147 := ⟨_, _, func147, rfl, by kernel_rfl⟩
theorem call148 : CallOK prog 148 := ⟨_, _, func148, rfl, by kernel_rfl⟩
theorem call149 : CallOK prog 149 := ⟨_, _, func149, rfl, by kernel_rfl⟩
theorem call150 : CallOK prog 150 := ⟨_, _, func150, rfl, by kernel_rfl⟩
theorem call151 : CallOK prog 151 := ⟨_, _, func151, rfl, by kernel_rfl⟩
theorem call152 : CallOK prog 152 := ⟨_, _, func152, rfl, by kernel_rfl⟩
theorem call153 : CallOK prog 153 := ⟨_, _, func153, rfl, by kernel_rfl⟩
theorem call154 : CallOK prog 154 := ⟨_, _, func154, rfl, by kernel_rfl⟩
theorem call155 : CallOK prog 155 := ⟨_, _, func155, rfl, by kernel_rfl⟩
theorem call156 : CallOK prog 156 := ⟨_, _, func156, rfl, by kernel_rfl⟩
theorem call157 : CallOK prog 157 := ⟨_, _, func157, rfl, by kernel_rfl⟩
theorem call158 : CallOK prog 158 := ⟨_, _, func158, rfl, by kernel_rfl⟩
theorem call159 : CallOK prog 159 := ⟨_, _, func159, rfl, by kernel_rfl⟩
theorem call160 : CallOK prog 160 := ⟨_, _, func160, rfl, by kernel_rfl⟩
theorem call161 : CallOK prog 161 := ⟨_, _, func161, rfl, by kernel_rfl⟩
theorem call162 : CallOK prog 162 := ⟨_, _, func162, rfl, by kernel_rfl⟩
theorem call163 : CallOK prog 163 := ⟨_, _, func163, rfl, by kernel_rfl⟩
theorem call164 : CallOK prog 164 := ⟨_, _, func164, rfl, by kernel_rfl⟩
theorem call165 : CallOK prog 165 := ⟨_, _, func165, rfl, by kernel_rfl⟩
theorem call166 : CallOK prog 166 := ⟨_, _, func166, rfl, by kernel_rfl⟩
theorem call167 : CallOK prog 167 := ⟨_, _, func167, rfl, by kernel_rfl⟩
theorem call168 : CallOK prog 168 := ⟨_, _, func168, rfl, by kernel_rfl⟩
theorem call169 : CallOK prog 169 := ⟨_, _, func169, rfl, by kernel_rfl⟩
theorem call170 : CallOK prog 170 := ⟨_, _, func170, rfl, by kernel_rfl⟩
theorem call171 : CallOK prog 171 := ⟨_, _, func171, rfl, by kernel_rfl⟩
theorem call172 : CallOK prog 172 := ⟨_, _, func172, rfl, by kernel_rfl⟩
theorem call173 : CallOK prog 173 := ⟨_, _, func173, rfl, by kernel_rfl⟩
theorem call174 : CallOK prog 174 := ⟨_, _, func174, rfl, by kernel_rfl⟩
theorem call175 : CallOK prog 175 := ⟨_, _, func175, rfl, by kernel_rfl⟩
theorem call176 : CallOK prog 176 := ⟨_, _, func176, rfl, by kernel_rfl⟩
theorem call177 : CallOK prog 177 := ⟨_, _, func177, rfl, by kernel_rfl⟩
theorem call178 : CallOK prog 178 := ⟨_, _, func178, rfl, by kernel_rfl⟩
theorem call179 : CallOK prog 179 := ⟨_, _, func179, rfl, by kernel_rfl⟩
theorem call180 : CallOK prog 180 := ⟨_, _, func180, rfl, by kernel_rfl⟩
theorem call181 : CallOK prog 181 := ⟨_, _, func181, rfl, by kernel_rfl⟩
theorem call182 : CallOK prog 182 := ⟨_, _, func182, rfl, by kernel_rfl⟩
theorem call183 : CallOK prog 183 := ⟨_, _, func183, rfl, by kernel_rfl⟩
theorem call184 : CallOK prog 184 := ⟨_, _, func184, rfl, by kernel_rfl⟩
theorem call185 : CallOK prog 185 := ⟨_, _, func185, rfl, by kernel_rfl⟩
theorem call187 : CallOK prog 187 := ⟨_, _, func187, rfl, by kernel_rfl⟩
theorem call188 : CallOK prog 188 := ⟨_, _, func188, rfl, by kernel_rfl⟩
theorem call189 : CallOK prog 189 := ⟨_, _, func189, rfl, by kernel_rfl⟩
theorem call190 : CallOK prog 190 := ⟨_, _, func190, rfl, by kernel_rfl⟩
theorem call191 : CallOK prog 191 := ⟨_, _, func191, rfl, by kernel_rfl⟩
theorem call192 : CallOK prog 192 := ⟨_, _, func192, rfl, by kernel_rfl⟩
theorem call194 : CallOK prog 194 := ⟨_, _, func194, rfl, by kernel_rfl⟩
theorem call195 : CallOK prog 195 := ⟨_, _, func195, rfl, by kernel_rfl⟩
theorem call196 : CallOK prog 196 := ⟨_, _, func196, rfl, by kernel_rfl⟩
theorem call197 : CallOK prog 197 := ⟨_, _, func197, rfl, by kernel_rfl⟩
theorem call198 : CallOK prog 198 := ⟨_, _, func198, rfl, by kernel_rfl⟩
theorem call199 : CallOK prog 199 := ⟨_, _, func199, rfl, by kernel_rfl⟩
theorem call200 : CallOK prog 200 := ⟨_, _, func200, rfl, by kernel_rfl⟩
theorem call201 : CallOK prog 201 := ⟨_, _, func201, rfl, by kernel_rfl⟩
theorem call202 : CallOK prog 202 := ⟨_, _, func202, rfl, by kernel_rfl⟩
theorem call203 : CallOK prog 203 := ⟨_, _, func203, rfl, by kernel_rfl⟩
theorem call204 : CallOK prog 204 := ⟨_, _, func204, rfl, by kernel_rfl⟩
theorem call205 : CallOK prog 205 := ⟨_, _, func205, rfl, by kernel_rfl⟩
theorem call206 : CallOK prog 206 := ⟨_, _, func206, rfl, by kernel_rfl⟩
theorem call207 : CallOK prog 207 := ⟨_, _, func207, rfl, by kernel_rfl⟩
theorem call208 : CallOK prog 208 := ⟨_, _, func208, rfl, by kernel_rfl⟩
theorem call209 : CallOK prog 209 := ⟨_, _, func209, rfl, by kernel_rfl⟩
theorem call210 : CallOK prog 210 := ⟨_, _, func210, rfl, by kernel_rfl⟩
theorem call211 : CallOK prog 211 := ⟨_, _, func211, rfl, by kernel_rfl⟩
theorem call212 : CallOK prog 212 := ⟨_, _, func212, rfl, by kernel_rfl⟩
theorem call213 : CallOK prog 213 := ⟨_, _, func213, rfl, by kernel_rfl⟩
theorem call214 : CallOK prog 214 := ⟨_, _, func214, rfl, by kernel_rfl⟩
theorem call215 : CallOK prog 215 := ⟨_, _, func215, rfl, by kernel_rfl⟩
theorem call216 : CallOK prog 216 := ⟨_, _, func216, rfl, by kernel_rfl⟩
theorem call217 : CallOK prog 217 := ⟨_, _, func217, rfl, by kernel_rfl⟩
theorem call218 : CallOK prog 218 := ⟨_, _, func218, rfl, by kernel_rfl⟩
theorem call219 : CallOK prog 219 := ⟨_, _, func219, rfl, by kernel_rfl⟩
theorem call220 : CallOK prog 220 := ⟨_, _, func220, rfl, by kernel_rfl⟩
theorem call221 : CallOK prog 221 := ⟨_, _, func221, rfl, by kernel_rfl⟩
theorem call222 : CallOK prog 222 := ⟨_, _, func222, rfl, by kernel_rfl⟩
theorem call223 : CallOK prog 223 := ⟨_, _, func223, rfl, by kernel_rfl⟩
theorem call224 : CallOK prog 224 := ⟨_, _, func224, rfl, by kernel_rfl⟩
theorem call225 : CallOK prog 225 := ⟨_, _, func225, rfl, by kernel_rfl⟩
theorem call226 : CallOK prog 226 := ⟨_, _, func226, rfl, by kernel_rfl⟩
theorem call227 : CallOK prog 227 := ⟨_, _, func227, rfl, by kernel_rfl⟩
theorem call228 : CallOK prog 228 := ⟨_, _, func228, rfl, by kernel_rfl⟩
theorem call229 : CallOK prog 229 := ⟨_, _, func229, rfl, by kernel_rfl⟩
theorem flat31 : flat? prog 6 31 = some ([some .u32, some .u32, some .u32, some .u32, some .u32, some .u32, some .u32, some .u32, some .u32, some .u32, some .u32, some .u32, some .u32, some .u32, some .u32, some .u32, some .u64, some .u64, some .u64, some .u64, some .u64, some .u64, some .u64, some .u64, some .u32], true) := by kernel_rfl
theorem guard31 : prog.eqGuardType prog.depth 31 = false := by kernel_rfl
theorem flat160 : flat? prog 6 160 = some ([none, none, none, none, none, none, none, none], true) := by kernel_rfl
theorem guard160 : prog.eqGuardType prog.depth 160 = false := by kernel_rfl
theorem flat307 : flat? prog 6 307 = some ([none, some .i64, some .i64, some .i64, some .i64], true) := by kernel_rfl
theorem guard307 : prog.eqGuardType prog.depth 307 = false := by kernel_rfl
theorem mixed : prog.follows .mixedOrders = true := by kernel_rfl
end Go.Proofs.YtphljkplokjonaaGreat.T
