/- Arrays: cuts of an array, copies into a part, records written by fields. No program in sight. -/
import Derived.Test.YtmlfcfbblfcpdaaMap
import Derived.Test.YtmlfcfbblfcpdaaRow
namespace Go.Sl
open Go Go.RowKit
set_option linter.unusedSimpArgs false
set_option linter.unusedVariables false
section
variable {P : Program} {W0 : World} {e : Env} {G R : List HProp} {ty : TypeId} {E sz : Nat} {a : Option Addr} {c m : Nat} {xs : List Value}

theorem zeroCells_flat {z : Array Value} {sz : Nat} (hz : z.size = sz) (q : Nat) : (Builtin.zeroCells z q).toList = (List.replicate q z.toList).flatten := by
  unfold Builtin.zeroCells
  simp only [Array.toList_map, Array.toList_range, hz]
  induction q with
  | zero => simp
  | succ q ih =>
    rw [List.replicate_succ', List.flatten_append, ← ih, Nat.succ_mul, List.range_add, List.map_append]
    congr 1
    simp only [List.map_map, List.flatten_cons, List.flatten_nil, List.append_nil]
    apply List.ext_getElem
    · simp [hz]
    · intro i h1 h2
      simp only [List.length_map, List.length_range] at h1
      simp only [List.getElem_map, List.getElem_range, Function.comp, Array.getElem_toList]
      have : (q * sz + i) % sz = i := by rw [Nat.mul_comm, Nat.mul_add_mod]; exact Nat.mod_eq_of_lt h1
      rw [this, getElem!_pos z i (by rw [hz]; exact h1)]
/-- One cell of one record written over. -/
theorem flat_setf {α : Type} {f : α → List Value} (hf : ∀ x, (f x).length = sz) {x y : α} {j : Nat} {v : Value} (hy : f y = (f x).set j v) (hj : j < sz) : ∀ {xs : List α} {i : Nat}, xs[i]? = some x → ((xs.map f).flatten).set (i * sz + j) v = ((xs.set i y).map f).flatten
  | [], i, h => by simp at h
  | z :: xs, 0, h => by
    simp only [List.getElem?_cons_zero, Option.some.injEq] at h
    subst h
    simp only [Nat.zero_mul, Nat.zero_add, List.set_cons_zero, List.map_cons, List.flatten_cons]
    rw [List.set_append_left _ _ (by rw [hf]; exact hj), hy]
  | z :: xs, i + 1, h => by
    have ih := flat_setf hf hy hj (xs := xs) (i := i) (by simpa using h)
    simp only [List.set_cons_succ, List.map_cons, List.flatten_cons]
    rw [← ih, List.set_append_right _ _ (by rw [hf, Nat.succ_mul]; omega), hf, show (i + 1) * sz + j - sz = i * sz + j by rw [Nat.succ_mul]; omega]
/-- A store into a field of a record in a slice of one's own. -/
theorem Eff.storeFld {α : Type} {fc' : α → List Value} {t : TypeId} {x y : Operand} {b o i : Nat} (j : Nat) {r r' : α} {rs : List α} {v : Value} {put : HProp → List HProp} {by' z ag} (hlen : ∀ x, (fc' x).length = sz) (hr : rs[i]? = some r) (hr' : fc' r' = (fc' r).set j v) (hj : j < sz) (ht : TI P t 1 by' z ag) (hx : e.ev x = some (.pointer (some ⟨b, o + i * sz + j, none⟩))) (hy : e.ev y = some v)
    (fc : Foc G (osl E sz (some ⟨b, o, none⟩) c m ((rs.map fc').flatten)) put) (h1 : one v = true) (hm : m = rs.length) : Eff P W0 (.store t x y) ty e G (fun _ : Unit => True) (fun _ => undef) (fun _ => put (osl E sz (some ⟨b, o, none⟩) c m (((rs.set i r').map fc').flatten))) := by
  subst hm
  have hi := (List.getElem?_eq_some_iff.1 hr).1
  have h := Eff.storeElem (P := P) (W0 := W0) (ty := ty) (i := i * sz + j) ht (by rw [hx, Nat.add_assoc]) hy fc h1 (by
    have : i * sz + sz ≤ rs.length * sz := by rw [← Nat.succ_mul]; exact Nat.mul_le_mul_right _ hi
    omega)
  rw [flat_setf hlen hr' hj hr] at h
  exact h
/-- A cut of an array that lies somewhere. -/
theorem Yield.slice_arr {t el : TypeId} {len : Nat} {x : Operand} {lo hi : Option Operand} {b o sz by' z ag} {l h : Int} (hu : P.underlying t = some (.array len el)) (ht : TI P el sz by' z ag) (hx : e.ev x = some (.pointer (some ⟨b, o, none⟩)))
    (hl : Bound e lo 0 l) (hh : Bound e hi len h) (h0 : 0 ≤ l) (h1 : l ≤ h) (h2 : h ≤ len) (h3 : l < len) : Yield P W0 (.slice t x lo hi none) ty e G (.slice (some ⟨b, o + l.toNat * sz, none⟩) (h.toNat - l.toNat) (len - l.toNat)) := fun ρ hρ w _ _ _ _ _ => by
  have hs : (Instr.sliceAt t (.pointer (some ⟨b, o, none⟩)) (lo.map ρ) (hi.map ρ) none).run P w = .ok (.slice (some ⟨b, o + l.toNat * sz, none⟩) (h.toNat - l.toNat) (len - l.toNat)) w := by
    unfold Instr.sliceAt
    show ((underlying t).bind _).run P w = _
    rw [run_bind_ok (run_underlying hu w)]
    simp only []
    show ((Instr.sureAddr _).bind _).run P w = _
    rw [run_bind_ok (show (Instr.sureAddr (.pointer (some ⟨b, o, none⟩))).run P w = .ok ⟨b, o, none⟩ w by rfl)]
    show ((Instr.sliceBounds _ _ _ _ _ _).bind _).run P w = _
    rw [run_bind_ok (run_sliceBounds hρ hl hh h0 h1 h2 w)]
    simp only []
    show ((sizeOf el).bind _).run P w = _
    rw [run_bind_ok (ht.run_size w)]
    rw [if_neg (by omega), add_at]
    rfl
  show ((Instr.sliceAt t (ρ x) (lo.map ρ) (hi.map ρ) ((Option.none : Option Operand).map ρ)).bind _).run P w = _
  rw [hρ x _ hx, Option.map_none, run_bind_ok hs]; rfl
theorem over_over {cs ys : List Value} {o k j : Nat} (h : (cs.drop o).take k = xs) (hj : j + ys.length ≤ k) (ho : o + k ≤ cs.length) : ((over cs (o + j) ys).drop o).take k = over xs j ys := by
  subst h
  unfold over
  have e0 : (cs.take (o + j)).length = o + j := by rw [List.length_take]; omega
  rw [List.append_assoc, List.drop_append, e0, show o - (o + j) = 0 by omega, List.drop_zero, List.drop_take, show o + j - o = j by omega, List.take_append, List.length_take, List.length_drop]
  have e1 : min j (cs.length - o) = j := by omega
  rw [e1, List.take_take, List.take_take, show min k j = j by omega, show min j k = j by omega, List.append_assoc]
  congr 1
  rw [List.take_append, List.take_of_length_le (by omega : ys.length ≤ k - j)]
  congr 1
  rw [List.drop_take, List.drop_drop]
  congr 1
  · omega
  · congr 1; omega
/-- copy into a part of a slice of one's own: the part's cells are one each. -/
theorem Eff.copyIn {x y : Operand} {st st2 el : TypeId} {a2 : Option Addr} {b o j n cn k c2 by' : Nat} {z : Value} {ag : Bool} {ys : List Value} {put : HProp → List HProp} {ats : Array TypeId}
    (hx : e.ev x = some (.slice (some ⟨b, o + j, none⟩) n cn)) (hy : e.ev y = some (.slice a2 k c2)) (hats : ats = #[st, st2]) (hu : P.underlying st = some (.slice el)) (ht : TI P el 1 by' z ag)
    (fc : Foc G (osl E sz (some ⟨b, o, none⟩) c m xs) put) (hj : j + n ≤ m * sz) (hr : SlR W0 G 1 a2 k ys) (hone : ∀ v ∈ ys, one v = true) :
    Eff P W0 (.call { callee := .builtin .copy, args := #[x, y], argTypes := ats }) ty e G (fun _ : Unit => True) (fun _ => .int .i64 (min k n : Nat)) (fun _ => put (osl E sz (some ⟨b, o, none⟩) c m (over xs j (ys.take (min k n))))) := fun ρ hρ w hw _ _ _ _ => by
  subst hats
  obtain ⟨R, hR⟩ := foc_ext fc
  have hy0 := hr w hw
  have hevs : e.evs [x, y] = some [.slice (some ⟨b, o + j, none⟩) n cn, .slice a2 k c2] := by simp only [Env.evs, hx, hy]
  obtain ⟨f, hf, hA⟩ := Sat.ext hR hw
  obtain ⟨h1, h2, h3⟩ := hA
  have hpre : ∀ (w' : World), ((Go.storeCells ⟨b, o + j, none⟩ (ys.take (min k n))).run P w = .ok () w') →
      (Builtin.copy_ #[st, st2] ty #[.slice (some ⟨b, o + j, none⟩) n cn, .slice a2 k c2]).run P w = .ok (.int .i64 (min k n : Nat)) w' := by
    intro w' hst
    unfold Builtin.copy_
    simp only [List.getElem?_toArray, List.getElem?_cons_zero, List.getElem?_cons_succ]
    show ((underlying st).bind _).run P w = _
    rw [run_bind_ok (run_underlying hu w)]
    simp only [bind]
    rw [run_bind_ok (show (Builtin.lenOf (.slice a2 k c2)).run P w = .ok k w by rfl)]
    rw [run_bind_ok (ht.run_size w)]
    have hfc := run_firstCells_le (P := P) (cc := c2) hy0 (Nat.min_le_left k n)
    rw [Nat.mul_one] at hfc
    rw [run_bind_ok hfc]
    simp only []; rw [run_bind_ok hst]; rfl
  have hlen : (ys.take (min k n)).length = min k n := by
    rw [List.length_take, hy0.1]; omega
  have hcm : m * sz ≤ c * sz := Nat.mul_le_mul_right _ h2
  generalize hY : ys.take (min k n) = Y at *
  have hYone : ∀ v ∈ Y, one v = true := by rw [← hY]; exact fun v hv => hone v (List.mem_of_mem_take hv)
  rcases h3 with ⟨q, _⟩ | ⟨b', o', cs, fr, q, hbk, hfr, ho, htk⟩
  · cases q
  · cases q
    have hwb := hf _ _ hbk
    refine ⟨(), setObjW w b (.cells (over cs (o + j) Y).toArray E fr), trivial, ?_, .inl (run_built (s := Builtin.copy_ #[st, st2] ty #[.slice (some ⟨b, o + j, none⟩) n cn, .slice a2 k c2]) hρ hevs (fun _ => rfl) (hpre _ ?_))⟩
    · refine Sat.write (b := b) (o := .cells cs.toArray E fr) fc hw hwb ?_
      intro f' hle' hf'
      obtain ⟨h1', _, h3'⟩ := hf'
      rcases h3' with ⟨h, _⟩ | ⟨b', o', cs', fr', hq, hbk', _, _, htk'⟩
      · cases h
      · cases hq
        have hsame : some (Obj.cells cs'.toArray E fr') = some (Obj.cells cs.toArray E fr) := (hle' _ _ hbk').symm.trans hwb
        simp only [Option.some.injEq, Obj.cells.injEq] at hsame
        obtain ⟨q1, _, q3⟩ := hsame
        have q1 := List.toArray_inj q1
        subst q1 q3
        have hol : (over cs' (o + j) Y).length = cs'.length := over_length (by omega)
        refine ⟨hbk', ?_, h2, .inr ⟨b, o, over cs' (o + j) Y, fr', rfl, by simp [updH], by rw [hol]; exact hfr, by rw [hol]; exact ho, ?_⟩⟩
        · rw [over_length (by omega)]; exact h1
        · exact over_over htk (by omega) (by omega)
    · have := run_storeCells (P := P) (b := b) (o := o + j) (t := E) Y 0 w cs hwb hfr (by omega) hYone
      simpa using this
/-- A part of the bytes of a slice that may be read. -/
theorem SlR.part {b o i k : Nat} {ys : List Value} (s : SlR W0 G sz (some ⟨b, o, none⟩) m xs) (hy : (xs.drop i).take k = ys) (hk : i + k ≤ m * sz) : SlR W0 G 1 (some ⟨b, o + i, none⟩) k ys := fun w hw => by
  have h1 := (s w hw).1
  exact SlR.of_row (s.row i k hy) (by rw [← hy, List.length_take, List.length_drop]; omega) w hw
/-- A block as a slice over the whole of it. -/
theorem blk_osl {b n : Nat} {cs : List Value} (h : cs.length = n) (x : Heaplet) (hb : blk b cs E x) : osl E 1 (some ⟨b, 0, none⟩) n n cs x :=
  ⟨by omega, Nat.le_refl _, .inr ⟨b, 0, cs, (0, 0), rfl, hb, NoFr.zero _, by omega, by rw [List.drop_zero, ← h]; simp⟩⟩
/-- An operation whose guard was itself passed. -/
theorem OG.guard_un {n : Nat} {ds : List Deferred} {ops : Array Oper} {Q : Exit → Act → World → Prop} {rest : List Oper} {o : Oper} {d j t : Nat} {want : Bool} (hdst : o.dst = some d) (hg : o.guard = some (j, want)) (ht : (ops[j]?).bind (·.dst) = some t) (hv : e.get t = some undef) (hn : t < n) (hd : d < n)
    (k : OG P W0 n ds ops Q rest ((d, undef) :: e) G) : OG P W0 n ds ops Q (o :: rest) e G := fun a w ha hw => by
  unfold wpL
  have hy : yielded ops a.tmps j = none := by
    unfold yielded
    have h2 := ha.slot t _ hv
    have hs := ha.size
    rw [ht]
    simp only [Option.bind_some]
    have hlt : t < a.tmps.size := by omega
    simp only [Array.getD, hlt, dif_pos] at h2
    rw [Array.getElem?_eq_getElem hlt]
    have : a.tmps[t] = undef := h2
    rw [this]; rfl
  rw [if_neg (by simp [Region.wanted, hg, hy]), hdst]
  exact k _ _ (ha.put hd) hw
/-- A contract said otherwise. -/
theorem Ctr.to {f : FuncId} {args : List Value} {α β : Type} {φ : α → Prop} {v : α → Value} {G' : α → List HProp} {ψ : β → Prop} {u : β → Value} {D : β → List HProp} (h : Ctr P W0 f args G φ v G') (g : α → β) (hφ : ∀ x, φ x → ψ (g x)) (hv : ∀ x, v x = u (g x)) (hG : ∀ x, Imp (G' x) (D (g x))) : Ctr P W0 f args G ψ u D := fun w hw =>
  (h w hw).mono fun r w' ⟨x, hx, hr, hs⟩ => ⟨g x, hφ x hx, by rw [hr, hv], hs.imp (hG x)⟩
/-- A cut that does not begin at the very end. -/
theorem Yield.slice_in {t el : TypeId} {x : Operand} {lo hi : Option Operand} {b o m c sz by' z ag} {l h : Int} (hu : P.underlying t = some (.slice el)) (ht : TI P el sz by' z ag) (hx : e.ev x = some (.slice (some ⟨b, o, none⟩) m c))
    (hl : Bound e lo 0 l) (hh : Bound e hi m h) (h0 : 0 ≤ l) (h1 : l ≤ h) (h2 : h ≤ c) (h3 : l < c) : Yield P W0 (.slice t x lo hi none) ty e G (.slice (some ⟨b, o + l.toNat * sz, none⟩) (h.toNat - l.toNat) (c - l.toNat)) := by
  have := Yield.slice (W0 := W0) (G := G) (ty := ty) hu ht hx hl hh h0 h1 h2
  rw [Option.map_some, show cutAt ⟨b, o, none⟩ l.toNat c sz = ⟨b, o + l.toNat * sz, none⟩ by unfold cutAt; rw [if_neg (by omega), add_at]] at this
  exact this
/-- A byte stored into a slice of bytes of one's own. -/
theorem Eff.storeByteS {t : TypeId} {x y : Operand} {b o o' i : Nat} {z : UInt8} {bs : List UInt8} {put : HProp → List HProp} {by' zv ag} (ht : TI P t 1 by' zv ag) (ho : o' = o + i) (hx : e.ev x = some (.pointer (some ⟨b, o', none⟩))) (hy : e.ev y = some (byteV z))
    (fc : Foc G (oby E (some ⟨b, o, none⟩) c bs) put) (hi : i < bs.length) : Eff P W0 (.store t x y) ty e G (fun _ : Unit => True) (fun _ => undef) (fun _ => put (oby E (some ⟨b, o, none⟩) c (bs.set i z))) := by
  subst ho
  have := Eff.storeElem (P := P) (W0 := W0) (ty := ty) ht hx hy fc rfl (by omega)
  rw [bytesV_set] at this
  unfold oby; rw [List.length_set]; exact this
end
end Go.Sl
