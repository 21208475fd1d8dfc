/- In place: append over what lies behind, clearing a part, a cut with a bound. No program in sight. -/
import Derived.Test.YtoejnhfcegchhaaFnv
namespace Go.Sl
open Go Go.RowKit
set_option linter.unusedSimpArgs false
set_option linter.unusedVariables false
section
variable {P : Program} {W0 : World} {e : Env} {G R : List HProp} {ty : TypeId} {E sz : Nat} {a : Option Addr} {c m : Nat} {xs : List Value}
theorem run_sliceBounds3 {len cap : Nat} {lo hi mx : Operand} {l h q : Int} {k1 k2 k3 : IntKind} {ρ : Operand → Value} (hρ : Agrees e ρ) (hl : e.ev lo = some (.int k1 l)) (hh : e.ev hi = some (.int k2 h)) (hm : e.ev mx = some (.int k3 q)) (h0 : 0 ≤ l) (h1 : l ≤ h) (h2 : h ≤ q) (h3 : q ≤ cap) (w : World) :
    (Instr.sliceBounds true len cap (some (ρ lo)) (some (ρ hi)) (some (ρ mx))).run P w = .ok (l.toNat, h.toNat, q.toNat) w := by
  unfold Instr.sliceBounds
  have hh0 : 0 ≤ h := by omega
  have hq0 : 0 ≤ q := by omega
  have e1 : ((h.toNat : Nat) : Int) = h := by omega
  have e2 : ((q.toNat : Nat) : Int) = q := by omega
  simp [hρ _ _ hl, hρ _ _ hh, hρ _ _ hm, Instr.sliceBound, asIntOf, hh0, hq0, h2, h0, h1, h3, e1, e2, pure, bind, Sem.bind, Sem.run]
theorem Yield.slice3 {t el : TypeId} {x lo hi mx : Operand} {sz by' z ag} {l h q : Int} {k1 k2 k3 : IntKind} (hu : P.underlying t = some (.slice el)) (ht : TI P el sz by' z ag) (hx : e.ev x = some (.slice a m c))
    (hl : e.ev lo = some (.int k1 l)) (hh : e.ev hi = some (.int k2 h)) (hm : e.ev mx = some (.int k3 q)) (h0 : 0 ≤ l) (h1 : l ≤ h) (h2 : h ≤ q) (h3 : q ≤ c) : Yield P W0 (.slice t x (some lo) (some hi) (some mx)) ty e G (.slice (if q.toNat = l.toNat then a else a.map (·.add (l.toNat * sz))) (h.toNat - l.toNat) (q.toNat - l.toNat)) := fun ρ hρ w _ _ _ _ _ => by
  have hs : (Instr.sliceAt t (.slice a m c) (some (ρ lo)) (some (ρ hi)) (some (ρ mx))).run P w = .ok (.slice (if q.toNat = l.toNat then a else a.map (·.add (l.toNat * sz))) (h.toNat - l.toNat) (q.toNat - l.toNat)) w := by
    unfold Instr.sliceAt
    show ((underlying t).bind _).run P w = _
    rw [run_bind_ok (run_underlying hu w)]
    simp only []
    unfold Instr.slice
    show ((underlying t).bind _).run P w = _
    rw [run_bind_ok (run_underlying hu w)]
    simp only []
    show ((Instr.sliceBounds _ _ _ _ _ _).bind _).run P w = _
    rw [run_bind_ok (run_sliceBounds3 hρ hl hh hm h0 h1 h2 h3 w)]
    simp only []
    show ((sizeOf el).bind _).run P w = _
    rw [run_bind_ok (ht.run_size w)]
    rfl
  show ((Instr.sliceAt t (ρ x) (some (ρ lo)) (some (ρ hi)) (some (ρ mx))).bind _).run P w = _
  rw [hρ x _ hx, run_bind_ok hs]; rfl
/-- Cells written over a part of a slice of one's own. -/
theorem osl_part {put : HProp → List HProp} {b o j : Nat} {ys : List Value} (fc : Foc G (osl E sz (some ⟨b, o, none⟩) c m xs) put) (hj : j + ys.length ≤ m * sz) (hone : ∀ v ∈ ys, one v = true) {w : World} (hw : Sat W0 G w) :
    ∃ (w' : World) (cs : List Value) (fr : Nat × Nat), w.heap[b]? = some (.cells cs.toArray E fr) ∧ NoFr fr cs.length ∧ o + c * sz ≤ cs.length ∧ (Go.storeCells ⟨b, o + j, none⟩ ys).run P w = .ok () w' ∧ w' = setObjW w b (.cells (over cs (o + j) ys).toArray E fr) ∧ Sat W0 (put (osl E sz (some ⟨b, o, none⟩) c m (over xs j ys))) w' := by
  obtain ⟨R, hR⟩ := foc_ext fc
  obtain ⟨f, hf, hA⟩ := Sat.ext hR hw
  obtain ⟨h1, h2, h3⟩ := hA
  have hcm : m * sz ≤ c * sz := Nat.mul_le_mul_right _ h2
  rcases h3 with ⟨q, _⟩ | ⟨b', o', cs, fr, q, hbk, hfr, ho, htk⟩
  · cases q
  · cases q
    have hwb := hf _ _ hbk
    have hst := run_storeCells (P := P) (b := b) (o := o + j) (t := E) ys 0 w cs hwb hfr (by omega) hone
    rw [Nat.add_zero] at hst
    refine ⟨_, cs, fr, hwb, hfr, ho, hst, rfl, ?_⟩
    refine Sat.write (b := b) (o := .cells cs.toArray E fr) fc hw hwb ?_
    intro f' hle' hf'
    obtain ⟨h1', _, h3'⟩ := hf'
    rcases h3' with ⟨h, _⟩ | ⟨b', o', cs', fr', hq, hbk', _, _, htk'⟩
    · cases h
    · cases hq
      have hsame : some (Obj.cells cs'.toArray E fr') = some (Obj.cells cs.toArray E fr) := (hle' _ _ hbk').symm.trans hwb
      simp only [Option.some.injEq, Obj.cells.injEq] at hsame
      obtain ⟨q1, _, q3⟩ := hsame
      have q1 := List.toArray_inj q1
      subst q1 q3
      have hol : (over cs' (o + j) ys).length = cs'.length := over_length (by omega)
      refine ⟨hbk', ?_, h2, .inr ⟨b, o, over cs' (o + j) ys, fr', rfl, by simp [updH], by rw [hol]; exact hfr, by rw [hol]; exact ho, ?_⟩⟩
      · rw [over_length (by omega)]; exact h1
      · exact over_over htk (by omega) (by omega)
/-- append within the room of a slice of one's own, over what lies there. -/
theorem Eff.appendOver {x y : Operand} {st st2 el el2 : TypeId} {a2 : Option Addr} {b o m0 k c2 by' : Nat} {z : Value} {ag : Bool} {ys : List Value} {put : HProp → List HProp} {ats : Array TypeId}
    (hx : e.ev x = some (.slice (some ⟨b, o, none⟩) m0 c)) (hy : e.ev y = some (.slice a2 k c2)) (hats : ats = #[st, st2]) (hu : P.underlying st = some (.slice el)) (hu2 : P.underlying st2 = some (.slice el2)) (ht : TI P el sz by' z ag)
    (fc : Foc G (osl E sz (some ⟨b, o, none⟩) c m xs) put) (hm : m0 + k ≤ m) (hr : SlR W0 G sz a2 k ys) (hone : ∀ v ∈ ys, one v = true) :
    Eff P W0 (.call { callee := .builtin .append, args := #[x, y], argTypes := ats }) ty e G (fun _ : Unit => True) (fun _ => .slice (some ⟨b, o, none⟩) (m0 + k) c) (fun _ => put (osl E sz (some ⟨b, o, none⟩) c m (over xs (m0 * sz) ys))) := fun ρ hρ w hw _ _ _ _ => by
  subst hats
  have hy0 := hr w hw
  have hevs : e.evs [x, y] = some [.slice (some ⟨b, o, none⟩) m0 c, .slice a2 k c2] := by simp only [Env.evs, hx, hy]
  obtain ⟨R, hR⟩ := foc_ext fc
  obtain ⟨hl, hmc⟩ := osl_facts hR w hw
  have hle : (m0 + k) * sz ≤ m * sz := Nat.mul_le_mul_right _ hm
  rw [Nat.add_mul] at hle
  obtain ⟨w', cs, fr, hwb, hfr, ho, hst, hw', hs'⟩ := osl_part (P := P) (j := m0 * sz) (ys := ys) fc (by rw [hy0.1]; omega) hone hw
  refine ⟨(), w', trivial, hs', .inl (run_built (s := Builtin.append_ #[st, st2] ty #[.slice (some ⟨b, o, none⟩) m0 c, .slice a2 k c2]) hρ hevs (fun _ => rfl) ?_)⟩
  rw [hw']
  exact run_append_room (E := E) (m := m0) (c := c) hu hu2 ht (by omega) hy0 hwb hfr ho hone
/-- clear of a part. -/
theorem Eff.clearAt {x : Operand} {st el : TypeId} {by' : Nat} {z : Value} {ag : Bool} {put : HProp → List HProp} {ats : Array TypeId} {zs : List Value} {b o j n cn : Nat}
    (hx : e.ev x = some (.slice (some ⟨b, o + j, none⟩) n cn)) (hats : ats = #[st]) (hu : P.underlying st = some (.slice el)) (ht : TI P el sz by' z ag) (h0 : 0 < n) (hzs : (Builtin.zeroCells z.cells n).toList = zs) (hzl : zs.length = n * sz) (hone : ∀ v ∈ zs, one v = true)
    (fc : Foc G (osl E sz (some ⟨b, o, none⟩) c m xs) put) (hj : j + n * sz ≤ m * sz) :
    Eff P W0 (.call { callee := .builtin .clear, args := #[x], argTypes := ats }) ty e G (fun _ : Unit => True) (fun _ => .tuple #[]) (fun _ => put (osl E sz (some ⟨b, o, none⟩) c m (over xs j zs))) := fun ρ hρ w hw _ _ _ _ => by
  subst hats
  have hevs : e.evs [x] = some [.slice (some ⟨b, o + j, none⟩) n cn] := by simp only [Env.evs, hx]
  obtain ⟨w', cs, fr, hwb, hfr, ho, hst, hw', hs'⟩ := osl_part (P := P) (j := j) (ys := zs) fc (by rw [hzl]; exact hj) hone hw
  refine ⟨(), w', trivial, hs', .inl (run_built (s := Builtin.clear_ #[st] ty #[.slice (some ⟨b, o + j, none⟩) n cn]) hρ hevs (fun _ => rfl) ?_)⟩
  obtain ⟨n', rfl⟩ : ∃ n', n = n' + 1 := ⟨n - 1, by omega⟩
  unfold Builtin.clear_
  simp only [List.getElem?_toArray, List.getElem?_cons_zero]
  show ((underlying st).bind _).run P w = _
  rw [run_bind_ok (run_underlying hu w)]
  simp only [bind]
  rw [run_bind_ok (ht.run_zero w), hzs]
  rw [run_bind_ok hst]; rfl
end
end Go.Sl
