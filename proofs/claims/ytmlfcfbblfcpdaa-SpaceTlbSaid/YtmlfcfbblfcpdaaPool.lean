/- Lists of assertions in any order, one out of many, and code in a scope. No program in sight. -/
import Derived.Test.YtmlfcfbblfcpdaaArr
import Derived.Scope
namespace Go.Sl
open Go Go.RowKit
set_option linter.unusedSimpArgs false
set_option linter.unusedVariables false
theorem Imp.perm {L L' : List HProp} (h : L.Perm L') : Imp L L' := by
  induction h with
  | nil => exact Imp.refl _
  | cons x _ ih => exact Imp.cons ih
  | swap x y l => exact fun _ s => Sep.swap s
  | trans _ _ h1 h2 => exact Imp.trans h1 h2
theorem erase_perm {α : Type} {L : List α} {i : Nat} (hi : i < L.length) : (L[i] :: L.eraseIdx i).Perm L := by
  have e : L = L.take i ++ L[i] :: L.drop (i + 1) := by rw [← List.drop_eq_getElem_cons hi, List.take_append_drop]
  rw [List.eraseIdx_eq_take_drop_succ]
  conv => rhs; rw [e]
  exact List.perm_middle.symm
theorem star_take {L : List HProp} {G : List HProp} {i : Nat} {A : HProp} (h : L[i]? = some A) : Imp (Star L :: G) (A :: Star (L.eraseIdx i) :: G) := by
  obtain ⟨hi, rfl⟩ := List.getElem?_eq_some_iff.1 h
  refine Imp.trans star_open (Imp.trans (Imp.perm (L' := L[i] :: (L.eraseIdx i ++ G)) ?_) (Imp.cons star_close))
  exact ((erase_perm hi).symm).append_right G
theorem star_put {L : List HProp} {G : List HProp} {i : Nat} {A B : HProp} (h : L[i]? = some A) : Imp (B :: Star (L.eraseIdx i) :: G) (Star (L.set i B) :: G) := by
  obtain ⟨hi, rfl⟩ := List.getElem?_eq_some_iff.1 h
  refine Imp.trans (Imp.cons star_open) (Imp.trans (Imp.perm (L' := L.set i B ++ G) ?_) star_close)
  have hp := erase_perm (L := L.set i B) (i := i) (by simpa using hi)
  rw [List.getElem_set_self, List.eraseIdx_set_eq] at hp
  exact hp.append_right G
theorem star_add {L : List HProp} {G : List HProp} {A : HProp} : Imp (A :: Star L :: G) (Star (L ++ [A]) :: G) := by
  refine Imp.trans (Imp.cons star_open) (Imp.trans (Imp.perm (L' := (L ++ [A]) ++ G) ?_) star_close)
  rw [List.append_assoc]
  exact (List.perm_middle (a := A) (l₁ := L) (l₂ := G)).symm
theorem star_join {L M : List HProp} {G : List HProp} : Imp (Star L :: Star M :: G) (Star (L ++ M) :: G) := by
  refine Imp.trans (Imp.cons star_open) (Imp.trans star_open (Imp.trans ?_ star_close))
  rw [List.append_assoc]; exact Imp.refl _
theorem star_nil {G : List HProp} : Imp G (Star [] :: G) := star_close (D := [])
section
variable {P : Program} {W0 : World} {n : Nat} {ds : List Deferred} {Q : Exit → Act → World → Prop} {e : Env} {G R : List HProp}
/-- Bytes out of a list of bytes' blocks. -/
theorem RdB.of_star {L : List HProp} {E : Nat} {a : Option Addr} {c : Nat} {bs : List UInt8} (x : Ext G (Star L) R) (h : oby E a c bs ∈ L) : RdB W0 G a c bs := by
  obtain ⟨i, hi⟩ := List.getElem?_of_mem h
  exact RdB.imp (RdB.of_osl (G := oby E a c bs :: Star (L.eraseIdx i) :: R) Ext.here rfl rfl) (Imp.trans x.1 (star_take hi))
theorem CG.scope {c : Code} (k : CG none P W0 n ds c (Exit.noGoto Q) e G) : CG none P W0 n ds (.scope c) Q e G := fun a w ha hw => (wpIn_wide (n := 0)).2 (wp_scope_straight ((wpIn_wide (n := 0)).1 (k a w ha hw)))
theorem CG.label {r : Option Nat} {l : Nat} (k : QG W0 n ds Q .normal e G) : CG r P W0 n ds (.label l) Q e G := fun a w ha hw => wpIn_label (k a w ha hw)
theorem QG.scope_normal (k : QG W0 n ds Q .normal e G) : QG W0 n ds (Exit.noGoto Q) .normal e G := fun a w ha hw => k a w ha hw
theorem QG.scope_ret (k : QG W0 n ds Q .ret e G) : QG W0 n ds (Exit.noGoto Q) .ret e G := fun a w ha hw => k a w ha hw
theorem QG.scope_exit {id : Nat} (k : QG W0 n ds Q (.exit id) e G) : QG W0 n ds (Exit.noGoto Q) (.exit id) e G := fun a w ha hw => k a w ha hw
theorem freeze_eq {w : World} {b k : Nat} {cs : Array Value} {t : TypeId} {fr : Nat × Nat} (h : w.heap[b]? = some (.cells cs t fr)) : w.freeze ⟨b, k, none⟩ 1 = setObjW w b (.cells cs t (if fr.1 == fr.2 then (k, k + 1) else (min fr.1 k, max fr.2 (k + 1)))) := by
  have hlt : b < w.heap.size := by
    rcases Nat.lt_or_ge b w.heap.size with h1 | h1
    · exact h1
    · rw [Array.getElem?_eq_none h1] at h; cases h
  unfold World.freeze setObjW
  rw [if_neg (by decide)]
  congr 1
  apply Array.ext_getElem?
  intro i
  simp only [Array.getElem?_modify, Array.getElem?_setIfInBounds]
  by_cases hi : b = i
  · subst hi
    rw [if_pos rfl, if_pos rfl, if_pos hlt, h]; rfl
  · rw [if_neg hi, if_neg hi]
/-- []byte of bytes: the same slice; the place behind its array is marked. -/
theorem Eff.convBytes {src el ty : TypeId} {x : Operand} {E sz b o m c : Nat} {xs : List Value} {put : HProp → List HProp} (hs : P.underlying src = some (.slice el)) (he : P.underlying el = some (.int .u8)) (hx : e.ev x = some (.slice (some ⟨b, o, none⟩) m c))
    (fc : Foc G (osl E sz (some ⟨b, o, none⟩) c m xs) put) : Eff P W0 (.convert src src x) ty e G (fun _ : Unit => True) (fun _ => .slice (some ⟨b, o, none⟩) m c) (fun _ => put (osl E sz (some ⟨b, o, none⟩) c m xs)) := fun ρ hρ w hw _ _ _ _ => by
  obtain ⟨R, hR⟩ := foc_ext fc
  obtain ⟨f, hf, q1, q2, q3⟩ := Sat.ext hR hw
  rcases q3 with ⟨q, _⟩ | ⟨b', o', cs, fr, q, hbk, hfr, ho, htk⟩
  · cases q
  · cases q
    have hwb : w.heap[b]? = some (Obj.cells cs.toArray E fr) := hf _ _ hbk
    have hrun : (convert src src (.slice (some ⟨b, o, none⟩) m c)).run P w = .ok (.slice (some ⟨b, o, none⟩) m c) (w.freeze ⟨b, cs.length, none⟩ 1) := by
      unfold convert
      show ((underlying src).bind _).run P w = _
      rw [run_bind_ok (run_underlying hs w)]
      show ((underlying src).bind _).run P w = _
      rw [run_bind_ok (run_underlying hs w)]
      simp only []
      show ((underlying el).bind _).run P w = _
      rw [run_bind_ok (run_underlying he w)]
      simp only [beq_self_eq_true]
      have hsh : w.shape? b = some (E, cs.length) := by unfold World.shape?; rw [hwb]; simp
      simp [markStringish, shape, freeze, Sem.run, bind, Sem.bind, pure, hsh]
    refine ⟨(), w.freeze ⟨b, cs.length, none⟩ 1, trivial, ?_, .inl ?_⟩
    · rw [freeze_eq hwb]
      refine Sat.write (b := b) (o := .cells cs.toArray E fr) fc hw hwb ?_
      intro f' hle' hf'
      obtain ⟨h1', _, h3'⟩ := hf'
      rcases h3' with ⟨h, _⟩ | ⟨b', o', cs', fr', hq, hbk', hfr', ho', htk'⟩
      · cases h
      · cases hq
        have hsame : some (Obj.cells cs'.toArray E fr') = some (Obj.cells cs.toArray E fr) := (hle' _ _ hbk').symm.trans hwb
        simp only [Option.some.injEq, Obj.cells.injEq] at hsame
        obtain ⟨p1, _, p3⟩ := hsame
        have p1 := List.toArray_inj p1
        subst p1 p3
        refine ⟨hbk', h1', q2, .inr ⟨b, o, cs', _, rfl, by simp [updH]; rfl, ?_, ho', htk'⟩⟩
        split
        · exact .inr (Nat.le_refl _)
        · rename_i hne
          refine .inr ?_
          rcases hfr' with hq | hq
          · exact absurd (by simpa using hq) hne
          · simp only; omega
    · show ((convert src src (ρ x)).bind _).run P w = _
      rw [hρ x _ hx, run_bind_ok hrun]; rfl
end
end Go.Sl
