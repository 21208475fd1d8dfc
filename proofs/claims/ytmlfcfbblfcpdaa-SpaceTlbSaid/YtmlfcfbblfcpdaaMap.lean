/- Maps: what lies at a map's block, and what making, asking, laying and deleting do. No program in sight. -/
import Derived.Test.YtmlfcfbblfcpdaaEq
namespace Go.Sl
open Go Go.RowKit
set_option linter.unusedSimpArgs false
set_option linter.unusedVariables false
set_option linter.unusedSectionVars false

section
variable {κ β : Type} [DecidableEq κ]
def midx (l : List (κ × β)) (k : κ) : Option Nat := l.findIdx? (fun p => decide (p.1 = k))
def mget (l : List (κ × β)) (k : κ) : Option β := (midx l k).bind fun i => (l[i]?).map (·.2)
def mset (l : List (κ × β)) (k : κ) (v : β) : List (κ × β) := match midx l k with | some i => l.set i (k, v) | none => l ++ [(k, v)]
def mdel (l : List (κ × β)) (k : κ) : List (κ × β) := match midx l k with | some i => l.eraseIdx i | none => l

theorem midx_cons (p : κ × β) (l : List (κ × β)) (k : κ) : midx (p :: l) k = if p.1 = k then some 0 else (midx l k).map (· + 1) := by
  unfold midx; rw [List.findIdx?_cons]
  by_cases h : p.1 = k <;> simp [h]
theorem mget_cons (p : κ × β) (l : List (κ × β)) (k : κ) : mget (p :: l) k = if p.1 = k then some p.2 else mget l k := by
  unfold mget; rw [midx_cons]
  by_cases h : p.1 = k
  · simp [h]
  · rw [if_neg h, if_neg h]
    cases midx l k <;> simp
theorem mset_cons (p : κ × β) (l : List (κ × β)) (k : κ) (v : β) : mset (p :: l) k v = if p.1 = k then (k, v) :: l else p :: mset l k v := by
  unfold mset; rw [midx_cons]
  by_cases h : p.1 = k
  · simp [h]
  · rw [if_neg h, if_neg h]
    cases midx l k <;> simp
theorem mdel_cons (p : κ × β) (l : List (κ × β)) (k : κ) : mdel (p :: l) k = if p.1 = k then l else p :: mdel l k := by
  unfold mdel; rw [midx_cons]
  by_cases h : p.1 = k
  · simp [h]
  · rw [if_neg h, if_neg h]
    cases midx l k <;> simp
theorem mget_nil (k : κ) : mget ([] : List (κ × β)) k = none := rfl
theorem mget_mset (l : List (κ × β)) (k k' : κ) (v : β) : mget (mset l k v) k' = if k = k' then some v else mget l k' := by
  induction l with
  | nil => show mget [(k, v)] k' = _; rw [mget_cons]
  | cons p l ih =>
    rw [mset_cons]
    by_cases h : p.1 = k
    · rw [if_pos h, mget_cons, mget_cons]
      by_cases h2 : k = k'
      · simp [h2]
      · rw [if_neg h2, if_neg h2, if_neg (by rw [h]; exact h2)]
    · rw [if_neg h, mget_cons, mget_cons, ih]
      by_cases h2 : k = k'
      · rw [if_pos h2, if_pos h2, if_neg (by rw [← h2]; exact h)]
      · rw [if_neg h2, if_neg h2]
theorem mget_none {l : List (κ × β)} {k : κ} : mget l k = none ↔ k ∉ l.map (·.1) := by
  induction l with
  | nil => simp [mget_nil]
  | cons p l ih =>
    rw [mget_cons, List.map_cons, List.mem_cons]
    by_cases h : p.1 = k
    · simp [h]
    · rw [if_neg h, ih]
      constructor
      · intro q r; rcases r with r | r
        · exact h r.symm
        · exact q r
      · intro q r; exact q (.inr r)
theorem mdel_keys (l : List (κ × β)) (k : κ) : ∀ x, x ∈ (mdel l k).map (·.1) → x ∈ l.map (·.1) := by
  induction l with
  | nil => intro x h; simp [mdel, midx] at h
  | cons p l ih =>
    intro x h
    rw [mdel_cons] at h
    by_cases hp : p.1 = k
    · rw [if_pos hp] at h; simp only [List.map_cons, List.mem_cons]; exact .inr h
    · rw [if_neg hp] at h
      simp only [List.map_cons, List.mem_cons] at h ⊢
      rcases h with h | h
      · exact .inl h
      · exact .inr (ih x h)
theorem mset_keys (l : List (κ × β)) (k : κ) (v : β) : ∀ x, x ∈ (mset l k v).map (·.1) ↔ (x = k ∨ x ∈ l.map (·.1)) := by
  induction l with
  | nil => intro x; show x ∈ [k] ↔ _; simp
  | cons p l ih =>
    intro x
    rw [mset_cons]
    by_cases hp : p.1 = k
    · rw [if_pos hp]; simp only [List.map_cons, List.mem_cons, hp]
      constructor
      · intro h; rcases h with h | h
        · exact .inl h
        · exact .inr (.inr h)
      · intro h; rcases h with h | h | h
        · exact .inl h
        · exact .inl h
        · exact .inr h
    · rw [if_neg hp]; simp only [List.map_cons, List.mem_cons, ih]
      constructor
      · intro h; rcases h with h | h | h
        · exact .inr (.inl h)
        · exact .inl h
        · exact .inr (.inr h)
      · intro h; rcases h with h | h | h
        · exact .inr (.inl h)
        · exact .inl h
        · exact .inr (.inr h)
theorem mset_nodup {l : List (κ × β)} (h : (l.map (·.1)).Nodup) (k : κ) (v : β) : ((mset l k v).map (·.1)).Nodup := by
  induction l with
  | nil => show [k].Nodup; simp
  | cons p l ih =>
    rw [List.map_cons, List.nodup_cons] at h
    rw [mset_cons]
    by_cases hp : p.1 = k
    · rw [if_pos hp, List.map_cons, List.nodup_cons]; rw [hp] at h; exact h
    · rw [if_neg hp, List.map_cons, List.nodup_cons]
      refine ⟨?_, ih h.2⟩
      rw [mset_keys]
      intro q; rcases q with q | q
      · exact hp q
      · exact h.1 q
theorem mdel_nodup {l : List (κ × β)} (h : (l.map (·.1)).Nodup) (k : κ) : ((mdel l k).map (·.1)).Nodup := by
  induction l with
  | nil => simp [mdel, midx]
  | cons p l ih =>
    rw [List.map_cons, List.nodup_cons] at h
    rw [mdel_cons]
    by_cases hp : p.1 = k
    · rw [if_pos hp]; exact h.2
    · rw [if_neg hp, List.map_cons, List.nodup_cons]
      exact ⟨fun q => h.1 (mdel_keys l k _ q), ih h.2⟩
theorem mget_mdel {l : List (κ × β)} (h : (l.map (·.1)).Nodup) (k k' : κ) : mget (mdel l k) k' = if k = k' then none else mget l k' := by
  induction l with
  | nil => simp [mdel, midx, mget_nil]
  | cons p l ih =>
    rw [List.map_cons, List.nodup_cons] at h
    rw [mdel_cons, mget_cons]
    by_cases hp : p.1 = k
    · rw [if_pos hp]
      by_cases hk : k = k'
      · rw [if_pos hk, mget_none, ← hk, ← hp]; exact h.1
      · rw [if_neg hk, if_neg (by rw [hp]; exact hk)]
    · rw [if_neg hp, mget_cons, ih h.2]
      by_cases hk : k = k'
      · rw [if_pos hk, if_pos hk, if_neg (by rw [← hk]; exact hp)]
      · rw [if_neg hk, if_neg hk]
theorem mset_length (l : List (κ × β)) (k : κ) (v : β) : (mset l k v).length = if (mget l k).isSome then l.length else l.length + 1 := by
  induction l with
  | nil => rfl
  | cons p l ih =>
    rw [mset_cons, mget_cons]
    by_cases hp : p.1 = k
    · simp [hp]
    · rw [if_neg hp, if_neg hp, List.length_cons, ih]
      split <;> simp
theorem mdel_length (l : List (κ × β)) (k : κ) : (mdel l k).length = if (mget l k).isSome then l.length - 1 else l.length := by
  induction l with
  | nil => rfl
  | cons p l ih =>
    rw [mdel_cons, mget_cons]
    by_cases hp : p.1 = k
    · simp [hp]
    · rw [if_neg hp, if_neg hp, List.length_cons, ih]
      cases l with
      | nil => simp [mget_nil]
      | cons q l => split <;> simp
/-- At block r lies a map with these keys and values. -/
def hmap (kf : κ → Value) (vf : β → Value) (r : Nat) (l : List (κ × β)) : HProp := fun h => (l.map (·.1)).Nodup ∧ ∃ es clock, h r = some (.map es clock) ∧ es.toList.map (fun e => (e.key, e.val)) = l.map (fun p => (kf p.1, vf p.2))
end

/-- Keys of the type kt, written by kf, may be asked for. -/
structure KeyOK (P : Program) (kt : TypeId) {κ : Type} [DecidableEq κ] (kf : κ → Value) : Prop where
  check : ∀ b k w, (Instr.checkKey b 10000 kt (kf k)).run P w = .ok () w
  find : ∀ (k : κ) (es : List MapEntry) (l : List κ), es.map (·.key) = l.map kf → ∀ w, (Instr.findKey kt (kf k) es).run P w = .ok ((l.findIdx? (fun x => decide (x = k))).bind fun i => (es[i]?).map fun e => (i, e.val)) w
  same : ∀ k, Instr.sameBits 10000 (kf k) (kf k) = true

section
variable {P : Program} {W0 : World} {e : Env} {G R : List HProp} {ty : TypeId}

theorem findNow_int {kd : IntKind} (n : Int) : ∀ (es : List MapEntry) (l : List Int) (i : Nat), es.map (·.key) = l.map (fun n => Value.int kd n) →
    Instr.findNow (.int kd) (.int kd n) es i = some ((l.findIdx? (fun x => decide (x = n))).bind fun j => (es[j]?).map fun e => (i + j, e.val))
  | [], [], i, _ => rfl
  | e :: es, x :: l, i, h => by
    simp only [List.map_cons, List.cons.injEq] at h
    obtain ⟨h1, h2⟩ := h
    unfold Instr.findNow
    rw [h1]
    simp only [Instr.sameNow, if_true]
    rw [List.findIdx?_cons]
    by_cases hx : x = n
    · subst hx; simp
    · have hb : (n == x) = false := by simpa using fun q => hx q.symm
      have hd : decide (x = n) = false := by simpa using hx
      simp only [hb, hd, if_neg (by decide : ¬ (false = true))]
      rw [findNow_int n es l (i + 1) h2]
      cases l.findIdx? (fun x => decide (x = n)) with
      | none => rfl
      | some j => simp; congr 1; funext e; congr 1; omega
  | [], _ :: _, _, h => by simp at h
  | _ :: _, [], _, h => by simp at h
theorem KeyOK.int {kt : TypeId} {kd : IntKind} (hu : P.underlying kt = some (.int kd)) : KeyOK P kt (fun n : Int => Value.int kd n) where
  check := fun b k w => by
    show (Instr.checkKey b (9999 + 1) kt (.int kd k)).run P w = _
    rw [Instr.checkKey]
    show ((underlying kt).bind _).run P w = _
    rw [run_bind_ok (run_underlying hu w)]
    rfl
  find := fun k es l h w => by
    unfold Instr.findKey
    show ((underlying kt).bind _).run P w = _
    rw [run_bind_ok (run_underlying hu w), findNow_int k es l 0 h]
    simp [pure, Sem.run]
  same := fun k => by simp [Instr.sameBits]
theorem sameBits_kind {n : Nat} {k : Option IntKind} {v : Value} (h : kindB k v = true) : Instr.sameBits n v v = true := by
  cases k <;> cases v <;> first | (cases h; done) | simp [Instr.sameBits]
theorem sameBits_fit : ∀ {ks : List (Option IntKind)} {xs : List Value}, fitK ks xs = true → ((xs.zip xs).all fun (x, y) => Instr.sameBits 9999 x y) = true
  | [], [], _ => rfl
  | k :: ks, x :: xs, h => by
    simp only [fitK, Bool.and_eq_true] at h
    have := sameBits_fit h.2
    simp only [List.zip_cons_cons, List.all_cons, sameBits_kind h.1, Bool.true_and]
    exact this
  | [], _ :: _, h => by cases h
  | _ :: _, [], h => by cases h
theorem findAsking_flat {κ : Type} [DecidableEq κ] {kc : κ → List Value} {d : Nat} {kt : TypeId} {ks : List (Option IntKind)} (hd : d ≤ 10000) (ht : flat? P d kt = some (ks, true)) (hx : ∀ k, fitK ks (kc k) = true) (hi : ∀ a b, eqCells (kc a) (kc b) = decide (b = a)) (k : κ) (w : World) :
    ∀ (es : List MapEntry) (l : List κ) (i : Nat), es.map (·.key) = l.map (fun k => Value.agg (kc k).toArray) →
    (Instr.findAsking kt (.agg (kc k).toArray) es i).run P w = .ok ((l.findIdx? (fun x => decide (x = k))).bind fun j => (es[j]?).map fun e => (i + j, e.val)) w
  | [], [], i, _ => rfl
  | e :: es, x :: l, i, h => by
    simp only [List.map_cons, List.cons.injEq] at h
    obtain ⟨h1, h2⟩ := h
    unfold Instr.findAsking
    show ((Op.equal kt _ e.key).bind _).run P w = _
    rw [h1, run_bind_ok (run_agg_equal hd ht (hx k) (hx x)), hi, List.findIdx?_cons]
    by_cases hxk : x = k
    · subst hxk; simp [pure, Sem.run]
    · have hdc : decide (x = k) = false := by simpa using hxk
      simp only [hdc, if_neg (by decide : ¬ (false = true))]
      have ih := findAsking_flat hd ht hx hi k w es l (i + 1) h2
      refine ih.trans ?_
      cases l.findIdx? (fun x => decide (x = k)) with
      | none => rfl
      | some j => simp; congr 1; funext e; congr 1; omega
  | [], _ :: _, _, h => by simp at h
  | _ :: _, [], _, h => by simp at h
/-- Structs whose cells are plain, as keys. -/
theorem KeyOK.flat {κ : Type} [DecidableEq κ] {kc : κ → List Value} {d : Nat} {kt : TypeId} {ks : List (Option IntKind)} {fs : Array Field} (hd : d ≤ 10000) (ht : flat? P d kt = some (ks, true)) (hu : P.underlying kt = some (.struct fs)) (hx : ∀ k, fitK ks (kc k) = true) (hi : ∀ a b, eqCells (kc a) (kc b) = decide (b = a))
    (hf0 : ∀ f ∈ fs.toList, ∃ kd by' z, P.underlying f.type = some (.int kd) ∧ TI P f.type 1 by' z false ∧ f.offset + 1 ≤ ks.length) : KeyOK P kt (fun k : κ => Value.agg (kc k).toArray) where
  check := fun b k w => by
    show (Instr.checkKey b (9999 + 1) kt (.agg (kc k).toArray)).run P w = _
    rw [Instr.checkKey]
    show ((underlying kt).bind _).run P w = _
    rw [run_bind_ok (run_underlying hu w)]
    simp only []
    have hlen := fitK_len (hx k)
    have hf : ∀ f ∈ fs.toList, ∃ kd i, P.underlying f.type = some (.int kd) ∧ P.info? f.type = some i ∧ i.size = 1 ∧ f.offset + 1 ≤ ks.length := fun f hm => by
      obtain ⟨kd, by', z, h1, h2, h3⟩ := hf0 f hm
      obtain ⟨i, h4, h5, _⟩ := h2.info
      exact ⟨kd, i, h1, h4, h5, h3⟩
    have key : ∀ (l : List Field), (∀ f ∈ l, ∃ kd i, P.underlying f.type = some (.int kd) ∧ P.info? f.type = some i ∧ i.size = 1 ∧ f.offset + 1 ≤ ks.length) →
        (forIn (m := Sem) l PUnit.unit fun f _ => if f.name ≠ "_" then (do Instr.checkKey b 9999 f.type (← part f.type (kc k).toArray f.offset); pure (ForInStep.yield PUnit.unit)) else pure (ForInStep.yield PUnit.unit)).run P w = .ok PUnit.unit w := by
      intro l
      induction l with
      | nil => intro _; rfl
      | cons f l ih =>
        intro hl
        obtain ⟨kd, i, q1, q2, q3, q4⟩ := hl f (by simp)
        rw [List.forIn_cons]
        have hp := run_part (P := P) (t := f.type) (off := f.offset) (m := 1) (ag := false) (xs := kc k) (w := w) ⟨i, q2, q3⟩ (by simp [isAgg, underlying, program, bind, Sem.bind, pure, q1, Sem.run]) (fun _ => rfl) (by omega)
        have hc : ∀ v, (Instr.checkKey b 9999 f.type v).run P w = .ok () w ∨ ∃ a, v = .agg a := by
          intro v
          by_cases hv : ∃ a, v = .agg a
          · exact .inr hv
          · refine .inl ?_
            show (Instr.checkKey b (9998 + 1) f.type v).run P w = _
            rw [Instr.checkKey]
            show ((underlying f.type).bind _).run P w = _
            rw [run_bind_ok (run_underlying q1 w)]
            cases v <;> first | rfl | (exact absurd ⟨_, rfl⟩ hv)
        have hstep : (if f.name ≠ "_" then (do Instr.checkKey b 9999 f.type (← part f.type (kc k).toArray f.offset); pure (ForInStep.yield PUnit.unit)) else (pure (ForInStep.yield PUnit.unit) : Sem (ForInStep PUnit))).run P w = .ok (ForInStep.yield PUnit.unit) w := by
          split
          · show ((part f.type (kc k).toArray f.offset).bind _).run P w = _
            rw [run_bind_ok hp]
            have hna : ¬ ∃ a, valOf false ((kc k).drop f.offset |>.take 1) = .agg a := by
              rintro ⟨a, ha⟩
              have hlt : f.offset < (kc k).length := by omega
              have e1 : ((kc k).drop f.offset).take 1 = [(kc k)[f.offset]] := by rw [List.drop_eq_getElem_cons hlt]; rfl
              rw [e1] at ha
              have hk : ∃ kk, kindB kk (kc k)[f.offset] = true := by
                have hfit := hx k
                clear hc hp ha e1 ih hl q4
                generalize kc k = xs at *
                generalize f.offset = o at *
                clear hu hx hi hf hf0 q1 q2 q3 ht hlen
                induction xs generalizing ks o with
                | nil => simp at hlt
                | cons x xs ih2 =>
                  cases ks with
                  | nil => cases hfit
                  | cons kk ks =>
                    simp only [fitK, Bool.and_eq_true] at hfit
                    cases o with
                    | zero => exact ⟨kk, hfit.1⟩
                    | succ o => exact ih2 hfit.2 o (by simpa using hlt)
              obtain ⟨kk, hk⟩ := hk
              have ha2 : (kc k)[f.offset] = .agg a := ha
              rw [ha2] at hk
              cases kk <;> cases hk
            rcases hc (valOf false ((kc k).drop f.offset |>.take 1)) with h | h
            · show ((Instr.checkKey b 9999 f.type _).bind _).run P w = _
              rw [run_bind_ok h]; rfl
            · exact absurd h hna
          · rfl
        show ((if f.name ≠ "_" then _ else _ : Sem (ForInStep PUnit)).bind _).run P w = _
        rw [run_bind_ok hstep]
        exact ih fun f hf => hl f (by simp [hf])
    have := key fs.toList hf
    rw [← Array.forIn_toList]
    show ((forIn (m := Sem) fs.toList PUnit.unit _).bind _).run P w = _
    rw [run_bind_ok this]; rfl
  find := fun k es l h w => by
    unfold Instr.findKey
    show ((underlying kt).bind _).run P w = _
    rw [run_bind_ok (run_underlying hu w)]
    have := findAsking_flat hd ht hx hi k w es l 0 h
    simp only [Nat.zero_add] at this
    cases es with
    | nil =>
      cases l with
      | nil => rfl
      | cons => simp at h
    | cons e es => exact this
  same := fun k => by
    show Instr.sameBits (9999 + 1) _ _ = true
    have := sameBits_fit (hx k)
    simp only [Instr.sameBits, beq_self_eq_true, Bool.true_and]
    exact this

section
variable {κ β : Type} [DecidableEq κ] {kf : κ → Value} {vf : β → Value} {l : List (κ × β)} {r : Nat}
theorem hmap_get (x : Ext G (hmap kf vf r l) R) {w : World} (hw : Sat W0 G w) : (l.map (·.1)).Nodup ∧ ∃ es clock, w.heap[r]? = some (.map es clock) ∧ es.toList.map (fun e => (e.key, e.val)) = l.map (fun p => (kf p.1, vf p.2)) := by
  obtain ⟨f, hf, hn, es, clock, h1, h2⟩ := Sat.ext x hw
  exact ⟨hn, es, clock, hf _ _ h1, h2⟩
theorem ent_keys {es : List MapEntry} {l : List (κ × β)} (h : es.map (fun e => (e.key, e.val)) = l.map (fun p => (kf p.1, vf p.2))) : es.map (·.key) = (l.map (·.1)).map kf := by
  have := congrArg (List.map (·.1)) h
  simpa [List.map_map, Function.comp_def] using this
theorem ent_get {es : List MapEntry} {l : List (κ × β)} (h : es.map (fun e => (e.key, e.val)) = l.map (fun p => (kf p.1, vf p.2))) (i : Nat) : (es[i]?).map (fun e => (e.key, e.val)) = (l[i]?).map (fun p => (kf p.1, vf p.2)) := by
  have := congrArg (fun x => x[i]?) h
  simpa using this
theorem midx_eq (l : List (κ × β)) (k : κ) : (l.map (·.1)).findIdx? (fun x => decide (x = k)) = midx l k := by
  unfold midx; rw [List.findIdx?_map]; rfl
theorem midx_lt {l : List (κ × β)} {k : κ} {i : Nat} (h : midx l k = some i) : i < l.length := (List.findIdx?_eq_some_iff_getElem.1 h).1
theorem run_find {kt : TypeId} (hk : KeyOK P kt kf) {es : List MapEntry} (h : es.map (fun e => (e.key, e.val)) = l.map (fun p => (kf p.1, vf p.2))) (k : κ) (w : World) :
    (Instr.findKey kt (kf k) es).run P w = .ok ((midx l k).bind fun i => (l[i]?).map fun p => (i, vf p.2)) w := by
  have h1 := hk.find k es (l.map (·.1)) (ent_keys h) w
  rw [midx_eq] at h1
  rw [h1]
  congr 1
  cases midx l k with
  | none => rfl
  | some i =>
    have := ent_get h i
    simp only [Option.bind_some]
    cases h2 : es[i]? with
    | none => rw [h2] at this; cases h3 : l[i]? with
      | none => rfl
      | some p => rw [h3] at this; cases this
    | some e => rw [h2] at this; cases h3 : l[i]? with
      | none => rw [h3] at this; cases this
      | some p =>
        rw [h3] at this
        simp only [Option.map_some, Option.some.injEq, Prod.mk.injEq] at this
        simp [this.2]
theorem Eff.makeMap {t : TypeId} (kf : κ → Value) (vf : β → Value) : Eff P W0 (.makeMap t none) ty e G (fun _ : Nat => True) (fun r => .map (some r)) (fun r => hmap kf vf r [] :: G) := fun ρ hρ w hw _ _ _ _ => by
  refine ⟨w.heap.size, { w with heap := w.heap.push (.map #[] 0) }, trivial, (Sat.new hw (.map #[] 0)).imp (Imp.head fun f hf => ⟨by simp, #[], 0, hf, rfl⟩), .inl ?_⟩
  show ((Instr.makeMap t ((none : Option Operand).map ρ)).bind _).run P w = _
  rfl
theorem run_lookup {t kt el : TypeId} {sz by' : Nat} {z : Value} {ag ok : Bool} (hu : P.underlying t = some (.map kt el)) (ht : TI P el sz by' z ag) (hk : KeyOK P kt kf) (k : κ) (x : Ext G (hmap kf vf r l) R) {w : World} (hw : Sat W0 G w) :
    (Instr.lookup t (.map (some r)) (kf k) ok).run P w = .ok (bif ok then .tuple #[((mget l k).map vf).getD z, .bool (mget l k).isSome] else ((mget l k).map vf).getD z) w := by
  obtain ⟨hn, es, clock, h1, h2⟩ := hmap_get x hw
  unfold Instr.lookup
  show ((underlying t).bind _).run P w = _
  rw [run_bind_ok (run_underlying hu w)]
  simp only []
  show ((getObj r).bind _).run P w = _
  rw [run_bind_ok (show (getObj r).run P w = .ok (.map es clock) w by simp [getObj, Sem.run, h1])]
  simp only []
  show ((Instr.checkKey es.isEmpty 10000 kt (kf k)).bind _).run P w = _
  rw [run_bind_ok (hk.check _ k w)]
  show ((Instr.findKey kt (kf k) es.toList).bind _).run P w = _
  rw [run_bind_ok (run_find hk h2 k w)]
  unfold mget
  cases hm : midx l k with
  | none =>
    simp only [Option.bind_none]
    show ((zeroValue el).bind _).run P w = _
    rw [run_bind_ok (ht.run_zero w)]
    cases ok <;> rfl
  | some i =>
    have hi := midx_lt hm
    simp only [Option.bind_some, List.getElem?_eq_getElem hi, Option.map_some]
    cases ok <;> rfl
theorem Yield.lookup {t kt el : TypeId} {x' ix : Operand} {sz by' : Nat} {z : Value} {ag ok : Bool} (kf : κ → Value) (vf : β → Value) (hu : P.underlying t = some (.map kt el)) (ht : TI P el sz by' z ag) (hk : KeyOK P kt kf) (k : κ) (hx : e.ev x' = some (.map (some r))) (hi : e.ev ix = some (kf k)) (x : Ext G (hmap kf vf r l) R) :
    Yield P W0 (.lookup t x' ix ok) ty e G (bif ok then .tuple #[((mget l k).map vf).getD z, .bool (mget l k).isSome] else ((mget l k).map vf).getD z) := fun ρ hρ w hw _ _ _ _ => by
  show ((Instr.lookup t (ρ x') (ρ ix) ok).bind _).run P w = _
  rw [hρ x' _ hx, hρ ix _ hi, run_bind_ok (run_lookup hu ht hk k x hw)]; rfl
theorem hmap_upd {f : Heaplet} {es : Array MapEntry} {clock : Nat} (hn : (l.map (·.1)).Nodup) (h : es.toList.map (fun e => (e.key, e.val)) = l.map (fun p => (kf p.1, vf p.2))) : hmap kf vf r l (updH f r (.map es clock)) :=
  ⟨hn, es, clock, by simp [updH], h⟩
theorem map_write {put : HProp → List HProp} (fc : Foc G (hmap kf vf r l) put) {w : World} (hw : Sat W0 G w) {es : Array MapEntry} {clock : Nat} (h1 : w.heap[r]? = some (.map es clock)) {l' : List (κ × β)} {es' : Array MapEntry} {clock' : Nat} (hn : (l'.map (·.1)).Nodup)
    (h : es'.toList.map (fun e => (e.key, e.val)) = l'.map (fun p => (kf p.1, vf p.2))) : Sat W0 (put (hmap kf vf r l')) (setObjW w r (.map es' clock')) := by
  refine Sat.write (b := r) (o := .map es clock) fc hw h1 ?_
  rintro f hf ⟨_, es2, c2, h3, _⟩
  have : some (Obj.map es2 c2) = some (Obj.map es clock) := (hf _ _ h3).symm.trans h1
  exact ⟨by rw [h3, this], hmap_upd hn h⟩
theorem run_setObj {w : World} {es : Array MapEntry} {clock : Nat} {o' : Obj} (h : w.heap[r]? = some (.map es clock)) : (setObj r o').run P w = .ok () (setObjW w r o') := by
  simp [setObj, Sem.run, h, setObjW]
/-- What mapUpdate does behind the search. -/
def updK (kf : κ → Value) (vf : β → Value) (r : Nat) (k : κ) (v : β) (es : Array MapEntry) (clock : Nat) : Option (Nat × Value) → Sem Unit
  | some (i, _) => (Instr.keyThatStays (((es[i]?).map (·.key)).getD (kf k)) (kf k)).bind fun key => setObj r (.map (es.modify i fun e => { e with key, val := vf v }) clock)
  | none => setObj r (.map (es.push { key := kf k, val := vf v, born := clock }) (clock + 1))
def delK (r : Nat) (es : Array MapEntry) (clock : Nat) : Option (Nat × Value) → Sem Unit
  | some (i, _) => setObj r (.map (es.eraseIdxIfInBounds i) clock)
  | none => setObj r (.map es clock)
theorem Eff.mapUpdate {t kt el : TypeId} {m ix y : Operand} {put : HProp → List HProp} (kf : κ → Value) (vf : β → Value) (hu : P.underlying t = some (.map kt el)) (hk : KeyOK P kt kf) (k : κ) (v : β) (hx : e.ev m = some (.map (some r))) (hi : e.ev ix = some (kf k)) (hy : e.ev y = some (vf v))
    (fc : Foc G (hmap kf vf r l) put) : Eff P W0 (.mapUpdate t m ix y) ty e G (fun _ : Unit => True) (fun _ => undef) (fun _ => put (hmap kf vf r (mset l k v))) := fun ρ hρ w hw _ _ _ _ => by
  obtain ⟨R, hR⟩ := foc_ext fc
  obtain ⟨hn, es, clock, h1, h2⟩ := hmap_get hR hw
  have hgo : (Instr.mapUpdate t (.map (some r)) (kf k) (vf v)).run P w =
      (updK kf vf r k v es clock ((midx l k).bind fun i => (l[i]?).map fun p => (i, vf p.2))).run P w := by
    unfold Instr.mapUpdate
    show ((underlying t).bind _).run P w = _
    rw [run_bind_ok (run_underlying hu w)]
    simp only []
    show ((getObj r).bind _).run P w = _
    rw [run_bind_ok (show (getObj r).run P w = .ok (.map es clock) w by simp [getObj, Sem.run, h1])]
    simp only []
    show ((Instr.checkKey false 10000 kt (kf k)).bind _).run P w = _
    rw [run_bind_ok (hk.check _ k w)]
    show ((Instr.findKey kt (kf k) es.toList).bind _).run P w = _
    rw [run_bind_ok (run_find hk h2 k w)]
    cases (midx l k).bind fun i => (l[i]?).map fun p => (i, vf p.2) with
    | none => rfl
    | some q => rfl
  have hset : ∀ o', (setObj r o').run P w = .ok () (setObjW w r o') := fun o' => run_setObj h1
  have hfin : ∀ o', (Instr.mapUpdate t (.map (some r)) (kf k) (vf v)).run P w = .ok () (setObjW w r o') → ∀ dst pos after guard, ((execOp ρ ⟨dst, .mapUpdate t m ix y, ty, pos, after, guard⟩).run P w = .ok .skip (setObjW w r o')) := fun o' h dst pos after guard => by
    show ((Instr.mapUpdate t (ρ m) (ρ ix) (ρ y)).bind _).run P w = _
    rw [hρ m _ hx, hρ ix _ hi, hρ y _ hy, run_bind_ok h]; rfl
  unfold mset
  cases hm : midx l k with
  | none =>
    rw [hm] at hgo
    have hgo := hgo.trans (hset _)
    refine ⟨(), _, trivial, map_write fc hw h1 ?_ ?_, .inr ⟨hfin _ hgo _ _ _ _, rfl⟩⟩
    · have := mset_nodup hn k v; unfold mset at this; rw [hm] at this; exact this
    · simp only [Array.toList_push, List.map_append, h2]; rfl
  | some i =>
    have hil := midx_lt hm
    have hp : l[i].1 = k := by simpa using (List.findIdx?_eq_some_iff_getElem.1 hm).2.1
    have hlen : es.toList.length = l.length := by have := congrArg List.length h2; simpa using this
    have hil2 : i < es.size := by rw [← Array.length_toList]; omega
    have hkey : es[i].key = kf k := by
      have := ent_get h2 i
      rw [List.getElem?_eq_getElem hil, List.getElem?_eq_getElem (by omega)] at this
      simp only [Option.map_some, Option.some.injEq, Prod.mk.injEq] at this
      rw [← hp]; simpa using this.1
    rw [hm] at hgo
    simp only [Option.bind_some, List.getElem?_eq_getElem hil, Option.map_some, updK, Array.getElem?_eq_getElem hil2, Option.getD_some, hkey] at hgo
    rw [show Instr.keyThatStays (kf k) (kf k) = pure (kf k) by unfold Instr.keyThatStays; rw [if_pos (hk.same k)]] at hgo
    have hgo := hgo.trans (hset (.map (es.modify i fun e => { e with key := kf k, val := vf v }) clock))
    refine ⟨(), _, trivial, map_write fc hw h1 ?_ ?_, .inr ⟨hfin _ hgo _ _ _ _, rfl⟩⟩
    · have := mset_nodup hn k v; unfold mset at this; rw [hm] at this; exact this
    · apply List.ext_getElem?
      intro j
      have hj := ent_get h2 j
      simp only [List.getElem?_map, Array.getElem?_toList, Array.getElem?_modify, List.getElem?_set]
      rw [Array.getElem?_toList] at hj
      by_cases hij : i = j
      · subst hij
        rw [if_pos rfl, if_pos rfl, if_pos hil]
        rw [Array.getElem?_eq_getElem hil2]; rfl
      · rw [if_neg hij, if_neg hij]; exact hj
theorem eraseIdx_map' {α γ : Type} (f : α → γ) : ∀ (l : List α) (i : Nat), (l.map f).eraseIdx i = (l.eraseIdx i).map f
  | [], i => by simp
  | x :: l, 0 => rfl
  | x :: l, i + 1 => by simp [eraseIdx_map' f l i]
theorem Eff.mapDelete {t kt el : TypeId} {m ix : Operand} {put : HProp → List HProp} {ats : Array TypeId} {t2 : TypeId} (kf : κ → Value) (vf : β → Value) (hats : ats = #[t, t2]) (hu : P.underlying t = some (.map kt el)) (hk : KeyOK P kt kf) (k : κ) (hx : e.ev m = some (.map (some r))) (hi : e.ev ix = some (kf k))
    (fc : Foc G (hmap kf vf r l) put) : Eff P W0 (.call { callee := .builtin .delete, args := #[m, ix], argTypes := ats }) ty e G (fun _ : Unit => True) (fun _ => .tuple #[]) (fun _ => put (hmap kf vf r (mdel l k))) := fun ρ hρ w hw _ _ _ _ => by
  subst hats
  obtain ⟨R, hR⟩ := foc_ext fc
  obtain ⟨hn, es, clock, h1, h2⟩ := hmap_get hR hw
  have hevs : e.evs [m, ix] = some [.map (some r), kf k] := by simp only [Env.evs, hx, hi]
  have hgo : (Builtin.delete_ #[t, t2] ty #[.map (some r), kf k]).run P w =
      ((delK r es clock ((midx l k).bind fun i => (l[i]?).map fun p => (i, vf p.2))).bind fun _ => Sem.pure (.tuple #[])).run P w := by
    unfold Builtin.delete_
    simp only [List.getElem?_toArray, List.getElem?_cons_zero, List.getElem?_cons_succ]
    show ((underlying t).bind _).run P w = _
    rw [run_bind_ok (run_underlying hu w)]
    simp only []
    show ((getObj r).bind _).run P w = _
    rw [run_bind_ok (show (getObj r).run P w = .ok (.map es clock) w by simp [getObj, Sem.run, h1])]
    simp only []
    show ((Instr.checkKey es.isEmpty 10000 kt (kf k)).bind _).run P w = _
    rw [run_bind_ok (hk.check _ k w)]
    show ((Instr.findKey kt (kf k) es.toList).bind _).run P w = _
    rw [run_bind_ok (run_find hk h2 k w)]
    cases (midx l k).bind fun i => (l[i]?).map fun p => (i, vf p.2) with
    | none => rfl
    | some q => rfl
  have hset : ∀ o', (setObj r o').run P w = .ok () (setObjW w r o') := fun o' => run_setObj h1
  unfold mdel
  cases hm : midx l k with
  | none =>
    rw [hm] at hgo
    simp only [Option.bind_none, delK] at hgo
    rw [run_bind_ok (hset _)] at hgo
    exact ⟨(), _, trivial, map_write fc hw h1 hn h2, .inl (run_built (s := Builtin.delete_ #[t, t2] ty #[.map (some r), kf k]) hρ hevs (fun _ => rfl) hgo)⟩
  | some i =>
    have hil := midx_lt hm
    have hlen : es.toList.length = l.length := by have := congrArg List.length h2; simpa using this
    have hil2 : i < es.size := by rw [← Array.length_toList]; omega
    rw [hm] at hgo
    simp only [Option.bind_some, List.getElem?_eq_getElem hil, Option.map_some, delK] at hgo
    rw [run_bind_ok (hset _)] at hgo
    refine ⟨(), _, trivial, map_write fc hw h1 ?_ ?_, .inl (run_built (s := Builtin.delete_ #[t, t2] ty #[.map (some r), kf k]) hρ hevs (fun _ => rfl) hgo)⟩
    · have := mdel_nodup hn k; unfold mdel at this; rw [hm] at this; exact this
    · rw [Array.eraseIdxIfInBounds, dif_pos hil2, Array.toList_eraseIdx, ← eraseIdx_map', h2, eraseIdx_map']
theorem Yield.len_map {x' : Operand} {t kt el : TypeId} {ats : Array TypeId} (hu : P.underlying t = some (.map kt el)) (hx : e.ev x' = some (.map (some r))) (ht : ats = #[t]) (x : Ext G (hmap kf vf r l) R) :
    Yield P W0 (.call { callee := .builtin .len, args := #[x'], argTypes := ats }) ty e G (.int .i64 l.length) := fun ρ hρ w hw _ _ _ _ => by
  subst ht
  obtain ⟨hn, es, clock, h1, h2⟩ := hmap_get x hw
  have hlen : es.size = l.length := by have := congrArg List.length h2; simpa using this
  refine run_builtin (args := [x']) (vs := [.map (some r)]) hρ (by simp only [Env.evs, hx]) ?_
  have hl : (Builtin.len_ #[t] ty #[.map (some r)]).run P w = .ok (.int .i64 l.length) w := by
    unfold Builtin.len_
    simp only [List.getElem?_toArray, List.getElem?_cons_zero]
    show ((underlying t).bind _).run P w = _
    rw [run_bind_ok (run_underlying hu w)]
    simp only []
    show ((getObj r).bind _).run P w = _
    rw [run_bind_ok (show (getObj r).run P w = .ok (.map es clock) w by simp [getObj, Sem.run, h1])]
    simp only [hlen]; rfl
  show ((Builtin.len_ #[t] ty #[.map (some r)]).bind _).run P w = _
  rw [run_bind_ok hl]; rfl
end
end
end Go.Sl
