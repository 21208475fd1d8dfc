/- frames.Frames as the list of the frames' owners and the quotas: what each function does. -/
import Derived.Test.YtmlfcfbblfcpdaaTab
import Derived.Test.YtmlfcfbblfcpdaaArr
namespace Go.Proofs.Ytmlfcfbblfcpdaa.Fz
open Go Go.Sl Go.RowKit Go.Proofs Go.Proofs.Ytmlfcfbblfcpdaa.T
set_option linter.unusedVariables false
set_option linter.unusedSimpArgs false
set_option maxRecDepth 100000
/-- Numbers as cells. -/
def iv (l : List Int) : List Value := l.map (Value.int .i64)
theorem iv_len (l : List Int) : (iv l).length = l.length := by simp [iv]
theorem iv_get {l : List Int} {i : Nat} {x : Int} (h : l[i]? = some x) : (iv l)[i]? = some (.int .i64 x) := by simp [iv, h]
theorem iv_ones (l : List Int) : ∀ v ∈ iv l, one v = true := by intro v hv; simp only [iv, List.mem_map] at hv; obtain ⟨x, _, rfl⟩ := hv; rfl
theorem iv_append (a b : List Int) : iv (a ++ b) = iv a ++ iv b := by simp [iv]
theorem iv_set (l : List Int) (i : Nat) (x : Int) : (iv l).set i (.int .i64 x) = iv (l.set i x) := by simp [iv, List.map_set]
theorem flat_ints (l : List Int) : (l.map (intC .i64)).flatten = iv l := by
  induction l with
  | nil => rfl
  | cons x l ih => simp only [List.map_cons, List.flatten_cons, ih]; rfl
abbrev oiv (a : Option Addr) (c : Nat) (xs : List Int) : HProp := osl 3 1 a c xs.length (iv xs)
/-- How many frames somebody owns. -/
def cnt (own : List Int) (p : Int) : Nat := own.count p
/-- What New says to a number of frames and quotas. -/
def nerr (total : Int) (qs : List Int) : Int := if total < 1 ∨ 1024 < total then 2 else if 8 < qs.length then 9 else if ∃ q ∈ qs, q < 0 ∨ 1024 < q then 2 else if total < qs.sum then 141 else 0
/-- The frames are owned as they may be. -/
structure Inv (own qs : List Int) : Prop where
  tot : 1 ≤ own.length ∧ own.length ≤ 1024
  ql : qs.length ≤ 8
  who : ∀ x ∈ own, x = -1 ∨ (0 ≤ x ∧ x < qs.length)
  few : ∀ (k : Nat) (q : Int), qs[k]? = some q → (cnt own k : Int) ≤ q
  sum : qs.sum ≤ own.length
theorem cnt_le (own : List Int) (p : Int) : cnt own p ≤ own.length := List.count_le_length
theorem cnt_pos {own : List Int} {p : Int} {i : Nat} (h : own[i]? = some p) : 0 < cnt own p := List.count_pos_iff.2 (List.mem_of_getElem? h)
theorem cnt_take {own : List Int} {p x : Int} {i : Nat} (h : own[i]? = some x) : cnt (own.take (i + 1)) p = cnt (own.take i) p + if x = p then 1 else 0 := by
  obtain ⟨hi, rfl⟩ := List.getElem?_eq_some_iff.1 h
  unfold cnt
  rw [List.take_succ_eq_append_getElem hi, List.count_append, List.count_singleton]
  by_cases hx : own[i] = p <;> simp [hx]
theorem cnt_set {own : List Int} {i : Nat} {x y p : Int} (h : own[i]? = some x) : cnt (own.set i y) p = cnt own p - (if x = p then 1 else 0) + if y = p then 1 else 0 := by
  obtain ⟨hi, rfl⟩ := List.getElem?_eq_some_iff.1 h
  unfold cnt
  rw [List.count_set hi]
  simp only [beq_iff_eq]
/-- How many are owned by somebody below m. -/
theorem below_sum (own qs : List Int) (hf : ∀ (k : Nat) (q : Int), qs[k]? = some q → (cnt own k : Int) ≤ q) : ∀ m, m ≤ qs.length → ((own.countP fun x => decide (0 ≤ x ∧ x < (m : Int)) : Nat) : Int) ≤ (qs.take m).sum ∧
    ∀ (p : Nat) (q : Int), p < m → qs[p]? = some q → (cnt own p : Int) < q → ((own.countP fun x => decide (0 ≤ x ∧ x < (m : Int)) : Nat) : Int) < (qs.take m).sum
  | 0, _ => by
    have : own.countP (fun x => decide (0 ≤ x ∧ x < ((0 : Nat) : Int))) = 0 := by rw [List.countP_eq_zero]; intro x _; simp only [decide_eq_true_eq]; omega
    rw [this]; exact ⟨by simp, fun p q h => absurd h (Nat.not_lt_zero _)⟩
  | m + 1, hm => by
    obtain ⟨ih1, ih2⟩ := below_sum own qs hf m (by omega)
    have hget : qs[m]? = some qs[m] := by simp [show m < qs.length by omega]
    have e : own.countP (fun x => decide (0 ≤ x ∧ x < ((m + 1 : Nat) : Int))) = own.countP (fun x => decide (0 ≤ x ∧ x < (m : Int))) + cnt own m := by
      clear ih1 ih2 hf
      unfold cnt
      induction own with
      | nil => rfl
      | cons x l ih =>
        rw [List.countP_cons, List.countP_cons, List.count_cons, ih]
        by_cases h1 : 0 ≤ x ∧ x < (m : Int)
        · rw [if_pos (by simp; omega), if_pos (by simp; omega), if_neg (by simp; omega)]; omega
        · by_cases h2 : x = (m : Int)
          · rw [if_pos (by simp; omega), if_neg (by simp; omega), if_pos (by simp; omega)]; omega
          · rw [if_neg (by simp; omega), if_neg (by simp; omega), if_neg (by simp; omega)]; omega
    have es : (qs.take (m + 1)).sum = (qs.take m).sum + qs[m] := by rw [List.take_succ_eq_append_getElem (by omega), List.sum_append]; simp
    have hq := hf m _ hget
    rw [e, es]
    refine ⟨by omega, fun p q hp hpq hc => ?_⟩
    rcases Nat.lt_or_ge p m with h | h
    · have := ih2 p q h hpq hc; omega
    · have : p = m := by omega
      subst this
      rw [hget] at hpq
      have := Option.some.inj hpq
      omega
/-- Who may have more finds a free frame. -/
theorem free_frame {own qs : List Int} (h : Inv own qs) {p : Nat} {q : Int} (hp : qs[p]? = some q) (hc : (cnt own p : Int) < q) : ∃ n, own.findIdx? (fun x => decide (x = -1)) = some n ∧ own[n]? = some (-1) := by
  have hpl := (List.getElem?_eq_some_iff.1 hp).1
  have hb := (below_sum own qs h.few qs.length (Nat.le_refl _)).2 p q hpl hp hc
  rw [List.take_length] at hb
  cases hf : own.findIdx? (fun x => decide (x = -1)) with
  | some n =>
    obtain ⟨h1, h2, _⟩ := List.findIdx?_eq_some_iff_getElem.1 hf
    exact ⟨n, rfl, by simp only [decide_eq_true_eq] at h2; simp [h1, h2]⟩
  | none =>
    exfalso
    have hall : own.countP (fun x => decide (0 ≤ x ∧ x < (qs.length : Int))) = own.length := by
      rw [List.countP_eq_length]
      intro x hx
      have h1 := List.findIdx?_eq_none_iff.1 hf x hx
      have h2 := h.who x hx
      simp only [decide_eq_false_iff_not] at h1
      simp only [decide_eq_true_eq]
      rcases h2 with h2 | h2
      · exact absurd h2 h1
      · exact h2
    rw [hall] at hb
    have := h.sum
    omega
theorem inv_take {own qs : List Int} (h : Inv own qs) {p n : Nat} {q : Int} (hp : qs[p]? = some q) (hc : (cnt own p : Int) < q) (hn : own[n]? = some (-1)) : Inv (own.set n p) qs := by
  have hpl := (List.getElem?_eq_some_iff.1 hp).1
  refine ⟨by rw [List.length_set]; exact h.tot, h.ql, fun x hx => ?_, fun k r hk => ?_, by rw [List.length_set]; exact h.sum⟩
  · rcases List.mem_or_eq_of_mem_set hx with hx | rfl
    · exact h.who x hx
    · exact .inr ⟨by omega, by omega⟩
  · rw [cnt_set hn, if_neg (by omega), Nat.sub_zero]
    have := h.few k r hk
    by_cases hkp : (p : Int) = (k : Int)
    · have : p = k := by omega
      subst this
      rw [hp] at hk; have := Option.some.inj hk
      rw [if_pos rfl]; omega
    · rw [if_neg hkp]; omega
theorem inv_give {own qs : List Int} (h : Inv own qs) {n : Nat} {x : Int} (hn : own[n]? = some x) : Inv (own.set n (-1)) qs := by
  refine ⟨by rw [List.length_set]; exact h.tot, h.ql, fun y hy => ?_, fun k r hk => ?_, by rw [List.length_set]; exact h.sum⟩
  · rcases List.mem_or_eq_of_mem_set hy with hy | rfl
    · exact h.who y hy
    · exact .inl rfl
  · rw [cnt_set hn, if_neg (show ¬ (-1 : Int) = (k : Int) by omega)]
    have := h.few k r hk
    have : cnt own k - (if x = (k : Int) then 1 else 0) ≤ cnt own k := Nat.sub_le _ _
    omega
theorem inv_new {total : Nat} {qs : List Int} (h : nerr total qs = 0) : Inv (List.replicate total (-1)) qs := by
  unfold nerr at h
  split at h
  · cases h
  · split at h
    · cases h
    · split at h
      · cases h
      · split at h
        · cases h
        · rename_i h1 h2 h3 h4
          refine ⟨by rw [List.length_replicate]; omega, by omega, fun x hx => .inl (List.eq_of_mem_replicate hx), fun k q hk => ?_, by rw [List.length_replicate]; omega⟩
          have : cnt (List.replicate total (-1)) k = 0 := by
            unfold cnt; rw [List.count_eq_zero]; intro hm; have := List.eq_of_mem_replicate hm; omega
          rw [this]
          have hm := List.mem_of_getElem? hk
          rcases Int.lt_or_le q 0 with h5 | h5
          · exact absurd ⟨q, hm, .inl h5⟩ h3
          · exact h5
theorem nerr_ok {total : Int} {qs : List Int} (h : nerr total qs = 0) : (1 ≤ total ∧ total ≤ 1024) ∧ qs.length ≤ 8 ∧ (∀ q ∈ qs, 0 ≤ q ∧ q ≤ 1024) ∧ qs.sum ≤ total := by
  unfold nerr at h
  split at h
  · cases h
  · split at h
    · cases h
    · split at h
      · cases h
      · split at h
        · cases h
        · rename_i h1 h2 h3 h4
          refine ⟨by omega, by omega, fun q hq => ?_, by omega⟩
          by_cases h5 : q < 0 ∨ 1024 < q
          · exact absurd ⟨q, hq, h5⟩ h3
          · omega
theorem sum_bound (qs : List Int) (h : ∀ q ∈ qs, 0 ≤ q ∧ q ≤ 1024) : 0 ≤ qs.sum ∧ qs.sum ≤ 1024 * qs.length := by
  induction qs with
  | nil => simp
  | cons q qs ih =>
    have h1 := h q (by simp)
    have h2 := ih fun x hx => h x (by simp [hx])
    rw [List.sum_cons, List.length_cons]; omega
abbrev PA := Option Addr × Nat
/-- The owners, and that the frames behind the last one are nobody's. -/
def owC (own : List Int) : List Value := iv (own ++ List.replicate (1024 - own.length) (-1))
theorem owC_len {own : List Int} (h : own.length ≤ 1024) : (owC own).length = 1024 := by unfold owC; rw [iv_len]; simp; omega
theorem owC_get {own : List Int} {i : Nat} {x : Int} (h : own[i]? = some x) : (owC own)[i]? = some (.int .i64 x) := by
  unfold owC; exact iv_get (by rw [List.getElem?_append_left (List.getElem?_eq_some_iff.1 h).1]; exact h)
theorem owC_set {own : List Int} {i : Nat} (x : Int) (h : i < own.length) : (owC own).set i (.int .i64 x) = owC (own.set i x) := by
  unfold owC; rw [iv_set, List.set_append_left _ _ h, List.length_set]
abbrev fcells (own qs : List Int) (p : PA) : List Value := owC own ++ [.int .i64 own.length, .slice p.1 qs.length p.2]
theorem fc_get {own qs : List Int} {p : PA} {i : Nat} {x : Int} (hl : own.length ≤ 1024) (h : own[i]? = some x) : (fcells own qs p)[i]? = some (.int .i64 x) := by
  have := (List.getElem?_eq_some_iff.1 h).1
  unfold fcells; rw [List.getElem?_append_left (by rw [owC_len hl]; omega)]; exact owC_get h
theorem fc_tot {own qs : List Int} {p : PA} (hl : own.length ≤ 1024) : (fcells own qs p)[1024]? = some (.int .i64 own.length) := by
  unfold fcells; rw [List.getElem?_append_right (by rw [owC_len hl]; omega), owC_len hl]; rfl
theorem fc_qs {own qs : List Int} {p : PA} (hl : own.length ≤ 1024) : (fcells own qs p)[1025]? = some (.slice p.1 qs.length p.2) := by
  unfold fcells; rw [List.getElem?_append_right (by rw [owC_len hl]; omega), owC_len hl]; rfl
theorem fc_set {own qs : List Int} {p : PA} {i : Nat} (x : Int) (hl : own.length ≤ 1024) (h : i < own.length) : (fcells own qs p).set i (.int .i64 x) = fcells (own.set i x) qs p := by
  unfold fcells; rw [List.set_append_left _ _ (by rw [owC_len hl]; omega), owC_set x h, List.length_set]
theorem fc_len {own qs : List Int} {p : PA} (hl : own.length ≤ 1024) : (fcells own qs p).length = 1026 := by unfold fcells; rw [List.length_append, owC_len hl]; rfl
theorem fc_row {own qs : List Int} {p : PA} (hl : own.length ≤ 1024) : ((fcells own qs p).drop 0).take own.length = iv own := by
  unfold fcells owC
  rw [List.drop_zero, iv_append, List.append_assoc, List.take_append_of_le_length (by rw [iv_len]; omega), List.take_of_length_le (by rw [iv_len]; omega)]
abbrev FO (f : Nat) (own qs : List Int) (p : PA) : List HProp := [blk f (fcells own qs p) 144, oiv p.1 p.2 qs]
/-- At block f lie frames. -/
def F (f : Nat) (own qs : List Int) : HProp := fun h => ∃ p : PA, own.length ≤ 1024 ∧ Star (FO f own qs p) h
theorem f_open {f : Nat} {own qs : List Int} (y : Heaplet) (h : F f own qs y) : ∃ p : PA, own.length ≤ 1024 ∧ Star (FO f own qs p) y := h
theorem f_close {f : Nat} {own qs : List Int} {G : List HProp} (p : PA) (hl : own.length ≤ 1024) : Imp (FO f own qs p ++ G) (F f own qs :: G) :=
  Imp.trans star_close (Imp.head fun y hy => ⟨p, hl, hy⟩)
/-- Is it a partition? -/
abbrev isP (qs : List Int) (p : Int) : Prop := 0 ≤ p ∧ p < qs.length
abbrev isF (own : List Int) (n : Int) : Prop := 0 ≤ n ∧ n < own.length
section
variable (W0 : World) (Fr : List HProp)
theorem part_spec {f : Nat} {own qs : List Int} (p : Int) : Ctr Try.prog W0 71 [.pointer (some ⟨f, 0, none⟩), .int .i64 p] (F f own qs :: Fr) (fun _ : Unit => True) (fun _ => .bool (decide (isP qs p))) (fun _ => F f own qs :: Fr) := by
  refine Ctr.ex Ext.here f_open ?_
  rintro ⟨a, c⟩ hl
  refine Ctr.imp star_open ?_
  dsimp only [FO, List.cons_append, List.nil_append]
  refine Ctr.of_body Try.func71 rfl Try.ntmps71 rfl ?_
  refine CG.seq ?_
  refine CG.region ?_
  refine OG.yield (Yield.assign rfl) rfl ?_
  refine OG.nil ?_
  refine QG.then ?_
  refine CG.seq ?_
  rcases (show p < 0 ∨ (0 ≤ p ∧ ¬ p < qs.length) ∨ (0 ≤ p ∧ p < qs.length) by omega) with hh | hh | hh
  · skip
    refine CG.region ?_
    refine OG.yield (Yield.move rfl) rfl ?_
    refine OG.yield (by first | exact Yield.as (Yield.geq rfl rfl) (bT (by omega)) | exact Yield.as (Yield.geq rfl rfl) (bF (by omega)) | exact Yield.geq rfl rfl) rfl ?_
    refine OG.yield (Yield.move rfl) rfl ?_
    refine OG.guard_no rfl rfl rfl rfl rfl (by decide) (by decide) ?_
    refine OG.guard_no rfl rfl rfl rfl rfl (by decide) (by decide) ?_
    refine OG.guard_no rfl rfl rfl rfl rfl (by decide) (by decide) ?_
    refine OG.guard_no rfl rfl rfl rfl rfl (by decide) (by decide) ?_
    refine OG.guard_no rfl rfl rfl rfl rfl (by decide) (by decide) ?_
    refine OG.guard_no rfl rfl rfl rfl rfl (by decide) (by decide) ?_
    refine OG.guard_no rfl rfl rfl rfl rfl (by decide) (by decide) ?_
    refine OG.yield (by first | exact Yield.pick_t rfl rfl | exact Yield.pick_f rfl rfl | exact Yield.pick rfl (fun _ => rfl) (fun _ => rfl)) rfl ?_
    refine OG.yield (Yield.assign rfl) rfl ?_
    refine OG.nil ?_
    refine QG.then ?_
    refine CG.ret ?_
    exact QG.ret1 rfl rfl () trivial (by rw [decide_eq_false (by omega)]) (Imp.trans (by repeat (first | exact Imp.refl _ | exact Imp.none _ | apply Imp.pull (by repeat (first | exact Ext.here | apply Ext.there)) | apply Imp.trans Imp.drop)) (f_close (a, c) hl))
  · skip
    refine CG.region ?_
    refine OG.yield (Yield.move rfl) rfl ?_
    refine OG.yield (by first | exact Yield.as (Yield.geq rfl rfl) (bT (by omega)) | exact Yield.as (Yield.geq rfl rfl) (bF (by omega)) | exact Yield.geq rfl rfl) rfl ?_
    refine OG.yield (Yield.move rfl) rfl ?_
    refine OG.guard_yes rfl rfl rfl (by decide) ?_
    refine OG.yield (Yield.move rfl) rfl ?_
    refine OG.guard_yes rfl rfl rfl (by decide) ?_
    refine OG.yield (Yield.move rfl) rfl ?_
    refine OG.guard_yes rfl rfl rfl (by decide) ?_
    refine OG.yield (Yield.nilCheck rfl) rfl ?_
    refine OG.guard_yes rfl rfl rfl (by decide) ?_
    refine OG.yield (Yield.fieldAddr fa144_2 rfl) rfl ?_
    refine OG.guard_yes rfl rfl rfl (by decide) ?_
    refine OG.yield (Yield.load (v := .slice a qs.length c) ti63 rfl (Cel.of_blk (b := f) (by repeat (first | exact Ext.here | apply Ext.there)) (fc_qs hl))) rfl ?_
    refine OG.guard_yes rfl rfl rfl (by decide) ?_
    refine OG.yield (Yield.len_slice Try.underlying63 rfl rfl) rfl ?_
    refine OG.guard_yes rfl rfl rfl (by decide) ?_
    refine OG.yield (by first | exact Yield.as (Yield.lss rfl rfl) (bT (by omega)) | exact Yield.as (Yield.lss rfl rfl) (bF (by omega)) | exact Yield.lss rfl rfl) rfl ?_
    refine OG.yield (by first | exact Yield.pick_t rfl rfl | exact Yield.pick_f rfl rfl | exact Yield.pick rfl (fun _ => rfl) (fun _ => rfl)) rfl ?_
    refine OG.yield (Yield.assign rfl) rfl ?_
    refine OG.nil ?_
    refine QG.then ?_
    refine CG.ret ?_
    exact QG.ret1 rfl rfl () trivial (by rw [decide_eq_false (by omega)]) (Imp.trans (by repeat (first | exact Imp.refl _ | exact Imp.none _ | apply Imp.pull (by repeat (first | exact Ext.here | apply Ext.there)) | apply Imp.trans Imp.drop)) (f_close (a, c) hl))
  · skip
    refine CG.region ?_
    refine OG.yield (Yield.move rfl) rfl ?_
    refine OG.yield (by first | exact Yield.as (Yield.geq rfl rfl) (bT (by omega)) | exact Yield.as (Yield.geq rfl rfl) (bF (by omega)) | exact Yield.geq rfl rfl) rfl ?_
    refine OG.yield (Yield.move rfl) rfl ?_
    refine OG.guard_yes rfl rfl rfl (by decide) ?_
    refine OG.yield (Yield.move rfl) rfl ?_
    refine OG.guard_yes rfl rfl rfl (by decide) ?_
    refine OG.yield (Yield.move rfl) rfl ?_
    refine OG.guard_yes rfl rfl rfl (by decide) ?_
    refine OG.yield (Yield.nilCheck rfl) rfl ?_
    refine OG.guard_yes rfl rfl rfl (by decide) ?_
    refine OG.yield (Yield.fieldAddr fa144_2 rfl) rfl ?_
    refine OG.guard_yes rfl rfl rfl (by decide) ?_
    refine OG.yield (Yield.load (v := .slice a qs.length c) ti63 rfl (Cel.of_blk (b := f) (by repeat (first | exact Ext.here | apply Ext.there)) (fc_qs hl))) rfl ?_
    refine OG.guard_yes rfl rfl rfl (by decide) ?_
    refine OG.yield (Yield.len_slice Try.underlying63 rfl rfl) rfl ?_
    refine OG.guard_yes rfl rfl rfl (by decide) ?_
    refine OG.yield (by first | exact Yield.as (Yield.lss rfl rfl) (bT (by omega)) | exact Yield.as (Yield.lss rfl rfl) (bF (by omega)) | exact Yield.lss rfl rfl) rfl ?_
    refine OG.yield (by first | exact Yield.pick_t rfl rfl | exact Yield.pick_f rfl rfl | exact Yield.pick rfl (fun _ => rfl) (fun _ => rfl)) rfl ?_
    refine OG.yield (Yield.assign rfl) rfl ?_
    refine OG.nil ?_
    refine QG.then ?_
    refine CG.ret ?_
    exact QG.ret1 rfl rfl () trivial (by rw [decide_eq_true hh]) (Imp.trans (by repeat (first | exact Imp.refl _ | exact Imp.none _ | apply Imp.pull (by repeat (first | exact Ext.here | apply Ext.there)) | apply Imp.trans Imp.drop)) (f_close (a, c) hl))
theorem frame_spec {f : Nat} {own qs : List Int} (n : Int) : Ctr Try.prog W0 83 [.pointer (some ⟨f, 0, none⟩), .int .i64 n] (F f own qs :: Fr) (fun _ : Unit => True) (fun _ => .bool (decide (isF own n))) (fun _ => F f own qs :: Fr) := by
  refine Ctr.ex Ext.here f_open ?_
  rintro ⟨a, c⟩ hl
  refine Ctr.imp star_open ?_
  dsimp only [FO, List.cons_append, List.nil_append]
  refine Ctr.of_body Try.func83 rfl Try.ntmps83 rfl ?_
  refine CG.seq ?_
  refine CG.region ?_
  refine OG.yield (Yield.assign rfl) rfl ?_
  refine OG.nil ?_
  refine QG.then ?_
  refine CG.seq ?_
  rcases (show n < 0 ∨ (0 ≤ n ∧ ¬ n < own.length) ∨ (0 ≤ n ∧ n < own.length) by omega) with hh | hh | hh
  · skip
    refine CG.region ?_
    refine OG.yield (Yield.move rfl) rfl ?_
    refine OG.yield (by first | exact Yield.as (Yield.geq rfl rfl) (bT (by omega)) | exact Yield.as (Yield.geq rfl rfl) (bF (by omega)) | exact Yield.geq rfl rfl) rfl ?_
    refine OG.yield (Yield.move rfl) rfl ?_
    refine OG.guard_no rfl rfl rfl rfl rfl (by decide) (by decide) ?_
    refine OG.guard_no rfl rfl rfl rfl rfl (by decide) (by decide) ?_
    refine OG.guard_no rfl rfl rfl rfl rfl (by decide) (by decide) ?_
    refine OG.guard_no rfl rfl rfl rfl rfl (by decide) (by decide) ?_
    refine OG.guard_no rfl rfl rfl rfl rfl (by decide) (by decide) ?_
    refine OG.guard_no rfl rfl rfl rfl rfl (by decide) (by decide) ?_
    refine OG.yield (by first | exact Yield.pick_t rfl rfl | exact Yield.pick_f rfl rfl | exact Yield.pick rfl (fun _ => rfl) (fun _ => rfl)) rfl ?_
    refine OG.yield (Yield.assign rfl) rfl ?_
    refine OG.nil ?_
    refine QG.then ?_
    refine CG.ret ?_
    exact QG.ret1 rfl rfl () trivial (by rw [decide_eq_false (by omega)]) (Imp.trans (by repeat (first | exact Imp.refl _ | exact Imp.none _ | apply Imp.pull (by repeat (first | exact Ext.here | apply Ext.there)) | apply Imp.trans Imp.drop)) (f_close (a, c) hl))
  · skip
    refine CG.region ?_
    refine OG.yield (Yield.move rfl) rfl ?_
    refine OG.yield (by first | exact Yield.as (Yield.geq rfl rfl) (bT (by omega)) | exact Yield.as (Yield.geq rfl rfl) (bF (by omega)) | exact Yield.geq rfl rfl) rfl ?_
    refine OG.yield (Yield.move rfl) rfl ?_
    refine OG.guard_yes rfl rfl rfl (by decide) ?_
    refine OG.yield (Yield.move rfl) rfl ?_
    refine OG.guard_yes rfl rfl rfl (by decide) ?_
    refine OG.yield (Yield.move rfl) rfl ?_
    refine OG.guard_yes rfl rfl rfl (by decide) ?_
    refine OG.yield (Yield.nilCheck rfl) rfl ?_
    refine OG.guard_yes rfl rfl rfl (by decide) ?_
    refine OG.yield (Yield.fieldAddr fa144_1 rfl) rfl ?_
    refine OG.guard_yes rfl rfl rfl (by decide) ?_
    refine OG.yield (Yield.load (v := .int .i64 own.length) ti3 rfl (Cel.of_blk (b := f) (by repeat (first | exact Ext.here | apply Ext.there)) (fc_tot hl))) rfl ?_
    refine OG.guard_yes rfl rfl rfl (by decide) ?_
    refine OG.yield (by first | exact Yield.as (Yield.lss rfl rfl) (bT (by omega)) | exact Yield.as (Yield.lss rfl rfl) (bF (by omega)) | exact Yield.lss rfl rfl) rfl ?_
    refine OG.yield (by first | exact Yield.pick_t rfl rfl | exact Yield.pick_f rfl rfl | exact Yield.pick rfl (fun _ => rfl) (fun _ => rfl)) rfl ?_
    refine OG.yield (Yield.assign rfl) rfl ?_
    refine OG.nil ?_
    refine QG.then ?_
    refine CG.ret ?_
    exact QG.ret1 rfl rfl () trivial (by rw [decide_eq_false (by omega)]) (Imp.trans (by repeat (first | exact Imp.refl _ | exact Imp.none _ | apply Imp.pull (by repeat (first | exact Ext.here | apply Ext.there)) | apply Imp.trans Imp.drop)) (f_close (a, c) hl))
  · skip
    refine CG.region ?_
    refine OG.yield (Yield.move rfl) rfl ?_
    refine OG.yield (by first | exact Yield.as (Yield.geq rfl rfl) (bT (by omega)) | exact Yield.as (Yield.geq rfl rfl) (bF (by omega)) | exact Yield.geq rfl rfl) rfl ?_
    refine OG.yield (Yield.move rfl) rfl ?_
    refine OG.guard_yes rfl rfl rfl (by decide) ?_
    refine OG.yield (Yield.move rfl) rfl ?_
    refine OG.guard_yes rfl rfl rfl (by decide) ?_
    refine OG.yield (Yield.move rfl) rfl ?_
    refine OG.guard_yes rfl rfl rfl (by decide) ?_
    refine OG.yield (Yield.nilCheck rfl) rfl ?_
    refine OG.guard_yes rfl rfl rfl (by decide) ?_
    refine OG.yield (Yield.fieldAddr fa144_1 rfl) rfl ?_
    refine OG.guard_yes rfl rfl rfl (by decide) ?_
    refine OG.yield (Yield.load (v := .int .i64 own.length) ti3 rfl (Cel.of_blk (b := f) (by repeat (first | exact Ext.here | apply Ext.there)) (fc_tot hl))) rfl ?_
    refine OG.guard_yes rfl rfl rfl (by decide) ?_
    refine OG.yield (by first | exact Yield.as (Yield.lss rfl rfl) (bT (by omega)) | exact Yield.as (Yield.lss rfl rfl) (bF (by omega)) | exact Yield.lss rfl rfl) rfl ?_
    refine OG.yield (by first | exact Yield.pick_t rfl rfl | exact Yield.pick_f rfl rfl | exact Yield.pick rfl (fun _ => rfl) (fun _ => rfl)) rfl ?_
    refine OG.yield (Yield.assign rfl) rfl ?_
    refine OG.nil ?_
    refine QG.then ?_
    refine CG.ret ?_
    exact QG.ret1 rfl rfl () trivial (by rw [decide_eq_true hh]) (Imp.trans (by repeat (first | exact Imp.refl _ | exact Imp.none _ | apply Imp.pull (by repeat (first | exact Ext.here | apply Ext.there)) | apply Imp.trans Imp.drop)) (f_close (a, c) hl))
theorem count_open {f : Nat} {own qs : List Int} (p : PA) (hl : own.length ≤ 1024) (who : Int) : Ctr Try.prog W0 72 [.pointer (some ⟨f, 0, none⟩), .int .i64 who] (blk f (fcells own qs p) 144 :: oiv p.1 p.2 qs :: Fr) (fun _ : Unit => True) (fun _ => .int .i64 (cnt own who)) (fun _ => blk f (fcells own qs p) 144 :: oiv p.1 p.2 qs :: Fr) := by
  obtain ⟨a, c⟩ := p
  dsimp only
  refine Ctr.of_body Try.func72 rfl Try.ntmps72 rfl ?_
  refine CG.seq ?_
  refine CG.region ?_
  refine OG.yield (Yield.assign rfl) rfl ?_
  refine OG.nil ?_
  refine QG.then ?_
  refine CG.seq ?_
  refine CG.region ?_
  refine OG.yield (Yield.assign rfl) rfl ?_
  refine OG.nil ?_
  refine QG.then ?_
  refine CG.seq ?_
  refine CG.seq ?_
  refine CG.draw (.look 0 1 (.look 1 1 (.look 2 1 (.look 3 1 (.look 4 1 (.look 5 1 (.look 6 1 (.look 7 1 (.look 8 1 (.look 9 1 (.done))))))))))) [] [] ([]) ([]) mixed (by kernel_rfl) (Imp.none _) (Imp.none _) ?_
  refine DG.look rfl rfl (Yield.move rfl) rfl ?_
  refine DG.look rfl rfl (Yield.nilCheck rfl) rfl ?_
  refine DG.look rfl rfl (Yield.fieldAddr fa144_0 rfl) rfl ?_
  refine DG.look rfl rfl (Yield.move rfl) rfl ?_
  refine DG.look rfl rfl (Yield.nilCheck rfl) rfl ?_
  refine DG.look rfl rfl (Yield.fieldAddr fa144_1 rfl) rfl ?_
  refine DG.look rfl rfl (Yield.load (v := .int .i64 own.length) ti3 rfl (Cel.of_blk (b := f) (by repeat (first | exact Ext.here | apply Ext.there)) (fc_tot hl))) rfl ?_
  refine DG.look rfl rfl (Yield.as (Yield.slice_arr Try.underlying142 ti3 rfl Bound.none (Bound.some rfl) (by omega) (by omega) (by omega) (by omega)) (v' := .slice (some ⟨f, 0, none⟩) own.length 1024) (by congr 1)) rfl ?_
  refine DG.look rfl rfl (Yield.len_slice Try.underlying63 rfl rfl) rfl ?_
  refine DG.look rfl rfl (Yield.move rfl) rfl ?_
  refine DG.done ?_
  refine QG.then ?_
  refine CG.block ?_
  refine CG.loop (fun i : Nat => i ≤ own.length) (fun i => [(1, .int .i64 who), (5, .int .i64 (cnt (own.take i) who)), (15, .slice (some ⟨f, 0, none⟩) own.length 1024), (16, .int .i64 own.length), (17, .int .i64 i)]) (fun _ => FO f own qs (a, c) ++ Fr) (fun i => own.length - i) 0 (Nat.zero_le _) (by repeat (first | exact Env.sub_nil _ | refine Env.sub_cons rfl ?_)) (Imp.refl _) ?_
  intro i hi
  dsimp only [FO, List.cons_append, List.nil_append]
  refine CG.seq ?_
  refine CG.region ?_
  refine OG.yield (by first | exact Yield.as (Yield.lss rfl rfl) (bT (by omega)) | exact Yield.as (Yield.lss rfl rfl) (bF (by omega)) | exact Yield.lss rfl rfl) rfl ?_
  refine OG.nil ?_
  refine QG.then ?_
  refine CG.seq ?_
  refine CG.cond rfl (fun hc => ?_) (fun hc => ?_)
  · try replace hc := of_decide_eq_true hc
    have hi' : i < own.length := by omega
    have hget : own[i]? = some own[i] := by simp [hi']
    generalize own[i] = x at hget
    have hct := cnt_take (p := who) hget
    have hcl := cnt_le (own.take i) who
    rw [List.length_take] at hcl
    refine CG.skip ?_
    refine QG.then ?_
    refine CG.seq ?_
    refine CG.block ?_
    refine CG.seq ?_
    refine CG.region ?_
    refine OG.yield (Yield.index_slice Try.underlying63 ti3 rfl rfl (by omega) (by omega)) rfl ?_
    refine OG.yield (Yield.load (v := .int .i64 x) ti3 rfl (Cel.of_blk (b := f) (by repeat (first | exact Ext.here | apply Ext.there)) (by rw [show 0 + (i : Int).toNat * 1 = i by omega]; exact fc_get hl hget))) rfl ?_
    refine OG.yield (Yield.assign rfl) rfl ?_
    refine OG.nil ?_
    refine QG.then ?_
    refine CG.seq ?_
    refine CG.region ?_
    refine OG.yield (Yield.move rfl) rfl ?_
    refine OG.yield (Yield.move rfl) rfl ?_
    refine OG.yield (Yield.eql rfl rfl) rfl ?_
    refine OG.nil ?_
    refine QG.then ?_
    refine CG.cond rfl (fun hc => ?_) (fun hc => ?_)
    · try replace hc := of_decide_eq_true hc
      refine CG.region ?_
      refine OG.yield (Yield.move rfl) rfl ?_
      refine OG.yield (Yield.add rfl rfl (w64 (by omega) (by omega))) rfl ?_
      refine OG.yield (Yield.assign rfl) rfl ?_
      refine OG.nil ?_
      refine QG.block_normal ?_
      refine QG.then ?_
      refine CG.region ?_
      refine OG.yield (Yield.add rfl rfl (w64 (by omega) (by omega))) rfl ?_
      refine OG.yield (Yield.move rfl) rfl ?_
      refine OG.nil ?_
      refine QG.next (i + 1) (show i + 1 ≤ own.length by omega) (show own.length - (i + 1) < own.length - i by omega) ?_ (by repeat (first | exact Imp.refl _ | exact Imp.none _ | apply Imp.pull (by repeat (first | exact Ext.here | apply Ext.there)) | apply Imp.trans Imp.drop))
      rw [hct, if_pos hc]; exact (by repeat (first | exact Env.sub_nil _ | refine Env.sub_cons rfl ?_))
    · try replace hc := of_decide_eq_false hc
      refine CG.skip ?_
      refine QG.block_normal ?_
      refine QG.then ?_
      refine CG.region ?_
      refine OG.yield (Yield.add rfl rfl (w64 (by omega) (by omega))) rfl ?_
      refine OG.yield (Yield.move rfl) rfl ?_
      refine OG.nil ?_
      refine QG.next (i + 1) (show i + 1 ≤ own.length by omega) (show own.length - (i + 1) < own.length - i by omega) ?_ (by repeat (first | exact Imp.refl _ | exact Imp.none _ | apply Imp.pull (by repeat (first | exact Ext.here | apply Ext.there)) | apply Imp.trans Imp.drop))
      rw [hct, if_neg hc]; exact (by repeat (first | exact Env.sub_nil _ | refine Env.sub_cons rfl ?_))
  · try replace hc := of_decide_eq_false hc
    refine CG.exit ?_
    refine QG.pass_exit ?_
    refine QG.pass_exit ?_
    refine QG.block_exit ?_
    refine QG.then ?_
    refine CG.seq ?_
    refine CG.region ?_
    refine OG.yield (Yield.move rfl) rfl ?_
    refine OG.yield (Yield.assign rfl) rfl ?_
    refine OG.nil ?_
    refine QG.then ?_
    refine CG.ret ?_
    have : i = own.length := by omega
    subst this
    rw [List.take_length]
    exact QG.ret1 rfl rfl () trivial rfl (by repeat (first | exact Imp.refl _ | exact Imp.none _ | apply Imp.pull (by repeat (first | exact Ext.here | apply Ext.there)) | apply Imp.trans Imp.drop))
theorem count_spec {f : Nat} {own qs : List Int} (who : Int) : Ctr Try.prog W0 72 [.pointer (some ⟨f, 0, none⟩), .int .i64 who] (F f own qs :: Fr) (fun _ : Unit => True) (fun _ => .int .i64 (cnt own who)) (fun _ => F f own qs :: Fr) := by
  refine Ctr.ex Ext.here f_open ?_
  rintro p hl
  refine Ctr.imp star_open ?_
  exact Ctr.to (count_open W0 Fr p hl who) id (fun _ h => h) (fun _ => rfl) (fun _ => f_close p hl)
/-- How many more a partition may have. -/
def left (own qs : List Int) (p : Int) : Int := match p with
  | .ofNat k => (match qs[k]? with | some q => q - cnt own k | none => 0)
  | .negSucc _ => 0
theorem left_in {own qs : List Int} {k : Nat} {q : Int} (h : qs[k]? = some q) : left own qs k = q - cnt own k := by
  show (match qs[k]? with | some q => q - (cnt own k : Int) | none => 0) = _; rw [h]
theorem left_out {own qs : List Int} {p : Int} (h : ¬ isP qs p) : left own qs p = 0 := by
  cases p with
  | ofNat k =>
    show (match qs[k]? with | some q => q - (cnt own k : Int) | none => 0) = _
    rw [List.getElem?_eq_none (by unfold isP at h; simp only [Int.ofNat_eq_natCast] at h; omega)]
  | negSucc k => rfl
theorem left_spec {f : Nat} {own qs : List Int} (p : Int) (hq : ∀ q ∈ qs, 0 ≤ q ∧ q ≤ 1024) : Ctr Try.prog W0 30 [.pointer (some ⟨f, 0, none⟩), .int .i64 p] (F f own qs :: Fr) (fun _ : Unit => True) (fun _ => .int .i64 (left own qs p)) (fun _ => F f own qs :: Fr) := by
  refine Ctr.of_body Try.func30 rfl Try.ntmps30 rfl ?_
  refine CG.seq ?_
  refine CG.region ?_
  refine OG.yield (Yield.assign rfl) rfl ?_
  refine OG.nil ?_
  refine QG.then ?_
  refine CG.seq ?_
  refine CG.seq ?_
  rcases (show isP qs p ∨ ¬ isP qs p by omega) with hh | hh
  · skip
    refine CG.region ?_
    refine OG.yield (Yield.move rfl) rfl ?_
    refine OG.yield (Yield.move rfl) rfl ?_
    refine OG.callo call71 rfl (Imp.refl _) (part_spec W0 Fr p) rfl ?_
    rintro ⟨⟩ -
    first | rw [decide_eq_true hh] | rw [decide_eq_false hh]
    refine OG.yield (Yield.not rfl) rfl ?_
    refine OG.nil ?_
    refine QG.then ?_
    refine CG.cond_f rfl ?_
    refine CG.skip ?_
    refine QG.then ?_
    refine CG.seq ?_
    obtain ⟨k, rfl⟩ : ∃ k : Nat, p = (k : Int) := ⟨p.toNat, by omega⟩
    have hkl : k < qs.length := by omega
    have hgk : qs[k]? = some qs[k] := by simp [hkl]
    have hqk := hq qs[k] (List.getElem_mem hkl)
    generalize qs[k] = q at hgk hqk
    refine CG.ex (A := F f own qs) (by repeat (first | exact Ext.here | apply Ext.there)) f_open ?_
    rintro ⟨a, c⟩ hl
    refine CG.imp star_open ?_
    have hcl := cnt_le own k
    dsimp only [FO, List.cons_append, List.nil_append]
    refine CG.pure (fun w hw => SlR.shape (SlR.of_osl (W0 := W0) (E := 3) (sz := 1) (a := a) (c := c) (m := qs.length) (xs := iv qs) (by repeat (first | exact Ext.here | apply Ext.there))) (by intro h; have := iv_len qs; rw [h] at this; simp only [List.length_nil] at this; omega) w hw) ?_
    rintro ⟨b, o, rfl⟩
    refine CG.draw (.look 0 0 (.look 1 0 (.look 2 0 (.look 3 0 (.look 4 0 (.look 5 0 (.look 6 0 (.look 7 1 (.look 8 1 (.eff1 9 false (.look 10 1 (.look 11 1 (.done))))))))))))) [9] [] ([blk f (fcells own qs (some ⟨b, o, none⟩, c)) 144, oiv (some ⟨b, o, none⟩) c qs]) ([]) mixed (by kernel_rfl) ((by repeat (first | exact Imp.refl _ | exact Imp.none _ | apply Imp.pull (by repeat (first | exact Ext.here | apply Ext.there)) | apply Imp.trans Imp.drop))) (Imp.none _) ?_
    refine DG.look rfl rfl (Yield.move rfl) rfl ?_
    refine DG.look rfl rfl (Yield.nilCheck rfl) rfl ?_
    refine DG.look rfl rfl (Yield.fieldAddr fa144_2 rfl) rfl ?_
    refine DG.look rfl rfl (Yield.load (v := .slice (some ⟨b, o, none⟩) qs.length c) ti63 rfl (Cel.of_blk (b := f) Ext.here (fc_qs hl))) rfl ?_
    refine DG.look rfl rfl (Yield.move rfl) rfl ?_
    refine DG.look rfl rfl (Yield.index_slice Try.underlying63 ti3 rfl rfl (by omega) (by omega)) rfl ?_
    refine DG.look rfl rfl (Yield.load (v := .int .i64 q) ti3 rfl (by rw [show o + (k : Int).toNat * 1 = o + k by omega]; exact (SlR.of_osl (E := 3) (Ext.there Ext.here)).cel (iv_get hgk))) rfl ?_
    refine DG.look rfl rfl (Yield.move rfl) rfl ?_
    refine DG.look rfl rfl (Yield.move rfl) rfl ?_
    refine DG.eff1 ?_
    refine Chg.callo rfl rfl call72 rfl ((by repeat (first | exact Imp.refl _ | exact Imp.none _ | apply Imp.pull (by repeat (first | exact Ext.here | apply Ext.there)) | apply Imp.trans Imp.drop))) (count_open W0 Fr (f := f) (own := own) (qs := qs) (some ⟨b, o, none⟩, c) hl (k : Int)) rfl (fun _ => (by repeat (first | exact Imp.refl _ | exact Imp.none _ | apply Imp.pull (by repeat (first | exact Ext.here | apply Ext.there)) | apply Imp.trans Imp.drop))) (fun _ => Imp.refl _) (fun _ => (by repeat (first | exact Imp.refl _ | exact Imp.none _ | apply Imp.pull (by repeat (first | exact Ext.here | apply Ext.there)) | apply Imp.trans Imp.drop))) ?_
    rintro ⟨⟩ -
    refine DG.look rfl rfl (Yield.sub rfl rfl (w64 (by omega) (by omega))) rfl ?_
    refine DG.look rfl rfl (Yield.assign rfl) rfl ?_
    refine DG.done ?_
    refine QG.then ?_
    refine CG.ret ?_
    exact QG.ret1 rfl rfl () trivial (by rw [left_in hgk]) (Imp.trans (by repeat (first | exact Imp.refl _ | exact Imp.none _ | apply Imp.pull (by repeat (first | exact Ext.here | apply Ext.there)) | apply Imp.trans Imp.drop)) (f_close (some ⟨b, o, none⟩, c) hl))
  · skip
    refine CG.region ?_
    refine OG.yield (Yield.move rfl) rfl ?_
    refine OG.yield (Yield.move rfl) rfl ?_
    refine OG.callo call71 rfl (Imp.refl _) (part_spec W0 Fr p) rfl ?_
    rintro ⟨⟩ -
    first | rw [decide_eq_true hh] | rw [decide_eq_false hh]
    refine OG.yield (Yield.not rfl) rfl ?_
    refine OG.nil ?_
    refine QG.then ?_
    refine CG.cond_t rfl ?_
    refine CG.seq ?_
    refine CG.region ?_
    refine OG.yield (Yield.assign rfl) rfl ?_
    refine OG.nil ?_
    refine QG.then ?_
    refine CG.ret ?_
    refine QG.pass_ret ?_
    exact QG.ret1 rfl rfl () trivial (by rw [left_out hh]) (by repeat (first | exact Imp.refl _ | exact Imp.none _ | apply Imp.pull (by repeat (first | exact Ext.here | apply Ext.there)) | apply Imp.trans Imp.drop))
theorem fill_new (R : List Value) (hR : R.length = 1024) (x y v u : Value) (hv : one v = true) (hu : one u = true) : fillL [(0, 1024), (1024, 1), (1025, 1)] (R ++ [x, y]) [(1, v), (2, u)] = some (R ++ [v, u]) := by
  have e1 : over (R ++ [x, y]) 1024 [v] = R ++ [v, y] := by
    rw [over_one (by simp; omega), List.set_append_right _ _ (by omega), hR]; rfl
  have e2 : over (R ++ [v, y]) 1025 [u] = R ++ [v, u] := by
    rw [over_one (by simp; omega), List.set_append_right _ _ (by omega), hR]; rfl
  unfold fillL
  simp only [List.getElem?_cons_succ, List.getElem?_cons_zero, ones hv]
  rw [if_pos ⟨rfl, by simp; omega⟩, e1]
  unfold fillL
  simp only [List.getElem?_cons_succ, List.getElem?_cons_zero, ones hu]
  rw [if_pos ⟨rfl, by simp; omega⟩, e2]
  rfl
/-- The cells while New lays the owners. -/
def layC (i : Nat) : List Value := iv (List.replicate i (-1) ++ List.replicate (1024 - i) 0)
theorem layC_len {i : Nat} (h : i ≤ 1024) : (layC i).length = 1024 := by unfold layC; rw [iv_len]; simp; omega
theorem layC_set {i : Nat} (h : i < 1024) (l : List Value) : (layC i ++ l).set i (.int .i64 (-1)) = layC (i + 1) ++ l := by
  rw [List.set_append_left _ _ (by rw [layC_len (by omega)]; exact h)]
  congr 1
  unfold layC
  rw [iv_set]
  congr 1
  rw [List.set_append_right _ _ (by simp), List.length_replicate, Nat.sub_self, List.replicate_succ', List.append_assoc]
  congr 1
  rw [show 1024 - i = (1024 - (i + 1)) + 1 by omega, List.replicate_succ]; rfl
theorem layC_end {total : Nat} (h : total ≤ 1024) : layC 1024 = owC (List.replicate total (-1)) := by
  unfold layC owC
  rw [Nat.sub_self, List.length_replicate, List.replicate_append_replicate, show total + (1024 - total) = 1024 by omega]
  simp
theorem sum_take {qs : List Int} {i : Nat} {q : Int} (h : qs[i]? = some q) : (qs.take (i + 1)).sum = (qs.take i).sum + q := by
  obtain ⟨hi, rfl⟩ := List.getElem?_eq_some_iff.1 h
  rw [List.take_succ_eq_append_getElem hi, List.sum_append]; simp
theorem new_ok {total c : Nat} {a : Option Addr} {qs : List Int} (hr : SlR W0 Fr 1 a qs.length (iv qs)) (he : nerr total qs = 0) : Ctr Try.prog W0 31 [.int .i64 total, .slice a qs.length c] Fr (fun _ : Nat => True) (fun f => .tuple #[.pointer (some ⟨f, 0, none⟩), .int .i64 0]) (fun f => F f (List.replicate total (-1)) qs :: Fr) := by
  obtain ⟨ht, hql, hqs, hsum⟩ := nerr_ok he
  have hts : ∀ i, 0 ≤ (qs.take i).sum ∧ (qs.take i).sum ≤ 1024 * 8 := fun i => by
    have h1 := sum_bound (qs.take i) fun q hq => hqs q (List.mem_of_mem_take hq)
    have : (qs.take i).length ≤ 8 := by rw [List.length_take]; omega
    omega
  refine Ctr.of_body Try.func31 rfl Try.ntmps31 rfl ?_
  refine CG.seq ?_
  refine CG.region ?_
  refine OG.yield (Yield.assign rfl) rfl ?_
  refine OG.yield (Yield.assign rfl) rfl ?_
  refine OG.nil ?_
  refine QG.then ?_
  refine CG.seq ?_
  refine CG.seq ?_
  refine CG.region ?_
  refine OG.yield (Yield.move rfl) rfl ?_
  refine OG.yield (by first | exact Yield.as (Yield.lss rfl rfl) (bT (by omega)) | exact Yield.as (Yield.lss rfl rfl) (bF (by omega)) | exact Yield.lss rfl rfl) rfl ?_
  refine OG.yield (Yield.move rfl) rfl ?_
  refine OG.guard_yes rfl rfl rfl (by decide) ?_
  refine OG.yield (Yield.move rfl) rfl ?_
  refine OG.guard_yes rfl rfl rfl (by decide) ?_
  refine OG.yield (by first | exact Yield.as (Yield.gtr rfl rfl) (bT (by omega)) | exact Yield.as (Yield.gtr rfl rfl) (bF (by omega)) | exact Yield.gtr rfl rfl) rfl ?_
  refine OG.yield (by first | exact Yield.pick_t rfl rfl | exact Yield.pick_f rfl rfl | exact Yield.pick rfl (fun _ => rfl) (fun _ => rfl)) rfl ?_
  refine OG.nil ?_
  refine QG.then ?_
  refine CG.cond_f rfl ?_
  refine CG.skip ?_
  refine QG.then ?_
  refine CG.seq ?_
  refine CG.seq ?_
  refine CG.region ?_
  refine OG.yield (Yield.move rfl) rfl ?_
  refine OG.yield (Yield.len_slice Try.underlying63 rfl rfl) rfl ?_
  refine OG.yield (by first | exact Yield.as (Yield.gtr rfl rfl) (bT (by omega)) | exact Yield.as (Yield.gtr rfl rfl) (bF (by omega)) | exact Yield.gtr rfl rfl) rfl ?_
  refine OG.nil ?_
  refine QG.then ?_
  refine CG.cond_f rfl ?_
  refine CG.skip ?_
  refine QG.then ?_
  refine CG.seq ?_
  refine CG.region ?_
  refine OG.yield (Yield.assign rfl) rfl ?_
  refine OG.nil ?_
  refine QG.then ?_
  refine CG.seq ?_
  refine CG.seq ?_
  refine CG.region ?_
  refine OG.yield (Yield.move rfl) rfl ?_
  refine OG.yield (Yield.len_slice Try.underlying63 rfl rfl) rfl ?_
  refine OG.yield (Yield.move rfl) rfl ?_
  refine OG.nil ?_
  refine QG.then ?_
  refine CG.block ?_
  refine CG.loop (fun i : Nat => i ≤ qs.length) (fun i => [(0, .int .i64 total), (1, .slice a qs.length c), (6, .int .i64 (qs.take i).sum), (20, .slice a qs.length c), (21, .int .i64 qs.length), (22, .int .i64 i)]) (fun _ => Fr) (fun i => qs.length - i) 0 (Nat.zero_le _) (by repeat (first | exact Env.sub_nil _ | refine Env.sub_cons rfl ?_)) (Imp.refl _) ?_
  intro i hi
  refine CG.seq ?_
  refine CG.region ?_
  refine OG.yield (by first | exact Yield.as (Yield.lss rfl rfl) (bT (by omega)) | exact Yield.as (Yield.lss rfl rfl) (bF (by omega)) | exact Yield.lss rfl rfl) rfl ?_
  refine OG.nil ?_
  refine QG.then ?_
  refine CG.seq ?_
  refine CG.cond rfl (fun hc => ?_) (fun hc => ?_)
  · try replace hc := of_decide_eq_true hc
    have hi' : i < qs.length := by omega
    have hget : qs[i]? = some qs[i] := by simp [hi']
    have hq := hqs qs[i] (List.getElem_mem hi')
    have hst := hts i
    generalize qs[i] = q at hget hq
    refine CG.pure (fun w hw => SlR.shape hr (by intro h; have := iv_len qs; rw [h] at this; simp only [List.length_nil] at this; omega) w hw) ?_
    rintro ⟨b, o, rfl⟩
    refine CG.skip ?_
    refine QG.then ?_
    refine CG.seq ?_
    refine CG.block ?_
    refine CG.seq ?_
    refine CG.region ?_
    refine OG.yield (Yield.index_slice Try.underlying63 ti3 rfl rfl (by omega) (by omega)) rfl ?_
    refine OG.yield (Yield.load (v := .int .i64 q) ti3 rfl (by rw [show o + (i : Int).toNat * 1 = o + i by omega]; exact hr.cel (iv_get hget))) rfl ?_
    refine OG.yield (Yield.assign rfl) rfl ?_
    refine OG.nil ?_
    refine QG.then ?_
    refine CG.seq ?_
    refine CG.seq ?_
    refine CG.region ?_
    refine OG.yield (Yield.move rfl) rfl ?_
    refine OG.yield (by first | exact Yield.as (Yield.lss rfl rfl) (bT (by omega)) | exact Yield.as (Yield.lss rfl rfl) (bF (by omega)) | exact Yield.lss rfl rfl) rfl ?_
    refine OG.yield (Yield.move rfl) rfl ?_
    refine OG.guard_yes rfl rfl rfl (by decide) ?_
    refine OG.yield (Yield.move rfl) rfl ?_
    refine OG.guard_yes rfl rfl rfl (by decide) ?_
    refine OG.yield (by first | exact Yield.as (Yield.gtr rfl rfl) (bT (by omega)) | exact Yield.as (Yield.gtr rfl rfl) (bF (by omega)) | exact Yield.gtr rfl rfl) rfl ?_
    refine OG.yield (by first | exact Yield.pick_t rfl rfl | exact Yield.pick_f rfl rfl | exact Yield.pick rfl (fun _ => rfl) (fun _ => rfl)) rfl ?_
    refine OG.nil ?_
    refine QG.then ?_
    refine CG.cond_f rfl ?_
    refine CG.skip ?_
    refine QG.then ?_
    refine CG.region ?_
    refine OG.yield (Yield.move rfl) rfl ?_
    refine OG.yield (Yield.move rfl) rfl ?_
    refine OG.yield (Yield.add rfl rfl (w64 (by omega) (by omega))) rfl ?_
    refine OG.yield (Yield.assign rfl) rfl ?_
    refine OG.nil ?_
    refine QG.block_normal ?_
    refine QG.then ?_
    refine CG.region ?_
    refine OG.yield (Yield.add rfl rfl (w64 (by omega) (by omega))) rfl ?_
    refine OG.yield (Yield.move rfl) rfl ?_
    refine OG.nil ?_
    refine QG.next (i + 1) (show i + 1 ≤ qs.length by omega) (show qs.length - (i + 1) < qs.length - i by omega) ?_ (by repeat (first | exact Imp.refl _ | exact Imp.none _ | apply Imp.pull (by repeat (first | exact Ext.here | apply Ext.there)) | apply Imp.trans Imp.drop))
    rw [sum_take hget]; exact (by repeat (first | exact Env.sub_nil _ | refine Env.sub_cons rfl ?_))
  · try replace hc := of_decide_eq_false hc
    refine CG.exit ?_
    refine QG.pass_exit ?_
    refine QG.pass_exit ?_
    refine QG.block_exit ?_
    refine QG.then ?_
    have hiq : i = qs.length := by omega
    subst hiq
    rw [List.take_length]
    refine CG.seq ?_
    refine CG.seq ?_
    refine CG.region ?_
    refine OG.yield (Yield.move rfl) rfl ?_
    refine OG.yield (Yield.move rfl) rfl ?_
    refine OG.yield (by first | exact Yield.as (Yield.gtr rfl rfl) (bT (by omega)) | exact Yield.as (Yield.gtr rfl rfl) (bF (by omega)) | exact Yield.gtr rfl rfl) rfl ?_
    refine OG.nil ?_
    refine QG.then ?_
    refine CG.cond_f rfl ?_
    refine CG.skip ?_
    refine QG.then ?_
    refine CG.seq ?_
    refine CG.region ?_
    refine OG.yield (Yield.move rfl) rfl ?_
    refine OG.effd (Eff.lit0 Try.underlying63 ti3 rfl) rfl ?_
    rintro b40 -
    refine OG.yield (Yield.move rfl) rfl ?_
    refine OG.effd (Eff.append0 (k := qs.length) (ys := iv qs) rfl rfl rfl Try.underlying63 Try.underlying63 ti3 rfl (by decide) (by repeat (first | exact Foc.here | apply Foc.there)) (hr.imp (by repeat (first | exact Imp.refl _ | exact Imp.none _ | apply Imp.pull (by repeat (first | exact Ext.here | apply Ext.there)) | apply Imp.trans Imp.drop))) (iv_ones qs) (by omega)) rfl ?_
    rintro ⟨a42, c42⟩ -
    refine OG.yield (Yield.build (pvs := [(1, .int .i64 total), (2, .slice a42 qs.length c42)]) bu144 ti144 rfl ((congrArg (fun z => fillL _ z _) (show List.replicate 1025 (Value.int .i64 0) ++ [Value.slice none 0 0] = layC 0 ++ [.int .i64 0, .slice none 0 0] by unfold layC iv; rw [List.replicate_succ' (n := 1024)]; simp)).trans (fill_new (layC 0) (layC_len (by omega)) _ _ _ _ rfl rfl))) rfl ?_
    refine OG.effd (Eff.box rfl) rfl ?_
    rintro b44 -
    rw [show (Value.agg (layC 0 ++ [Value.int .i64 total, .slice a42 qs.length c42]).toArray).cells.toList = layC 0 ++ [.int .i64 total, .slice a42 qs.length c42] from rfl]
    refine OG.yield (Yield.assign rfl) rfl ?_
    refine OG.nil ?_
    refine QG.then ?_
    refine CG.seq ?_
    refine CG.seq ?_
    refine CG.region ?_
    refine OG.yield (Yield.move rfl) rfl ?_
    refine OG.nil ?_
    refine QG.then ?_
    refine CG.block ?_
    refine CG.loop (fun i : Nat => i ≤ 1024) (fun i => [(9, .pointer (some ⟨b44, 0, none⟩)), (45, .int .i64 i)]) (fun i => blk b44 (layC i ++ [.int .i64 total, .slice a42 qs.length c42]) 144 :: oiv a42 c42 qs :: Fr) (fun i => 1024 - i) 0 (Nat.zero_le _) (by repeat (first | exact Env.sub_nil _ | refine Env.sub_cons rfl ?_)) (by repeat (first | exact Imp.refl _ | exact Imp.none _ | apply Imp.pull (by repeat (first | exact Ext.here | apply Ext.there)) | apply Imp.trans Imp.drop)) ?_
    intro i hi
    have hll := layC_len hi
    refine CG.seq ?_
    refine CG.region ?_
    refine OG.yield (by first | exact Yield.as (Yield.lss rfl rfl) (bT (by omega)) | exact Yield.as (Yield.lss rfl rfl) (bF (by omega)) | exact Yield.lss rfl rfl) rfl ?_
    refine OG.nil ?_
    refine QG.then ?_
    refine CG.seq ?_
    refine CG.cond rfl (fun hc => ?_) (fun hc => ?_)
    · try replace hc := of_decide_eq_true hc
      refine CG.skip ?_
      refine QG.then ?_
      refine CG.seq ?_
      refine CG.block ?_
      refine CG.seq ?_
      refine CG.region ?_
      refine OG.yield (Yield.move rfl) rfl ?_
      refine OG.yield (Yield.assign rfl) rfl ?_
      refine OG.nil ?_
      refine QG.then ?_
      refine CG.region ?_
      refine OG.yield (Yield.move rfl) rfl ?_
      refine OG.yield (Yield.move rfl) rfl ?_
      refine OG.yield (Yield.nilCheck rfl) rfl ?_
      refine OG.yield (Yield.fieldAddr fa144_0 rfl) rfl ?_
      refine OG.yield (Yield.index_array Try.underlying142 ti3 rfl rfl (by omega) (by omega)) rfl ?_
      refine OG.eff (Eff.store1 ti3 rfl rfl (by repeat (first | exact Foc.here | apply Foc.there)) rfl (by rw [List.length_append, hll]; omega)) rfl ?_
      rintro ⟨⟩ -
      rw [show 0 + 0 + (i : Int).toNat * 1 = i by omega, layC_set (by omega)]
      refine OG.nil ?_
      refine QG.block_normal ?_
      refine QG.then ?_
      refine CG.region ?_
      refine OG.yield (Yield.add rfl rfl (w64 (by omega) (by omega))) rfl ?_
      refine OG.yield (Yield.move rfl) rfl ?_
      refine OG.nil ?_
      exact QG.next (i + 1) (show i + 1 ≤ 1024 by omega) (show 1024 - (i + 1) < 1024 - i by omega) (by repeat (first | exact Env.sub_nil _ | refine Env.sub_cons rfl ?_)) (by repeat (first | exact Imp.refl _ | exact Imp.none _ | apply Imp.pull (by repeat (first | exact Ext.here | apply Ext.there)) | apply Imp.trans Imp.drop))
    · try replace hc := of_decide_eq_false hc
      refine CG.exit ?_
      refine QG.pass_exit ?_
      refine QG.pass_exit ?_
      refine QG.block_exit ?_
      refine QG.then ?_
      refine CG.seq ?_
      refine CG.region ?_
      refine OG.yield (Yield.move rfl) rfl ?_
      refine OG.yield (Yield.assign rfl) rfl ?_
      refine OG.yield (Yield.assign rfl) rfl ?_
      refine OG.nil ?_
      refine QG.then ?_
      refine CG.ret ?_
      have hi : i = 1024 := by omega
      subst hi
      refine QG.ret2 rfl rfl rfl b44 trivial rfl (Imp.trans ?_ (f_close (a42, c42) (by rw [List.length_replicate]; omega)))
      dsimp only [FO, fcells, List.cons_append, List.nil_append]
      rw [List.length_replicate, ← layC_end (by omega)]
      exact (by repeat (first | exact Imp.refl _ | exact Imp.none _ | apply Imp.pull (by repeat (first | exact Ext.here | apply Ext.there)) | apply Imp.trans Imp.drop))
theorem free_spec {f : Nat} {own qs : List Int} : Ctr Try.prog W0 81 [.pointer (some ⟨f, 0, none⟩)] (F f own qs :: Fr) (fun _ : Unit => True) (fun _ => .int .i64 (cnt own (-1))) (fun _ => F f own qs :: Fr) := by
  refine Ctr.of_body Try.func81 rfl Try.ntmps81 rfl ?_
  refine CG.seq ?_
  refine CG.region ?_
  refine OG.yield (Yield.assign rfl) rfl ?_
  refine OG.nil ?_
  refine QG.then ?_
  refine CG.seq ?_
  refine CG.region ?_
  refine OG.yield (Yield.move rfl) rfl ?_
  refine OG.callo call72 rfl (Imp.refl _) (count_spec W0 Fr (-1)) rfl ?_
  rintro ⟨⟩ -
  refine OG.yield (Yield.assign rfl) rfl ?_
  refine OG.nil ?_
  refine QG.then ?_
  refine CG.ret ?_
  exact QG.ret1 rfl rfl () trivial rfl (by repeat (first | exact Imp.refl _ | exact Imp.none _ | apply Imp.pull (by repeat (first | exact Ext.here | apply Ext.there)) | apply Imp.trans Imp.drop))
theorem give_bad {f : Nat} {own qs : List Int} (p n : Int) (hb : ¬ isP qs p ∨ ¬ isF own n) : Ctr Try.prog W0 67 [.pointer (some ⟨f, 0, none⟩), .int .i64 p, .int .i64 n] (F f own qs :: Fr) (fun _ : Unit => True) (fun _ => .int .i64 2) (fun _ => F f own qs :: Fr) := by
  refine Ctr.of_body Try.func67 rfl Try.ntmps67 rfl ?_
  refine CG.seq ?_
  refine CG.region ?_
  refine OG.yield (Yield.assign rfl) rfl ?_
  refine OG.nil ?_
  refine QG.then ?_
  refine CG.seq ?_
  refine CG.seq ?_
  rcases (show ¬ isP qs p ∨ (isP qs p ∧ ¬ isF own n) by omega) with hh | ⟨hh, hn⟩
  · skip
    refine CG.region ?_
    refine OG.yield (Yield.move rfl) rfl ?_
    refine OG.yield (Yield.move rfl) rfl ?_
    refine OG.callo call71 rfl (Imp.refl _) (part_spec W0 Fr p) rfl ?_
    rintro ⟨⟩ -
    first | rw [decide_eq_true hh] | rw [decide_eq_false hh]
    refine OG.yield (Yield.not rfl) rfl ?_
    refine OG.yield (Yield.move rfl) rfl ?_
    refine OG.guard_no rfl rfl rfl rfl rfl (by decide) (by decide) ?_
    refine OG.guard_no rfl rfl rfl rfl rfl (by decide) (by decide) ?_
    refine OG.guard_no rfl rfl rfl rfl rfl (by decide) (by decide) ?_
    refine OG.guard_no rfl rfl rfl rfl rfl (by decide) (by decide) ?_
    refine OG.yield (by first | exact Yield.pick_t rfl rfl | exact Yield.pick_f rfl rfl | exact Yield.pick rfl (fun _ => rfl) (fun _ => rfl)) rfl ?_
    refine OG.nil ?_
    refine QG.then ?_
    refine CG.cond_t rfl ?_
    refine CG.seq ?_
    refine CG.region ?_
    refine OG.yield (Yield.assign rfl) rfl ?_
    refine OG.nil ?_
    refine QG.then ?_
    refine CG.ret ?_
    refine QG.pass_ret ?_
    exact QG.ret1 rfl rfl () trivial rfl (by repeat (first | exact Imp.refl _ | exact Imp.none _ | apply Imp.pull (by repeat (first | exact Ext.here | apply Ext.there)) | apply Imp.trans Imp.drop))
  · skip
    refine CG.region ?_
    refine OG.yield (Yield.move rfl) rfl ?_
    refine OG.yield (Yield.move rfl) rfl ?_
    refine OG.callo call71 rfl (Imp.refl _) (part_spec W0 Fr p) rfl ?_
    rintro ⟨⟩ -
    first | rw [decide_eq_true hh] | rw [decide_eq_false hh]
    refine OG.yield (Yield.not rfl) rfl ?_
    refine OG.yield (Yield.move rfl) rfl ?_
    refine OG.guard_yes rfl rfl rfl (by decide) ?_
    refine OG.yield (Yield.move rfl) rfl ?_
    refine OG.guard_yes rfl rfl rfl (by decide) ?_
    refine OG.yield (Yield.move rfl) rfl ?_
    refine OG.guard_yes rfl rfl rfl (by decide) ?_
    refine OG.callo call83 rfl (Imp.refl _) (frame_spec W0 Fr n) rfl ?_
    rintro ⟨⟩ -
    rw [decide_eq_false hn]
    refine OG.guard_yes rfl rfl rfl (by decide) ?_
    refine OG.yield (Yield.not rfl) rfl ?_
    refine OG.yield (by first | exact Yield.pick_t rfl rfl | exact Yield.pick_f rfl rfl | exact Yield.pick rfl (fun _ => rfl) (fun _ => rfl)) rfl ?_
    refine OG.nil ?_
    refine QG.then ?_
    refine CG.cond_t rfl ?_
    refine CG.seq ?_
    refine CG.region ?_
    refine OG.yield (Yield.assign rfl) rfl ?_
    refine OG.nil ?_
    refine QG.then ?_
    refine CG.ret ?_
    refine QG.pass_ret ?_
    exact QG.ret1 rfl rfl () trivial rfl (by repeat (first | exact Imp.refl _ | exact Imp.none _ | apply Imp.pull (by repeat (first | exact Ext.here | apply Ext.there)) | apply Imp.trans Imp.drop))
theorem give_owner {f : Nat} {own qs : List Int} (p : Int) (k : Nat) {x : Int} (hp : isP qs p) (hk : own[k]? = some x) (hx : x ≠ p) : Ctr Try.prog W0 67 [.pointer (some ⟨f, 0, none⟩), .int .i64 p, .int .i64 k] (F f own qs :: Fr) (fun _ : Unit => True) (fun _ => .int .i64 160) (fun _ => F f own qs :: Fr) := by
  have hkl := (List.getElem?_eq_some_iff.1 hk).1
  have hn : isF own k := ⟨by omega, by omega⟩
  refine Ctr.of_body Try.func67 rfl Try.ntmps67 rfl ?_
  refine CG.seq ?_
  refine CG.region ?_
  refine OG.yield (Yield.assign rfl) rfl ?_
  refine OG.nil ?_
  refine QG.then ?_
  refine CG.seq ?_
  refine CG.seq ?_
  refine CG.region ?_
  refine OG.yield (Yield.move rfl) rfl ?_
  refine OG.yield (Yield.move rfl) rfl ?_
  refine OG.callo call71 rfl (Imp.refl _) (part_spec W0 Fr p) rfl ?_
  rintro ⟨⟩ -
  rw [decide_eq_true hp]
  refine OG.yield (Yield.not rfl) rfl ?_
  refine OG.yield (Yield.move rfl) rfl ?_
  refine OG.guard_yes rfl rfl rfl (by decide) ?_
  refine OG.yield (Yield.move rfl) rfl ?_
  refine OG.guard_yes rfl rfl rfl (by decide) ?_
  refine OG.yield (Yield.move rfl) rfl ?_
  refine OG.guard_yes rfl rfl rfl (by decide) ?_
  refine OG.callo call83 rfl (Imp.refl _) (frame_spec W0 Fr k) rfl ?_
  rintro ⟨⟩ -
  rw [decide_eq_true hn]
  refine OG.guard_yes rfl rfl rfl (by decide) ?_
  refine OG.yield (Yield.not rfl) rfl ?_
  refine OG.yield (by first | exact Yield.pick_t rfl rfl | exact Yield.pick_f rfl rfl | exact Yield.pick rfl (fun _ => rfl) (fun _ => rfl)) rfl ?_
  refine OG.nil ?_
  refine QG.then ?_
  refine CG.cond_f rfl ?_
  refine CG.skip ?_
  refine QG.then ?_
  refine CG.seq ?_
  refine CG.seq ?_
  refine CG.ex (A := F f own qs) (by repeat (first | exact Ext.here | apply Ext.there)) f_open ?_
  rintro ⟨a, c⟩ hl
  refine CG.imp star_open ?_
  dsimp only [FO, List.cons_append, List.nil_append]
  refine CG.region ?_
  refine OG.yield (Yield.move rfl) rfl ?_
  refine OG.yield (Yield.move rfl) rfl ?_
  refine OG.yield (Yield.nilCheck rfl) rfl ?_
  refine OG.yield (Yield.fieldAddr fa144_0 rfl) rfl ?_
  refine OG.yield (Yield.index_array Try.underlying142 ti3 rfl rfl (by omega) (by omega)) rfl ?_
  refine OG.yield (Yield.load (v := .int .i64 x) ti3 rfl (Cel.of_blk (b := f) (by repeat (first | exact Ext.here | apply Ext.there)) (by rw [show 0 + 0 + (k : Int).toNat * 1 = k by omega]; exact fc_get hl hk))) rfl ?_
  refine OG.yield (Yield.move rfl) rfl ?_
  refine OG.yield (Yield.as (Yield.neq rfl rfl) (bT hx)) rfl ?_
  refine OG.nil ?_
  refine QG.then ?_
  refine CG.cond_t rfl ?_
  refine CG.seq ?_
  refine CG.region ?_
  refine OG.yield (Yield.assign rfl) rfl ?_
  refine OG.nil ?_
  refine QG.then ?_
  refine CG.ret ?_
  refine QG.pass_ret ?_
  exact QG.ret1 rfl rfl () trivial rfl (Imp.trans (by repeat (first | exact Imp.refl _ | exact Imp.none _ | apply Imp.pull (by repeat (first | exact Ext.here | apply Ext.there)) | apply Imp.trans Imp.drop)) (f_close (a, c) hl))
theorem give_ok {f : Nat} {own qs : List Int} (p : Int) (k : Nat) (hp : isP qs p) (hk : own[k]? = some p) : Ctr Try.prog W0 67 [.pointer (some ⟨f, 0, none⟩), .int .i64 p, .int .i64 k] (F f own qs :: Fr) (fun _ : Unit => True) (fun _ => .int .i64 0) (fun _ => F f (own.set k (-1)) qs :: Fr) := by
  have hkl := (List.getElem?_eq_some_iff.1 hk).1
  have hn : isF own k := ⟨by omega, by omega⟩
  refine Ctr.of_body Try.func67 rfl Try.ntmps67 rfl ?_
  refine CG.seq ?_
  refine CG.region ?_
  refine OG.yield (Yield.assign rfl) rfl ?_
  refine OG.nil ?_
  refine QG.then ?_
  refine CG.seq ?_
  refine CG.seq ?_
  refine CG.region ?_
  refine OG.yield (Yield.move rfl) rfl ?_
  refine OG.yield (Yield.move rfl) rfl ?_
  refine OG.callo call71 rfl (Imp.refl _) (part_spec W0 Fr p) rfl ?_
  rintro ⟨⟩ -
  rw [decide_eq_true hp]
  refine OG.yield (Yield.not rfl) rfl ?_
  refine OG.yield (Yield.move rfl) rfl ?_
  refine OG.guard_yes rfl rfl rfl (by decide) ?_
  refine OG.yield (Yield.move rfl) rfl ?_
  refine OG.guard_yes rfl rfl rfl (by decide) ?_
  refine OG.yield (Yield.move rfl) rfl ?_
  refine OG.guard_yes rfl rfl rfl (by decide) ?_
  refine OG.callo call83 rfl (Imp.refl _) (frame_spec W0 Fr k) rfl ?_
  rintro ⟨⟩ -
  rw [decide_eq_true hn]
  refine OG.guard_yes rfl rfl rfl (by decide) ?_
  refine OG.yield (Yield.not rfl) rfl ?_
  refine OG.yield (by first | exact Yield.pick_t rfl rfl | exact Yield.pick_f rfl rfl | exact Yield.pick rfl (fun _ => rfl) (fun _ => rfl)) rfl ?_
  refine OG.nil ?_
  refine QG.then ?_
  refine CG.cond_f rfl ?_
  refine CG.skip ?_
  refine QG.then ?_
  refine CG.seq ?_
  refine CG.seq ?_
  refine CG.ex (A := F f own qs) (by repeat (first | exact Ext.here | apply Ext.there)) f_open ?_
  rintro ⟨a, c⟩ hl
  refine CG.imp star_open ?_
  dsimp only [FO, List.cons_append, List.nil_append]
  refine CG.region ?_
  refine OG.yield (Yield.move rfl) rfl ?_
  refine OG.yield (Yield.move rfl) rfl ?_
  refine OG.yield (Yield.nilCheck rfl) rfl ?_
  refine OG.yield (Yield.fieldAddr fa144_0 rfl) rfl ?_
  refine OG.yield (Yield.index_array Try.underlying142 ti3 rfl rfl (by omega) (by omega)) rfl ?_
  refine OG.yield (Yield.load (v := .int .i64 p) ti3 rfl (Cel.of_blk (b := f) (by repeat (first | exact Ext.here | apply Ext.there)) (by rw [show 0 + 0 + (k : Int).toNat * 1 = k by omega]; exact fc_get hl hk))) rfl ?_
  refine OG.yield (Yield.move rfl) rfl ?_
  refine OG.yield (by first | exact Yield.as (Yield.neq rfl rfl) (bT (by omega)) | exact Yield.as (Yield.neq rfl rfl) (bF (by omega)) | exact Yield.neq rfl rfl) rfl ?_
  refine OG.nil ?_
  refine QG.then ?_
  refine CG.cond_f rfl ?_
  refine CG.skip ?_
  refine QG.then ?_
  refine CG.seq ?_
  refine CG.region ?_
  refine OG.yield (Yield.move rfl) rfl ?_
  refine OG.yield (Yield.move rfl) rfl ?_
  refine OG.yield (Yield.nilCheck rfl) rfl ?_
  refine OG.yield (Yield.fieldAddr fa144_0 rfl) rfl ?_
  refine OG.yield (Yield.index_array Try.underlying142 ti3 rfl rfl (by omega) (by omega)) rfl ?_
  refine OG.eff (Eff.store1 ti3 rfl rfl (by repeat (first | exact Foc.here | apply Foc.there)) rfl (by rw [fc_len hl]; omega)) rfl ?_
  rintro ⟨⟩ -
  rw [show 0 + 0 + (k : Int).toNat * 1 = k by omega, fc_set _ hl hkl]
  refine OG.nil ?_
  refine QG.then ?_
  refine CG.seq ?_
  refine CG.region ?_
  refine OG.yield (Yield.assign rfl) rfl ?_
  refine OG.nil ?_
  refine QG.then ?_
  refine CG.ret ?_
  exact QG.ret1 rfl rfl () trivial rfl (Imp.trans (by repeat (first | exact Imp.refl _ | exact Imp.none _ | apply Imp.pull (by repeat (first | exact Ext.here | apply Ext.there)) | apply Imp.trans Imp.drop)) (f_close (a, c) (by rw [List.length_set]; exact hl)))
theorem take_range {f : Nat} {own qs : List Int} (p : Int) (hp : ¬ isP qs p) : Ctr Try.prog W0 73 [.pointer (some ⟨f, 0, none⟩), .int .i64 p] (F f own qs :: Fr) (fun _ : Unit => True) (fun _ => .tuple #[.int .i64 0, .int .i64 2]) (fun _ => F f own qs :: Fr) := by
  refine Ctr.of_body Try.func73 rfl Try.ntmps73 rfl ?_
  refine CG.seq ?_
  refine CG.region ?_
  refine OG.yield (Yield.assign rfl) rfl ?_
  refine OG.yield (Yield.assign rfl) rfl ?_
  refine OG.nil ?_
  refine QG.then ?_
  refine CG.seq ?_
  refine CG.seq ?_
  refine CG.region ?_
  refine OG.yield (Yield.move rfl) rfl ?_
  refine OG.yield (Yield.move rfl) rfl ?_
  refine OG.callo call71 rfl (Imp.refl _) (part_spec W0 Fr p) rfl ?_
  rintro ⟨⟩ -
  rw [decide_eq_false hp]
  refine OG.yield (Yield.not rfl) rfl ?_
  refine OG.nil ?_
  refine QG.then ?_
  refine CG.cond_t rfl ?_
  refine CG.seq ?_
  refine CG.region ?_
  refine OG.yield (Yield.assign rfl) rfl ?_
  refine OG.yield (Yield.assign rfl) rfl ?_
  refine OG.nil ?_
  refine QG.then ?_
  refine CG.ret ?_
  refine QG.pass_ret ?_
  exact QG.ret2 rfl rfl rfl () trivial rfl (by repeat (first | exact Imp.refl _ | exact Imp.none _ | apply Imp.pull (by repeat (first | exact Ext.here | apply Ext.there)) | apply Imp.trans Imp.drop))
theorem take_quota {f : Nat} {own qs : List Int} (p : Int) (hq : ∀ q ∈ qs, 0 ≤ q ∧ q ≤ 1024) (hp : isP qs p) (hl : left own qs p ≤ 0) : Ctr Try.prog W0 73 [.pointer (some ⟨f, 0, none⟩), .int .i64 p] (F f own qs :: Fr) (fun _ : Unit => True) (fun _ => .tuple #[.int .i64 0, .int .i64 141]) (fun _ => F f own qs :: Fr) := by
  refine Ctr.of_body Try.func73 rfl Try.ntmps73 rfl ?_
  refine CG.seq ?_
  refine CG.region ?_
  refine OG.yield (Yield.assign rfl) rfl ?_
  refine OG.yield (Yield.assign rfl) rfl ?_
  refine OG.nil ?_
  refine QG.then ?_
  refine CG.seq ?_
  refine CG.seq ?_
  refine CG.region ?_
  refine OG.yield (Yield.move rfl) rfl ?_
  refine OG.yield (Yield.move rfl) rfl ?_
  refine OG.callo call71 rfl (Imp.refl _) (part_spec W0 Fr p) rfl ?_
  rintro ⟨⟩ -
  rw [decide_eq_true hp]
  refine OG.yield (Yield.not rfl) rfl ?_
  refine OG.nil ?_
  refine QG.then ?_
  refine CG.cond_f rfl ?_
  refine CG.skip ?_
  refine QG.then ?_
  refine CG.seq ?_
  refine CG.seq ?_
  refine CG.region ?_
  refine OG.yield (Yield.move rfl) rfl ?_
  refine OG.yield (Yield.move rfl) rfl ?_
  refine OG.callo call30 rfl (Imp.refl _) (left_spec W0 Fr p hq) rfl ?_
  rintro ⟨⟩ -
  refine OG.yield (by first | exact Yield.as (Yield.leq rfl rfl) (bT (by omega)) | exact Yield.as (Yield.leq rfl rfl) (bF (by omega)) | exact Yield.leq rfl rfl) rfl ?_
  refine OG.nil ?_
  refine QG.then ?_
  refine CG.cond_t rfl ?_
  refine CG.seq ?_
  refine CG.region ?_
  refine OG.yield (Yield.assign rfl) rfl ?_
  refine OG.yield (Yield.assign rfl) rfl ?_
  refine OG.nil ?_
  refine QG.then ?_
  refine CG.ret ?_
  refine QG.pass_ret ?_
  exact QG.ret2 rfl rfl rfl () trivial rfl (by repeat (first | exact Imp.refl _ | exact Imp.none _ | apply Imp.pull (by repeat (first | exact Ext.here | apply Ext.there)) | apply Imp.trans Imp.drop))
theorem take_ok {f n : Nat} {own qs : List Int} (p : Int) (hq : ∀ q ∈ qs, 0 ≤ q ∧ q ≤ 1024) (hp : isP qs p) (hlf : 0 < left own qs p) (hn : own.findIdx? (fun x => decide (x = -1)) = some n) : Ctr Try.prog W0 73 [.pointer (some ⟨f, 0, none⟩), .int .i64 p] (F f own qs :: Fr) (fun _ : Unit => True) (fun _ => .tuple #[.int .i64 n, .int .i64 0]) (fun _ => F f (own.set n p) qs :: Fr) := by
  obtain ⟨hnl, hn1, hn2⟩ := List.findIdx?_eq_some_iff_getElem.1 hn
  refine Ctr.of_body Try.func73 rfl Try.ntmps73 rfl ?_
  refine CG.seq ?_
  refine CG.region ?_
  refine OG.yield (Yield.assign rfl) rfl ?_
  refine OG.yield (Yield.assign rfl) rfl ?_
  refine OG.nil ?_
  refine QG.then ?_
  refine CG.seq ?_
  refine CG.seq ?_
  refine CG.region ?_
  refine OG.yield (Yield.move rfl) rfl ?_
  refine OG.yield (Yield.move rfl) rfl ?_
  refine OG.callo call71 rfl (Imp.refl _) (part_spec W0 Fr p) rfl ?_
  rintro ⟨⟩ -
  rw [decide_eq_true hp]
  refine OG.yield (Yield.not rfl) rfl ?_
  refine OG.nil ?_
  refine QG.then ?_
  refine CG.cond_f rfl ?_
  refine CG.skip ?_
  refine QG.then ?_
  refine CG.seq ?_
  refine CG.seq ?_
  refine CG.region ?_
  refine OG.yield (Yield.move rfl) rfl ?_
  refine OG.yield (Yield.move rfl) rfl ?_
  refine OG.callo call30 rfl (Imp.refl _) (left_spec W0 Fr p hq) rfl ?_
  rintro ⟨⟩ -
  refine OG.yield (by first | exact Yield.as (Yield.leq rfl rfl) (bT (by omega)) | exact Yield.as (Yield.leq rfl rfl) (bF (by omega)) | exact Yield.leq rfl rfl) rfl ?_
  refine OG.nil ?_
  refine QG.then ?_
  refine CG.cond_f rfl ?_
  refine CG.skip ?_
  refine QG.then ?_
  refine CG.ex (A := F f own qs) (by repeat (first | exact Ext.here | apply Ext.there)) f_open ?_
  rintro ⟨a, c⟩ hl
  refine CG.imp star_open ?_
  dsimp only [FO, List.cons_append, List.nil_append]
  refine CG.seq ?_
  refine CG.seq ?_
  refine CG.region ?_
  refine OG.yield (Yield.move rfl) rfl ?_
  refine OG.yield (Yield.nilCheck rfl) rfl ?_
  refine OG.yield (Yield.fieldAddr fa144_1 rfl) rfl ?_
  refine OG.yield (Yield.load (v := .int .i64 own.length) ti3 rfl (Cel.of_blk (b := f) (by repeat (first | exact Ext.here | apply Ext.there)) (fc_tot hl))) rfl ?_
  refine OG.yield (Yield.move rfl) rfl ?_
  refine OG.nil ?_
  refine QG.then ?_
  refine CG.block ?_
  refine CG.loop (fun i : Nat => i ≤ n) (fun i => [(0, .pointer (some ⟨f, 0, none⟩)), (1, .int .i64 p), (18, .int .i64 own.length), (19, .int .i64 i)]) (fun _ => FO f own qs (a, c) ++ Fr) (fun i => n - i) 0 (Nat.zero_le _) (by repeat (first | exact Env.sub_nil _ | refine Env.sub_cons rfl ?_)) (Imp.refl _) ?_
  intro i hi
  have hi' : i < own.length := by omega
  have hget : own[i]? = some own[i] := by simp [hi']
  dsimp only [FO, List.cons_append, List.nil_append]
  refine CG.seq ?_
  refine CG.region ?_
  refine OG.yield (by first | exact Yield.as (Yield.lss rfl rfl) (bT (by omega)) | exact Yield.as (Yield.lss rfl rfl) (bF (by omega)) | exact Yield.lss rfl rfl) rfl ?_
  refine OG.nil ?_
  refine QG.then ?_
  refine CG.seq ?_
  refine CG.cond_t rfl ?_
  refine CG.skip ?_
  refine QG.then ?_
  refine CG.seq ?_
  refine CG.block ?_
  refine CG.seq ?_
  refine CG.region ?_
  refine OG.yield (Yield.move rfl) rfl ?_
  refine OG.yield (Yield.assign rfl) rfl ?_
  refine OG.nil ?_
  refine QG.then ?_
  refine CG.seq ?_
  refine CG.region ?_
  refine OG.yield (Yield.move rfl) rfl ?_
  refine OG.yield (Yield.move rfl) rfl ?_
  refine OG.yield (Yield.nilCheck rfl) rfl ?_
  refine OG.yield (Yield.fieldAddr fa144_0 rfl) rfl ?_
  refine OG.yield (Yield.index_array Try.underlying142 ti3 rfl rfl (by omega) (by omega)) rfl ?_
  refine OG.yield (Yield.load (v := .int .i64 own[i]) ti3 rfl (Cel.of_blk (b := f) (by repeat (first | exact Ext.here | apply Ext.there)) (by rw [show 0 + 0 + (i : Int).toNat * 1 = i by omega]; exact fc_get hl hget))) rfl ?_
  refine OG.yield (Yield.eql rfl rfl) rfl ?_
  refine OG.nil ?_
  refine QG.then ?_
  refine CG.cond rfl (fun hc => ?_) (fun hc => ?_)
  · try replace hc := of_decide_eq_true hc
    have hin : i = n := by
      rcases Nat.lt_or_ge i n with h | h
      · exact absurd (decide_eq_true hc) (hn2 i h)
      · omega
    subst hin
    refine CG.seq ?_
    refine CG.region ?_
    refine OG.yield (Yield.move rfl) rfl ?_
    refine OG.yield (Yield.move rfl) rfl ?_
    refine OG.yield (Yield.move rfl) rfl ?_
    refine OG.yield (Yield.nilCheck rfl) rfl ?_
    refine OG.yield (Yield.fieldAddr fa144_0 rfl) rfl ?_
    refine OG.yield (Yield.index_array Try.underlying142 ti3 rfl rfl (by omega) (by omega)) rfl ?_
    refine OG.eff (Eff.store1 ti3 rfl rfl (by repeat (first | exact Foc.here | apply Foc.there)) rfl (by rw [fc_len hl]; omega)) rfl ?_
    rintro ⟨⟩ -
    rw [show 0 + 0 + (i : Int).toNat * 1 = i by omega, fc_set _ hl hi']
    refine OG.nil ?_
    refine QG.then ?_
    refine CG.seq ?_
    refine CG.region ?_
    refine OG.yield (Yield.move rfl) rfl ?_
    refine OG.yield (Yield.assign rfl) rfl ?_
    refine OG.yield (Yield.assign rfl) rfl ?_
    refine OG.nil ?_
    refine QG.then ?_
    refine CG.ret ?_
    refine QG.block_ret ?_
    refine QG.pass_ret ?_
    refine QG.pass_ret ?_
    refine QG.block_ret ?_
    refine QG.pass_ret ?_
    exact QG.ret2 rfl rfl rfl () trivial rfl (Imp.trans (by repeat (first | exact Imp.refl _ | exact Imp.none _ | apply Imp.pull (by repeat (first | exact Ext.here | apply Ext.there)) | apply Imp.trans Imp.drop)) (f_close (a, c) (by rw [List.length_set]; exact hl)))
  · try replace hc := of_decide_eq_false hc
    have hin : i < n := by
      rcases Nat.lt_or_ge i n with h | h
      · exact h
      · have : i = n := by omega
        subst this
        exact absurd (of_decide_eq_true hn1) hc
    refine CG.skip ?_
    refine QG.block_normal ?_
    refine QG.then ?_
    refine CG.region ?_
    refine OG.yield (Yield.add rfl rfl (w64 (by omega) (by omega))) rfl ?_
    refine OG.yield (Yield.move rfl) rfl ?_
    refine OG.nil ?_
    exact QG.next (i + 1) (show i + 1 ≤ n by omega) (show n - (i + 1) < n - i by omega) (by repeat (first | exact Env.sub_nil _ | refine Env.sub_cons rfl ?_)) (by repeat (first | exact Imp.refl _ | exact Imp.none _ | apply Imp.pull (by repeat (first | exact Ext.here | apply Ext.there)) | apply Imp.trans Imp.drop))
end
end Go.Proofs.Ytmlfcfbblfcpdaa.Fz
