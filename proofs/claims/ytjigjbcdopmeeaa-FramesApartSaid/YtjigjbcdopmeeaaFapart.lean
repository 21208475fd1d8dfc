/- FramesApart: nobody's frames are ever another one's: the law returns true and changes nothing that was there. -/
import Derived.Test.YtjigjbcdopmeeaaFothers
namespace Go.Proofs.Ytjigjbcdopmeeaa.framesApart
open Go Go.Sl Go.RowKit Go.Proofs Go.Proofs.Ytjigjbcdopmeeaa.T Go.Proofs.Ytjigjbcdopmeeaa.Fz Go.Proofs.Ytjigjbcdopmeeaa.framesOthers
set_option linter.unusedVariables false
set_option linter.unusedSimpArgs false
set_option maxRecDepth 100000
/-- How many are owned by somebody below k. -/
def below (own : List Int) (k : Nat) : Nat := own.countP fun x => decide (0 ≤ x ∧ x < (k : Int))
theorem below_zero (own : List Int) : below own 0 = 0 := by unfold below; rw [List.countP_eq_zero]; intro x _; simp only [decide_eq_true_eq]; omega
theorem below_succ (own : List Int) (k : Nat) : below own (k + 1) = below own k + cnt own k := by
  unfold below cnt
  induction own with
  | nil => rfl
  | cons x l ih =>
    rw [List.countP_cons, List.countP_cons, List.count_cons, ih]
    by_cases h1 : 0 ≤ x ∧ x < (k : Int)
    · rw [if_pos (by simp; omega), if_pos (by simp; omega), if_neg (by simp; omega)]; omega
    · by_cases h2 : x = (k : Int)
      · rw [if_pos (by simp; omega), if_neg (by simp; omega), if_pos (by simp; omega)]; omega
      · rw [if_neg (by simp; omega), if_neg (by simp; omega), if_neg (by simp; omega)]; omega
theorem below_le (own : List Int) (k : Nat) : below own k ≤ own.length := List.countP_le_length
theorem below_all {own qs : List Int} (h : Inv own qs) : below own qs.length + cnt own (-1) = own.length := by
  have hw := h.who
  clear h
  unfold below cnt
  induction own with
  | nil => rfl
  | cons x l ih =>
    have ih := ih fun y hy => hw y (by simp [hy])
    have hx := hw x (by simp)
    rw [List.countP_cons, List.count_cons, List.length_cons]
    rcases hx with hx | hx
    · rw [if_neg (by simp; omega), if_pos (by simp; omega)]; omega
    · rw [if_pos (by simp; omega), if_neg (by simp; omega)]; omega
/-- The keys of the map are frames of those below k, and the first j of k's own. -/
def Keys (own qs : List Int) (k j : Nat) (M : List (Int × Int)) : Prop := ∀ y, mget M y ≠ none → (∃ n o : Int, (∃ i : Nat, y = i ∧ own[i]? = some o) ∧ 0 ≤ o ∧ o < k) ∨ y ∈ (held own qs k).take j
theorem keys_fresh {own qs : List Int} {k j : Nat} {M : List (Int × Int)} (h : Keys own qs k j M) (hp : isP qs k) {n : Nat} (hg : (held own qs k)[j]? = some (n : Int)) (ho : own[n]? = some (k : Int)) : mget M (n : Int) = none := by
  cases hm : mget M (n : Int) with
  | none => rfl
  | some v =>
    exfalso
    rcases h n (by rw [hm]; simp) with ⟨_, o, ⟨i, hi, hoi⟩, h1, h2⟩ | h3
    · have : i = n := by omega
      subst this
      rw [ho] at hoi; have := Option.some.inj hoi; omega
    · have hnd : (held own qs k).Nodup := by unfold held; rw [if_pos hp]; exact heldI_nodup _ _ _
      obtain ⟨i, hi, he⟩ := List.getElem_of_mem h3
      rw [List.length_take] at hi
      rw [List.getElem_take] at he
      obtain ⟨hj, hje⟩ := List.getElem?_eq_some_iff.1 hg
      have := (List.getElem_inj hnd (h₀ := by omega) (h₁ := hj)).1 (he.trans hje.symm)
      omega
theorem keys_step {own qs : List Int} {k j : Nat} {M : List (Int × Int)} (h : Keys own qs k j M) {n : Nat} (hg : (held own qs k)[j]? = some (n : Int)) (v : Int) : Keys own qs k (j + 1) (mset M (n : Int) v) := by
  intro y hy
  rw [mget_mset] at hy
  by_cases hyn : (n : Int) = y
  · subst hyn
    refine .inr ?_
    obtain ⟨hj, hje⟩ := List.getElem?_eq_some_iff.1 hg
    rw [List.take_succ_eq_append_getElem hj, hje]; simp
  · rw [if_neg hyn] at hy
    rcases h y hy with h1 | h1
    · exact .inl h1
    · refine .inr ?_
      exact List.mem_of_mem_take (i := j) (by rw [List.take_take, Nat.min_eq_left (by omega)]; exact h1)
theorem keys_next {own qs : List Int} {k : Nat} {M : List (Int × Int)} (h : Keys own qs k (held own qs k).length M) (hp : isP qs k) : Keys own qs (k + 1) 0 M := by
  intro y hy
  rcases h y hy with ⟨n, o, h1, h2, h3⟩ | h1
  · exact .inl ⟨n, o, h1, h2, by omega⟩
  · rw [List.take_length] at h1
    unfold held at h1
    rw [if_pos hp, heldI_mem] at h1
    obtain ⟨n, rfl, _, ho⟩ := h1
    exact .inl ⟨0, k, ⟨n, rfl, ho⟩, by omega, by omega⟩
def vi (x : Int) : Value := .int .i64 x
theorem keyInt : KeyOK Try.prog 3 vi := KeyOK.int Try.underlying3
structure St where
  i : Nat
  own : List Int
structure St.OK (qs : List Int) (tn m : Nat) (s : St) : Prop where
  im : s.i ≤ m
  inv : Inv s.own qs
  len : s.own.length = tn
def St.env (a1 : Option Addr) (m c1 f tn : Nat) (a5 : Option Addr) (ql c5 : Nat) (s : St) : Env := [(1, .slice a1 m c1), (5, .slice a5 ql c5), (6, .int .i64 tn), (8, .pointer (some ⟨f, 0, none⟩)), (10, .int .i64 s.i)]
abbrev St.G (W : World) (f : Nat) (qs : List Int) (a5 : Option Addr) (c5 : Nat) (s : St) : List HProp := [F f s.own qs, oiv a5 c5 qs, old W]
set_option maxHeartbeats 8000000 in
theorem walk (W : World) {a0 a1 : Option Addr} {c0 c1 : Nat} {quotas : List Int} {ops : List FAct} (hqs0 : SlAt W 1 a0 quotas.length ((quotas.map (intC .i64)).flatten)) (hops : SlAt W 3 a1 ops.length ((ops.map FAct.cells).flatten)) :
    Ctr Try.prog W 5 [.slice a0 quotas.length c0, .slice a1 ops.length c1] [old W] (fun _ : Unit => True) (fun _ => .bool true) (fun _ => [old W]) := by
  refine Ctr.of_body Try.func5 rfl Try.ntmps5 rfl ?_
  refine CG.seq ?_
  refine CG.region ?_
  refine OG.yield (Yield.assign rfl) rfl ?_
  refine OG.nil ?_
  refine QG.then ?_
  refine CG.seq ?_
  refine CG.seq ?_
  refine CG.region ?_
  refine OG.callo call12 rfl (Imp.refl _) (works_spec W _) rfl ?_
  rintro ⟨⟩ -
  refine OG.yield (Yield.not rfl) rfl ?_
  refine OG.nil ?_
  refine QG.then ?_
  refine CG.cond_f rfl ?_
  refine CG.skip ?_
  refine QG.then ?_
  refine CG.seq ?_
  refine CG.seq ?_
  rcases (show 8 < quotas.length ∨ (quotas.length ≤ 8 ∧ 300 < ops.length) ∨ (quotas.length ≤ 8 ∧ ops.length ≤ 300) by omega) with hp | hp | hp
  · skip
    refine CG.region ?_
    refine OG.yield (Yield.move rfl) rfl ?_
    refine OG.yield (Yield.len_slice Try.underlying29 rfl rfl) rfl ?_
    refine OG.yield (by first | exact Yield.as (Yield.gtr rfl rfl) (bT (by omega)) | exact Yield.as (Yield.gtr rfl rfl) (bF (by omega)) | exact Yield.gtr rfl rfl) rfl ?_
    refine OG.yield (Yield.move rfl) rfl ?_
    refine OG.guard_no rfl rfl rfl rfl rfl (by decide) (by decide) ?_
    refine OG.guard_no rfl rfl rfl rfl rfl (by decide) (by decide) ?_
    refine OG.guard_no rfl rfl rfl rfl rfl (by decide) (by decide) ?_
    refine OG.yield (by first | exact Yield.pick_t rfl rfl | exact Yield.pick_f rfl rfl | exact Yield.pick rfl (fun _ => rfl) (fun _ => rfl)) rfl ?_
    refine OG.nil ?_
    refine QG.then ?_
    refine CG.cond_t rfl ?_
    refine CG.seq ?_
    refine CG.region ?_
    refine OG.yield (Yield.assign rfl) rfl ?_
    refine OG.nil ?_
    refine QG.then ?_
    refine CG.ret ?_
    refine QG.pass_ret ?_
    exact QG.ret1 rfl rfl () trivial rfl (by repeat (first | exact Imp.refl _ | exact Imp.none _ | apply Imp.pull (by repeat (first | exact Ext.here | apply Ext.there)) | apply Imp.trans Imp.drop))
  · skip
    refine CG.region ?_
    refine OG.yield (Yield.move rfl) rfl ?_
    refine OG.yield (Yield.len_slice Try.underlying29 rfl rfl) rfl ?_
    refine OG.yield (by first | exact Yield.as (Yield.gtr rfl rfl) (bT (by omega)) | exact Yield.as (Yield.gtr rfl rfl) (bF (by omega)) | exact Yield.gtr rfl rfl) rfl ?_
    refine OG.yield (Yield.move rfl) rfl ?_
    refine OG.guard_yes rfl rfl rfl (by decide) ?_
    refine OG.yield (Yield.move rfl) rfl ?_
    refine OG.guard_yes rfl rfl rfl (by decide) ?_
    refine OG.yield (Yield.len_slice Try.underlying22 rfl rfl) rfl ?_
    refine OG.guard_yes rfl rfl rfl (by decide) ?_
    refine OG.yield (by first | exact Yield.as (Yield.gtr rfl rfl) (bT (by omega)) | exact Yield.as (Yield.gtr rfl rfl) (bF (by omega)) | exact Yield.gtr rfl rfl) rfl ?_
    refine OG.yield (by first | exact Yield.pick_t rfl rfl | exact Yield.pick_f rfl rfl | exact Yield.pick rfl (fun _ => rfl) (fun _ => rfl)) rfl ?_
    refine OG.nil ?_
    refine QG.then ?_
    refine CG.cond_t rfl ?_
    refine CG.seq ?_
    refine CG.region ?_
    refine OG.yield (Yield.assign rfl) rfl ?_
    refine OG.nil ?_
    refine QG.then ?_
    refine CG.ret ?_
    refine QG.pass_ret ?_
    exact QG.ret1 rfl rfl () trivial rfl (by repeat (first | exact Imp.refl _ | exact Imp.none _ | apply Imp.pull (by repeat (first | exact Ext.here | apply Ext.there)) | apply Imp.trans Imp.drop))
  · skip
    refine CG.region ?_
    refine OG.yield (Yield.move rfl) rfl ?_
    refine OG.yield (Yield.len_slice Try.underlying29 rfl rfl) rfl ?_
    refine OG.yield (by first | exact Yield.as (Yield.gtr rfl rfl) (bT (by omega)) | exact Yield.as (Yield.gtr rfl rfl) (bF (by omega)) | exact Yield.gtr rfl rfl) rfl ?_
    refine OG.yield (Yield.move rfl) rfl ?_
    refine OG.guard_yes rfl rfl rfl (by decide) ?_
    refine OG.yield (Yield.move rfl) rfl ?_
    refine OG.guard_yes rfl rfl rfl (by decide) ?_
    refine OG.yield (Yield.len_slice Try.underlying22 rfl rfl) rfl ?_
    refine OG.guard_yes rfl rfl rfl (by decide) ?_
    refine OG.yield (by first | exact Yield.as (Yield.gtr rfl rfl) (bT (by omega)) | exact Yield.as (Yield.gtr rfl rfl) (bF (by omega)) | exact Yield.gtr rfl rfl) rfl ?_
    refine OG.yield (by first | exact Yield.pick_t rfl rfl | exact Yield.pick_f rfl rfl | exact Yield.pick rfl (fun _ => rfl) (fun _ => rfl)) rfl ?_
    refine OG.nil ?_
    refine QG.then ?_
    refine CG.cond_f rfl ?_
    refine CG.skip ?_
    refine QG.then ?_
    refine CG.seq ?_
    refine CG.region ?_
    refine OG.yield (Yield.assign rfl) rfl ?_
    refine OG.nil ?_
    refine QG.then ?_
    refine CG.seq ?_
    refine CG.region ?_
    refine OG.yield (Yield.assign rfl) rfl ?_
    refine OG.nil ?_
    refine QG.then ?_
    refine CG.seq ?_
    refine CG.seq ?_
    refine CG.region ?_
    refine OG.yield (Yield.assign rfl) rfl ?_
    refine OG.nil ?_
    refine QG.then ?_
    refine CG.block ?_
    refine CG.loop (fun s : Nat × PA => s.1 ≤ quotas.length) (fun s => [(0, .slice a0 quotas.length c0), (1, .slice a1 ops.length c1), (5, .slice s.2.1 (qsf (quotas.take s.1)).length s.2.2), (6, .int .i64 (1 + (qsf (quotas.take s.1)).sum)), (7, .int .i64 s.1)]) (fun s => [oiv s.2.1 s.2.2 (qsf (quotas.take s.1)), old W]) (fun s => quotas.length - s.1) (0, none, 0) (Nat.zero_le _) (by repeat (first | exact Env.sub_nil _ | refine Env.sub_cons rfl ?_)) (osl_nil (E := 3) (sz := 1)) ?_
    rintro ⟨i, a7, c7⟩ (hi : i ≤ quotas.length)
    dsimp only
    refine CG.seq ?_
    refine CG.seq ?_
    refine CG.region ?_
    refine OG.yield (Yield.move rfl) rfl ?_
    refine OG.yield (Yield.move rfl) rfl ?_
    refine OG.yield (Yield.len_slice Try.underlying29 rfl rfl) rfl ?_
    refine OG.yield (by first | exact Yield.as (Yield.lss rfl rfl) (bT (by omega)) | exact Yield.as (Yield.lss rfl rfl) (bF (by omega)) | exact Yield.lss rfl rfl) rfl ?_
    refine OG.nil ?_
    refine QG.then ?_
    refine CG.cond rfl (fun hc => ?_) (fun hc => ?_)
    · try replace hc := of_decide_eq_true hc
      have hi' : i < quotas.length := by omega
      have hget : quotas[i]? = some quotas[i] := by simp [hi']
      generalize quotas[i] = x at hget
      have hqr := qf_range x
      have hqt := qsf_take hget
      have hqs := qsf_sum (quotas.take i)
      have hql := qsf_len (quotas.take i)
      rw [List.length_take] at hqs hql
      have hwx := wrap_u64_range x
      refine CG.pure (fun w hw => (hqs0.old (G := [oiv a7 c7 (qsf (quotas.take i)), old W]) (by repeat (first | exact Ext.here | apply Ext.there))).elem_shape (f := intC .i64) (fun _ => rfl) (by decide) hi' w hw) ?_
      rintro ⟨b0, o0, rfl⟩
      refine CG.skip ?_
      refine QG.then ?_
      refine CG.seq ?_
      refine CG.block ?_
      refine CG.seq ?_
      refine CG.region ?_
      refine OG.yield (Yield.move rfl) rfl ?_
      refine OG.yield (Yield.move rfl) rfl ?_
      refine OG.yield (Yield.move rfl) rfl ?_
      refine OG.yield (Yield.index_slice Try.underlying29 ti3 rfl rfl (by omega) (by omega)) rfl ?_
      refine OG.yield (Yield.load (v := .int .i64 x) ti3 rfl (((hqs0.old (by repeat (first | exact Ext.here | apply Ext.there))).elem (f := intC .i64) (fun _ => rfl) hget) 0 _ rfl)) rfl ?_
      refine OG.yield (Yield.conv Try.underlying24 rfl rfl rfl) rfl ?_
      refine OG.yield (Yield.rem (c := qf x) rfl rfl (by decide) (tmod_pos (by omega) (by omega))) rfl ?_
      refine OG.yield (Yield.conv (c := qf x) Try.underlying3 rfl rfl (w64 (by omega) (by omega))) rfl ?_
      refine OG.effd (Eff.lit1 Try.underlying29 ti3 rfl rfl rfl) rfl ?_
      rintro b47 -
      refine OG.effd (Eff.append (k := 1) (ys := iv [qf x]) rfl rfl rfl Try.underlying29 Try.underlying29 ti3 rfl (by decide) (by repeat (first | exact Foc.here | apply Foc.there)) (SlR.of_osl (a := some ⟨b47, 0, none⟩) (by repeat (first | exact Ext.here | apply Ext.there))) (iv_ones _) (by omega)) rfl ?_
      rintro ⟨a52, c52⟩ -
      rw [show (qsf (quotas.take i)).length + 1 = (qsf (quotas.take (i + 1))).length by rw [hqt, List.length_append]; rfl, ← iv_append, ← hqt]
      refine OG.pure (fun w hw => SlR.shape (SlR.of_osl (W0 := W) (E := 3) (sz := 1) (a := a52) (c := c52) (m := (qsf (quotas.take (i + 1))).length) (xs := iv (qsf (quotas.take (i + 1)))) (by repeat (first | exact Ext.here | apply Ext.there))) (by rw [hqt, iv_append]; simp [iv]) w hw) ?_
      rintro ⟨b52, o52, rfl⟩
      refine OG.yield (Yield.assign rfl) rfl ?_
      refine OG.nil ?_
      refine QG.then ?_
      refine CG.region ?_
      have hq1 : (qsf (quotas.take (i + 1)))[i]? = some (qf x) := by rw [hqt, List.getElem?_append_right (by omega), hql, Nat.min_eq_left hi, Nat.sub_self]; rfl
      have hq1l : i < (qsf (quotas.take (i + 1))).length := (List.getElem?_eq_some_iff.1 hq1).1
      refine OG.yield (Yield.move rfl) rfl ?_
      refine OG.yield (Yield.move rfl) rfl ?_
      refine OG.yield (Yield.move rfl) rfl ?_
      refine OG.yield (Yield.index_slice Try.underlying29 ti3 rfl rfl (by omega) (by omega)) rfl ?_
      refine OG.yield (Yield.load (v := .int .i64 (qf x)) ti3 rfl (by rw [show o52 + (i : Int).toNat * 1 = o52 + i by omega]; exact (SlR.of_osl (a := some ⟨b52, o52, none⟩) (by repeat (first | exact Ext.here | apply Ext.there))).cel (iv_get hq1))) rfl ?_
      refine OG.yield (Yield.add rfl rfl (w64 (by omega) (by omega))) rfl ?_
      refine OG.yield (Yield.assign rfl) rfl ?_
      refine OG.nil ?_
      refine QG.block_normal ?_
      refine QG.then ?_
      refine CG.region ?_
      refine OG.yield (Yield.move rfl) rfl ?_
      refine OG.yield (Yield.add rfl rfl (w64 (by omega) (by omega))) rfl ?_
      refine OG.yield (Yield.assign rfl) rfl ?_
      refine OG.nil ?_
      refine QG.next (i + 1, some ⟨b52, o52, none⟩, c52) (show i + 1 ≤ quotas.length by omega) (show quotas.length - (i + 1) < quotas.length - i by omega) ?_ (by repeat (first | exact Imp.refl _ | exact Imp.none _ | apply Imp.pull (by repeat (first | exact Ext.here | apply Ext.there)) | apply Imp.trans Imp.drop))
      rw [show 1 + (qsf (quotas.take (i + 1))).sum = 1 + (qsf (quotas.take i)).sum + qf x by rw [hqt, sum_snoc]; omega]; exact (by repeat (first | exact Env.sub_nil _ | refine Env.sub_cons rfl ?_))
    · try replace hc := of_decide_eq_false hc
      refine CG.exit ?_
      refine QG.pass_exit ?_
      refine QG.pass_exit ?_
      refine QG.block_exit ?_
      refine QG.then ?_
      have hiq : i = quotas.length := by omega
      subst hiq
      rw [List.take_length]
      have hqs := qsf_sum quotas
      have hql := qsf_len quotas
      obtain ⟨tn, htn⟩ : ∃ tn : Nat, 1 + (qsf quotas).sum = (tn : Int) := ⟨(1 + (qsf quotas).sum).toNat, by omega⟩
      have hne := qsf_nerr (t := tn) (l := quotas) (by omega) htn.symm
      have hqm := qsf_mem (l := quotas)
      generalize qsf quotas = qs at hqs hql htn hne hqm ⊢
      rw [htn]
      have hq8 : qs.length ≤ 8 := by omega
      refine CG.seq ?_
      refine CG.region ?_
      refine OG.yield (Yield.move rfl) rfl ?_
      refine OG.effd (Eff.lit0 Try.underlying29 ti3 rfl) rfl ?_
      rintro b57 -
      refine OG.yield (Yield.move rfl) rfl ?_
      refine OG.effd (Eff.append0 (k := qs.length) (ys := iv qs) rfl rfl rfl Try.underlying29 Try.underlying29 ti3 rfl (by decide) (by repeat (first | exact Foc.here | apply Foc.there)) (SlR.of_osl (E := 3) (a := a7) (c := c7) (by repeat (first | exact Ext.here | apply Ext.there))) (iv_ones qs) (by omega)) rfl ?_
      rintro ⟨a59, c59⟩ -
      refine OG.callo call13 rfl ((by repeat (first | exact Imp.refl _ | exact Imp.none _ | apply Imp.pull (by repeat (first | exact Ext.here | apply Ext.there)) | apply Imp.trans Imp.drop))) (new_ok W _ (total := tn) (qs := qs) (by exact SlR.of_osl (E := 3) (a := a59) (c := c59) (by repeat (first | exact Ext.here | apply Ext.there))) hne) rfl ?_
      rintro f -
      refine OG.yield (Yield.move rfl) rfl ?_
      refine OG.yield (Yield.extract rfl rfl) rfl ?_
      refine OG.yield (Yield.extract rfl rfl) rfl ?_
      refine OG.yield (Yield.assign rfl) rfl ?_
      refine OG.yield (Yield.assign rfl) rfl ?_
      refine OG.nil ?_
      refine QG.then ?_
      refine CG.seq ?_
      refine CG.seq ?_
      refine CG.region ?_
      refine OG.yield (Yield.move rfl) rfl ?_
      refine OG.callo call14 rfl (Imp.refl _) (num_spec W _ _) rfl ?_
      rintro ⟨⟩ -
      refine OG.yield (by first | exact Yield.as (Yield.neq rfl rfl) (bT (by omega)) | exact Yield.as (Yield.neq rfl rfl) (bF (by omega)) | exact Yield.neq rfl rfl) rfl ?_
      refine OG.yield (Yield.move rfl) rfl ?_
      refine OG.guard_yes rfl rfl rfl (by decide) ?_
      refine OG.yield (Yield.move rfl) rfl ?_
      refine OG.guard_yes rfl rfl rfl (by decide) ?_
      refine OG.yield (by first | exact Yield.ptr_nil Try.underlying25 rfl rfl | exact Yield.nil_nil Try.underlying25 rfl rfl) rfl ?_
      refine OG.yield (by first | exact Yield.pick_t rfl rfl | exact Yield.pick_f rfl rfl | exact Yield.pick rfl (fun _ => rfl) (fun _ => rfl)) rfl ?_
      refine OG.nil ?_
      refine QG.then ?_
      refine CG.cond_f rfl ?_
      refine CG.skip ?_
      refine QG.then ?_
      refine CG.seq ?_
      refine CG.seq ?_
      refine CG.region ?_
      refine OG.yield (Yield.assign rfl) rfl ?_
      refine OG.nil ?_
      refine QG.then ?_
      refine CG.block ?_
      refine CG.loop (fun s : St => s.OK qs tn ops.length) (St.env a1 ops.length c1 f tn a7 qs.length c7) (St.G W f qs a7 c7) (fun s => ops.length - s.i) ⟨0, List.replicate tn (-1)⟩ ⟨Nat.zero_le _, inv_new hne, by simp⟩ (by repeat (first | exact Env.sub_nil _ | refine Env.sub_cons rfl ?_)) (by repeat (first | exact Imp.refl _ | exact Imp.none _ | apply Imp.pull (by repeat (first | exact Ext.here | apply Ext.there)) | apply Imp.trans Imp.drop)) ?_
      rintro ⟨i, own⟩ ⟨im, inv, hol⟩
      unfold St.env
      dsimp only at im inv hol ⊢
      refine CG.seq ?_
      refine CG.seq ?_
      refine CG.region ?_
      refine OG.yield (Yield.move rfl) rfl ?_
      refine OG.yield (Yield.move rfl) rfl ?_
      refine OG.yield (Yield.len_slice Try.underlying22 rfl rfl) rfl ?_
      refine OG.yield (by first | exact Yield.as (Yield.lss rfl rfl) (bT (by omega)) | exact Yield.as (Yield.lss rfl rfl) (bF (by omega)) | exact Yield.lss rfl rfl) rfl ?_
      refine OG.nil ?_
      refine QG.then ?_
      refine CG.cond rfl (fun hc => ?_) (fun hc => ?_)
      · try replace hc := of_decide_eq_true hc
        have h1 : i < ops.length := by omega
        have hget : ops[i]? = some ops[i] := by simp [h1]
        generalize ops[i] = op at hget
        refine CG.pure (fun w hw => (hops.old (G := St.G W f qs a7 c7 ⟨i, own⟩) (by repeat (first | exact Ext.here | apply Ext.there))).elem_shape FAct.len (by decide) h1 w hw) ?_
        rintro ⟨b, o, rfl⟩
        have hrow : ∀ {G R : List HProp}, Ext G (old W) R → Row W G b (o + i * 3) op.cells := fun x => (hops.old x).elem FAct.len hget
        refine CG.skip ?_
        refine QG.then ?_
        refine CG.seq ?_
        refine CG.block ?_
        refine CG.seq ?_
        refine CG.region ?_
        refine OG.yield (Yield.move rfl) rfl ?_
        refine OG.yield (Yield.move rfl) rfl ?_
        refine OG.yield (Yield.index_slice Try.underlying22 ti32 rfl rfl (by omega) (by omega)) rfl ?_
        refine OG.yield (Yield.fieldAddr fa32_1 rfl) rfl ?_
        refine OG.yield (Yield.load (v := .int .i64 op.Part) ti3 rfl ((hrow (by repeat (first | exact Ext.here | apply Ext.there))) 1 _ rfl)) rfl ?_
        refine OG.yield (Yield.assign rfl) rfl ?_
        refine OG.nil ?_
        refine QG.then ?_
        refine CG.cut (fun _ : Unit => True) (fun _ => (12, .bool (decide (isP qs op.Part))) :: (11, .int .i64 op.Part) :: St.env (some ⟨b, o, none⟩) ops.length c1 f tn a7 qs.length c7 ⟨i, own⟩) (fun _ => St.G W f qs a7 c7 ⟨i, own⟩) ?_ ?_
        · skip
          rcases (show op.Part < 0 ∨ (0 ≤ op.Part ∧ ¬ op.Part < qs.length) ∨ (0 ≤ op.Part ∧ op.Part < qs.length) by omega) with hh | hh | hh
          · skip
            refine CG.region ?_
            refine OG.yield (Yield.move rfl) rfl ?_
            refine OG.yield (by first | exact Yield.as (Yield.geq rfl rfl) (bT (by omega)) | exact Yield.as (Yield.geq rfl rfl) (bF (by omega)) | exact Yield.geq rfl rfl) rfl ?_
            refine OG.yield (Yield.move rfl) rfl ?_
            refine OG.guard_no rfl rfl rfl rfl rfl (by decide) (by decide) ?_
            refine OG.guard_no rfl rfl rfl rfl rfl (by decide) (by decide) ?_
            refine OG.guard_no rfl rfl rfl rfl rfl (by decide) (by decide) ?_
            refine OG.guard_no rfl rfl rfl rfl rfl (by decide) (by decide) ?_
            refine OG.yield (by first | exact Yield.pick_t rfl rfl | exact Yield.pick_f rfl rfl | exact Yield.pick rfl (fun _ => rfl) (fun _ => rfl)) rfl ?_
            refine OG.yield (Yield.assign rfl) rfl ?_
            refine OG.nil ?_
            first | rw [decide_eq_true (show isP qs op.Part by omega)] | rw [decide_eq_false (show ¬ isP qs op.Part by omega)]
            exact QG.mid () trivial (by repeat (first | exact Env.sub_nil _ | refine Env.sub_cons rfl ?_)) (by repeat (first | exact Imp.refl _ | exact Imp.none _ | apply Imp.pull (by repeat (first | exact Ext.here | apply Ext.there)) | apply Imp.trans Imp.drop))
          · skip
            refine CG.region ?_
            refine OG.yield (Yield.move rfl) rfl ?_
            refine OG.yield (by first | exact Yield.as (Yield.geq rfl rfl) (bT (by omega)) | exact Yield.as (Yield.geq rfl rfl) (bF (by omega)) | exact Yield.geq rfl rfl) rfl ?_
            refine OG.yield (Yield.move rfl) rfl ?_
            refine OG.guard_yes rfl rfl rfl (by decide) ?_
            refine OG.yield (Yield.move rfl) rfl ?_
            refine OG.guard_yes rfl rfl rfl (by decide) ?_
            refine OG.yield (Yield.move rfl) rfl ?_
            refine OG.guard_yes rfl rfl rfl (by decide) ?_
            refine OG.yield (Yield.len_slice Try.underlying29 rfl rfl) rfl ?_
            refine OG.guard_yes rfl rfl rfl (by decide) ?_
            refine OG.yield (by first | exact Yield.as (Yield.lss rfl rfl) (bT (by omega)) | exact Yield.as (Yield.lss rfl rfl) (bF (by omega)) | exact Yield.lss rfl rfl) rfl ?_
            refine OG.yield (by first | exact Yield.pick_t rfl rfl | exact Yield.pick_f rfl rfl | exact Yield.pick rfl (fun _ => rfl) (fun _ => rfl)) rfl ?_
            refine OG.yield (Yield.assign rfl) rfl ?_
            refine OG.nil ?_
            first | rw [decide_eq_true (show isP qs op.Part by omega)] | rw [decide_eq_false (show ¬ isP qs op.Part by omega)]
            exact QG.mid () trivial (by repeat (first | exact Env.sub_nil _ | refine Env.sub_cons rfl ?_)) (by repeat (first | exact Imp.refl _ | exact Imp.none _ | apply Imp.pull (by repeat (first | exact Ext.here | apply Ext.there)) | apply Imp.trans Imp.drop))
          · skip
            refine CG.region ?_
            refine OG.yield (Yield.move rfl) rfl ?_
            refine OG.yield (by first | exact Yield.as (Yield.geq rfl rfl) (bT (by omega)) | exact Yield.as (Yield.geq rfl rfl) (bF (by omega)) | exact Yield.geq rfl rfl) rfl ?_
            refine OG.yield (Yield.move rfl) rfl ?_
            refine OG.guard_yes rfl rfl rfl (by decide) ?_
            refine OG.yield (Yield.move rfl) rfl ?_
            refine OG.guard_yes rfl rfl rfl (by decide) ?_
            refine OG.yield (Yield.move rfl) rfl ?_
            refine OG.guard_yes rfl rfl rfl (by decide) ?_
            refine OG.yield (Yield.len_slice Try.underlying29 rfl rfl) rfl ?_
            refine OG.guard_yes rfl rfl rfl (by decide) ?_
            refine OG.yield (by first | exact Yield.as (Yield.lss rfl rfl) (bT (by omega)) | exact Yield.as (Yield.lss rfl rfl) (bF (by omega)) | exact Yield.lss rfl rfl) rfl ?_
            refine OG.yield (by first | exact Yield.pick_t rfl rfl | exact Yield.pick_f rfl rfl | exact Yield.pick rfl (fun _ => rfl) (fun _ => rfl)) rfl ?_
            refine OG.yield (Yield.assign rfl) rfl ?_
            refine OG.nil ?_
            first | rw [decide_eq_true (show isP qs op.Part by omega)] | rw [decide_eq_false (show ¬ isP qs op.Part by omega)]
            exact QG.mid () trivial (by repeat (first | exact Env.sub_nil _ | refine Env.sub_cons rfl ?_)) (by repeat (first | exact Imp.refl _ | exact Imp.none _ | apply Imp.pull (by repeat (first | exact Ext.here | apply Ext.there)) | apply Imp.trans Imp.drop))
        rintro ⟨⟩ -
        unfold St.env
        refine CG.cut (fun s' : St => s'.i = i ∧ Inv s'.own qs ∧ s'.own.length = tn) (St.env (some ⟨b, o, none⟩) ops.length c1 f tn a7 qs.length c7) (St.G W f qs a7 c7) ?_ ?_
        · skip
          refine CG.seq ?_
          refine CG.region ?_
          refine OG.yield (Yield.move rfl) rfl ?_
          refine OG.yield (Yield.move rfl) rfl ?_
          refine OG.yield (Yield.index_slice Try.underlying22 ti32 rfl rfl (by omega) (by omega)) rfl ?_
          refine OG.yield (Yield.fieldAddr fa32_0 rfl) rfl ?_
          refine OG.yield (Yield.load (v := .int .i64 op.Kind) ti3 rfl ((hrow (by repeat (first | exact Ext.here | apply Ext.there))) 0 _ rfl)) rfl ?_
          refine OG.yield (Yield.eql rfl rfl) rfl ?_
          refine OG.nil ?_
          refine QG.then ?_
          refine CG.cond rfl (fun hc => ?_) (fun hc => ?_)
          · try replace hc := of_decide_eq_true hc
            refine CG.seq ?_
            rcases (show ¬ isP qs op.Part ∨ (isP qs op.Part ∧ left own qs op.Part ≤ 0) ∨ (isP qs op.Part ∧ 0 < left own qs op.Part) by omega) with hk | ⟨hk, hlf⟩ | ⟨hk, hlf⟩
            · skip
              rw [decide_eq_false hk]
              refine CG.region ?_
              refine OG.yield (Yield.move rfl) rfl ?_
              refine OG.yield (Yield.move rfl) rfl ?_
              refine OG.callo call17 rfl ((by repeat (first | exact Imp.refl _ | exact Imp.none _ | apply Imp.pull (by repeat (first | exact Ext.here | apply Ext.there)) | apply Imp.trans Imp.drop))) (left_spec W _ (own := own) op.Part hqm) rfl ?_
              rintro ⟨⟩ -
              refine OG.yield (Yield.assign rfl) rfl ?_
              refine OG.nil ?_
              refine QG.then ?_
              refine CG.seq ?_
              refine CG.region ?_
              refine OG.yield (Yield.move rfl) rfl ?_
              refine OG.yield (Yield.move rfl) rfl ?_
              refine OG.callo call18 rfl ((by repeat (first | exact Imp.refl _ | exact Imp.none _ | apply Imp.pull (by repeat (first | exact Ext.here | apply Ext.there)) | apply Imp.trans Imp.drop))) (take_range W _ (own := own) op.Part hk) rfl ?_
              rintro ⟨⟩ -
              refine OG.yield (Yield.move rfl) rfl ?_
              refine OG.yield (Yield.extract rfl rfl) rfl ?_
              refine OG.yield (Yield.extract rfl rfl) rfl ?_
              refine OG.yield (Yield.assign rfl) rfl ?_
              refine OG.yield (Yield.assign rfl) rfl ?_
              refine OG.nil ?_
              refine QG.then ?_
              refine CG.seq ?_
              refine CG.region ?_
              refine OG.yield (Yield.move rfl) rfl ?_
              refine OG.yield (Yield.move rfl) rfl ?_
              refine OG.callo call14 rfl (Imp.refl _) (num_spec W _ _) rfl ?_
              rintro ⟨⟩ -
              refine OG.yield (by first | exact Yield.as (Yield.neq rfl rfl) (bT (by omega)) | exact Yield.as (Yield.neq rfl rfl) (bF (by omega)) | exact Yield.neq rfl rfl) rfl ?_
              refine OG.yield (by first | exact Yield.bool_samen Try.underlying4 rfl rfl | exact Yield.bool_neq Try.underlying4 rfl rfl) rfl ?_
              refine OG.yield (Yield.move rfl) rfl ?_
              refine OG.guard_yes rfl rfl rfl (by decide) ?_
              refine OG.yield (Yield.move rfl) rfl ?_
              refine OG.guard_yes rfl rfl rfl (by decide) ?_
              refine OG.yield (Yield.move rfl) rfl ?_
              refine OG.guard_no rfl rfl rfl rfl rfl (by decide) (by decide) ?_
              refine OG.guard_no rfl rfl rfl rfl rfl (by decide) (by decide) ?_
              refine OG.guard_no rfl rfl rfl rfl rfl (by decide) (by decide) ?_
              refine OG.guard_no rfl rfl rfl rfl rfl (by decide) (by decide) ?_
              refine OG.guard_no rfl rfl rfl rfl rfl (by decide) (by decide) ?_
              refine OG.guard_no rfl rfl rfl rfl rfl (by decide) (by decide) ?_
              refine OG.guard_yes rfl rfl rfl (by decide) ?_
              refine OG.yield (by first | exact Yield.pick_t rfl rfl | exact Yield.pick_f rfl rfl | exact Yield.pick rfl (fun _ => rfl) (fun _ => rfl)) rfl ?_
              refine OG.yield (by first | exact Yield.pick_t rfl rfl | exact Yield.pick_f rfl rfl | exact Yield.pick rfl (fun _ => rfl) (fun _ => rfl)) rfl ?_
              refine OG.yield (Yield.move rfl) rfl ?_
              refine OG.guard_yes rfl rfl rfl (by decide) ?_
              refine OG.yield (Yield.move rfl) rfl ?_
              refine OG.guard_yes rfl rfl rfl (by decide) ?_
              refine OG.callo call14 rfl (Imp.refl _) (num_spec W _ _) rfl ?_
              rintro ⟨⟩ -
              refine OG.guard_yes rfl rfl rfl (by decide) ?_
              refine OG.yield (by first | exact Yield.as (Yield.eql rfl rfl) (bT (by omega)) | exact Yield.as (Yield.eql rfl rfl) (bF (by omega)) | exact Yield.eql rfl rfl) rfl ?_
              refine OG.guard_yes rfl rfl rfl (by decide) ?_
              refine OG.yield (Yield.move rfl) rfl ?_
              refine OG.guard_no rfl rfl rfl rfl rfl (by decide) (by decide) ?_
              refine OG.guard_no rfl rfl rfl rfl rfl (by decide) (by decide) ?_
              refine OG.guard_no rfl rfl rfl rfl rfl (by decide) (by decide) ?_
              refine OG.guard_no rfl rfl rfl rfl rfl (by decide) (by decide) ?_
              refine OG.guard_no rfl rfl rfl rfl rfl (by decide) (by decide) ?_
              refine OG.guard_no rfl rfl rfl rfl rfl (by decide) (by decide) ?_
              refine OG.guard_un rfl rfl rfl rfl (by decide) (by decide) ?_
              refine OG.guard_un rfl rfl rfl rfl (by decide) (by decide) ?_
              refine OG.guard_un rfl rfl rfl rfl (by decide) (by decide) ?_
              refine OG.guard_un rfl rfl rfl rfl (by decide) (by decide) ?_
              refine OG.guard_un rfl rfl rfl rfl (by decide) (by decide) ?_
              refine OG.guard_un rfl rfl rfl rfl (by decide) (by decide) ?_
              refine OG.guard_no rfl rfl rfl rfl rfl (by decide) (by decide) ?_
              refine OG.guard_yes rfl rfl rfl (by decide) ?_
              refine OG.yield (by first | exact Yield.pick_t rfl rfl | exact Yield.pick_f rfl rfl | exact Yield.pick rfl (fun _ => rfl) (fun _ => rfl)) rfl ?_
              refine OG.yield (by first | exact Yield.pick_t rfl rfl | exact Yield.pick_f rfl rfl | exact Yield.pick rfl (fun _ => rfl) (fun _ => rfl)) rfl ?_
              refine OG.nil ?_
              refine QG.then ?_
              refine CG.cond_f rfl ?_
              refine CG.skip ?_
              exact QG.mid ⟨i, own⟩ ⟨rfl, inv, hol⟩ (by repeat (first | exact Env.sub_nil _ | refine Env.sub_cons rfl ?_)) (by repeat (first | exact Imp.refl _ | exact Imp.none _ | apply Imp.pull (by repeat (first | exact Ext.here | apply Ext.there)) | apply Imp.trans Imp.drop))
            · skip
              rw [decide_eq_true hk]
              refine CG.region ?_
              refine OG.yield (Yield.move rfl) rfl ?_
              refine OG.yield (Yield.move rfl) rfl ?_
              refine OG.callo call17 rfl ((by repeat (first | exact Imp.refl _ | exact Imp.none _ | apply Imp.pull (by repeat (first | exact Ext.here | apply Ext.there)) | apply Imp.trans Imp.drop))) (left_spec W _ (own := own) op.Part hqm) rfl ?_
              rintro ⟨⟩ -
              refine OG.yield (Yield.assign rfl) rfl ?_
              refine OG.nil ?_
              refine QG.then ?_
              refine CG.seq ?_
              refine CG.region ?_
              refine OG.yield (Yield.move rfl) rfl ?_
              refine OG.yield (Yield.move rfl) rfl ?_
              refine OG.callo call18 rfl ((by repeat (first | exact Imp.refl _ | exact Imp.none _ | apply Imp.pull (by repeat (first | exact Ext.here | apply Ext.there)) | apply Imp.trans Imp.drop))) (take_quota W _ (own := own) op.Part hqm hk hlf) rfl ?_
              rintro ⟨⟩ -
              refine OG.yield (Yield.move rfl) rfl ?_
              refine OG.yield (Yield.extract rfl rfl) rfl ?_
              refine OG.yield (Yield.extract rfl rfl) rfl ?_
              refine OG.yield (Yield.assign rfl) rfl ?_
              refine OG.yield (Yield.assign rfl) rfl ?_
              refine OG.nil ?_
              refine QG.then ?_
              refine CG.seq ?_
              refine CG.region ?_
              refine OG.yield (Yield.move rfl) rfl ?_
              refine OG.yield (Yield.move rfl) rfl ?_
              refine OG.callo call14 rfl (Imp.refl _) (num_spec W _ _) rfl ?_
              rintro ⟨⟩ -
              refine OG.yield (by first | exact Yield.as (Yield.neq rfl rfl) (bT (by omega)) | exact Yield.as (Yield.neq rfl rfl) (bF (by omega)) | exact Yield.neq rfl rfl) rfl ?_
              refine OG.yield (by first | exact Yield.bool_samen Try.underlying4 rfl rfl | exact Yield.bool_neq Try.underlying4 rfl rfl) rfl ?_
              refine OG.yield (Yield.move rfl) rfl ?_
              refine OG.guard_yes rfl rfl rfl (by decide) ?_
              refine OG.yield (Yield.move rfl) rfl ?_
              refine OG.guard_yes rfl rfl rfl (by decide) ?_
              refine OG.yield (Yield.move rfl) rfl ?_
              refine OG.guard_yes rfl rfl rfl (by decide) ?_
              refine OG.yield (Yield.move rfl) rfl ?_
              refine OG.guard_yes rfl rfl rfl (by decide) ?_
              refine OG.callo call14 rfl (Imp.refl _) (num_spec W _ _) rfl ?_
              rintro ⟨⟩ -
              refine OG.guard_yes rfl rfl rfl (by decide) ?_
              refine OG.yield (by first | exact Yield.as (Yield.eql rfl rfl) (bT (by omega)) | exact Yield.as (Yield.eql rfl rfl) (bF (by omega)) | exact Yield.eql rfl rfl) rfl ?_
              refine OG.guard_yes rfl rfl rfl (by decide) ?_
              refine OG.yield (Yield.move rfl) rfl ?_
              refine OG.guard_yes rfl rfl rfl (by decide) ?_
              refine OG.yield (by first | exact Yield.as (Yield.gtr rfl rfl) (bT (by omega)) | exact Yield.as (Yield.gtr rfl rfl) (bF (by omega)) | exact Yield.gtr rfl rfl) rfl ?_
              refine OG.guard_yes rfl rfl rfl (by decide) ?_
              refine OG.yield (by first | exact Yield.bool_samen Try.underlying4 rfl rfl | exact Yield.bool_neq Try.underlying4 rfl rfl) rfl ?_
              refine OG.guard_yes rfl rfl rfl (by decide) ?_
              refine OG.yield (by first | exact Yield.pick_t rfl rfl | exact Yield.pick_f rfl rfl | exact Yield.pick rfl (fun _ => rfl) (fun _ => rfl)) rfl ?_
              refine OG.yield (by first | exact Yield.pick_t rfl rfl | exact Yield.pick_f rfl rfl | exact Yield.pick rfl (fun _ => rfl) (fun _ => rfl)) rfl ?_
              refine OG.yield (Yield.move rfl) rfl ?_
              refine OG.guard_yes rfl rfl rfl (by decide) ?_
              refine OG.yield (Yield.move rfl) rfl ?_
              refine OG.guard_yes rfl rfl rfl (by decide) ?_
              refine OG.callo call14 rfl (Imp.refl _) (num_spec W _ _) rfl ?_
              rintro ⟨⟩ -
              refine OG.guard_yes rfl rfl rfl (by decide) ?_
              refine OG.yield (by first | exact Yield.as (Yield.eql rfl rfl) (bT (by omega)) | exact Yield.as (Yield.eql rfl rfl) (bF (by omega)) | exact Yield.eql rfl rfl) rfl ?_
              refine OG.guard_yes rfl rfl rfl (by decide) ?_
              refine OG.yield (Yield.move rfl) rfl ?_
              refine OG.guard_no rfl rfl rfl rfl rfl (by decide) (by decide) ?_
              refine OG.guard_no rfl rfl rfl rfl rfl (by decide) (by decide) ?_
              refine OG.guard_no rfl rfl rfl rfl rfl (by decide) (by decide) ?_
              refine OG.guard_no rfl rfl rfl rfl rfl (by decide) (by decide) ?_
              refine OG.guard_no rfl rfl rfl rfl rfl (by decide) (by decide) ?_
              refine OG.guard_no rfl rfl rfl rfl rfl (by decide) (by decide) ?_
              refine OG.guard_un rfl rfl rfl rfl (by decide) (by decide) ?_
              refine OG.guard_un rfl rfl rfl rfl (by decide) (by decide) ?_
              refine OG.guard_un rfl rfl rfl rfl (by decide) (by decide) ?_
              refine OG.guard_un rfl rfl rfl rfl (by decide) (by decide) ?_
              refine OG.guard_un rfl rfl rfl rfl (by decide) (by decide) ?_
              refine OG.guard_un rfl rfl rfl rfl (by decide) (by decide) ?_
              refine OG.guard_no rfl rfl rfl rfl rfl (by decide) (by decide) ?_
              refine OG.guard_yes rfl rfl rfl (by decide) ?_
              refine OG.yield (by first | exact Yield.pick_t rfl rfl | exact Yield.pick_f rfl rfl | exact Yield.pick rfl (fun _ => rfl) (fun _ => rfl)) rfl ?_
              refine OG.yield (by first | exact Yield.pick_t rfl rfl | exact Yield.pick_f rfl rfl | exact Yield.pick rfl (fun _ => rfl) (fun _ => rfl)) rfl ?_
              refine OG.nil ?_
              refine QG.then ?_
              refine CG.cond_f rfl ?_
              refine CG.skip ?_
              exact QG.mid ⟨i, own⟩ ⟨rfl, inv, hol⟩ (by repeat (first | exact Env.sub_nil _ | refine Env.sub_cons rfl ?_)) (by repeat (first | exact Imp.refl _ | exact Imp.none _ | apply Imp.pull (by repeat (first | exact Ext.here | apply Ext.there)) | apply Imp.trans Imp.drop))
            · skip
              rw [decide_eq_true hk]
              obtain ⟨p, q, hpe, hq⟩ := isP_get hk
              have hlp := left_in (own := own) hq
              rw [← hpe] at hlp
              obtain ⟨n, hn, hgn⟩ := free_frame inv hq (by rw [← hpe]; omega)
              have hnl := (List.getElem?_eq_some_iff.1 hgn).1
              have hgs : (own.set n op.Part)[n]? = some op.Part := by simp [hnl]
              have hl2 : left (own.set n op.Part) qs op.Part = left own qs op.Part - 1 := by
                have h2 := left_in (own := own.set n op.Part) hq
                rw [← hpe] at h2
                rw [h2, hlp, cnt_set hgn, if_neg (by omega), if_pos rfl]; omega
              refine CG.region ?_
              refine OG.yield (Yield.move rfl) rfl ?_
              refine OG.yield (Yield.move rfl) rfl ?_
              refine OG.callo call17 rfl ((by repeat (first | exact Imp.refl _ | exact Imp.none _ | apply Imp.pull (by repeat (first | exact Ext.here | apply Ext.there)) | apply Imp.trans Imp.drop))) (left_spec W _ (own := own) op.Part hqm) rfl ?_
              rintro ⟨⟩ -
              refine OG.yield (Yield.assign rfl) rfl ?_
              refine OG.nil ?_
              refine QG.then ?_
              refine CG.seq ?_
              refine CG.region ?_
              refine OG.yield (Yield.move rfl) rfl ?_
              refine OG.yield (Yield.move rfl) rfl ?_
              refine OG.callo call18 rfl ((by repeat (first | exact Imp.refl _ | exact Imp.none _ | apply Imp.pull (by repeat (first | exact Ext.here | apply Ext.there)) | apply Imp.trans Imp.drop))) (take_ok W _ (own := own) op.Part hqm hk hlf hn) rfl ?_
              rintro ⟨⟩ -
              refine OG.yield (Yield.move rfl) rfl ?_
              refine OG.yield (Yield.extract rfl rfl) rfl ?_
              refine OG.yield (Yield.extract rfl rfl) rfl ?_
              refine OG.yield (Yield.assign rfl) rfl ?_
              refine OG.yield (Yield.assign rfl) rfl ?_
              refine OG.nil ?_
              refine QG.then ?_
              refine CG.seq ?_
              refine CG.region ?_
              refine OG.yield (Yield.move rfl) rfl ?_
              refine OG.yield (Yield.move rfl) rfl ?_
              refine OG.callo call14 rfl (Imp.refl _) (num_spec W _ _) rfl ?_
              rintro ⟨⟩ -
              refine OG.yield (by first | exact Yield.as (Yield.neq rfl rfl) (bT (by omega)) | exact Yield.as (Yield.neq rfl rfl) (bF (by omega)) | exact Yield.neq rfl rfl) rfl ?_
              refine OG.yield (by first | exact Yield.bool_samen Try.underlying4 rfl rfl | exact Yield.bool_neq Try.underlying4 rfl rfl) rfl ?_
              refine OG.yield (Yield.move rfl) rfl ?_
              refine OG.guard_yes rfl rfl rfl (by decide) ?_
              refine OG.yield (Yield.move rfl) rfl ?_
              refine OG.guard_yes rfl rfl rfl (by decide) ?_
              refine OG.yield (Yield.move rfl) rfl ?_
              refine OG.guard_yes rfl rfl rfl (by decide) ?_
              refine OG.yield (Yield.move rfl) rfl ?_
              refine OG.guard_yes rfl rfl rfl (by decide) ?_
              refine OG.callo call14 rfl (Imp.refl _) (num_spec W _ _) rfl ?_
              rintro ⟨⟩ -
              refine OG.guard_yes rfl rfl rfl (by decide) ?_
              refine OG.yield (by first | exact Yield.as (Yield.eql rfl rfl) (bT (by omega)) | exact Yield.as (Yield.eql rfl rfl) (bF (by omega)) | exact Yield.eql rfl rfl) rfl ?_
              refine OG.guard_yes rfl rfl rfl (by decide) ?_
              refine OG.yield (Yield.move rfl) rfl ?_
              refine OG.guard_yes rfl rfl rfl (by decide) ?_
              refine OG.yield (by first | exact Yield.as (Yield.gtr rfl rfl) (bT (by omega)) | exact Yield.as (Yield.gtr rfl rfl) (bF (by omega)) | exact Yield.gtr rfl rfl) rfl ?_
              refine OG.guard_yes rfl rfl rfl (by decide) ?_
              refine OG.yield (by first | exact Yield.bool_samen Try.underlying4 rfl rfl | exact Yield.bool_neq Try.underlying4 rfl rfl) rfl ?_
              refine OG.guard_yes rfl rfl rfl (by decide) ?_
              refine OG.yield (by first | exact Yield.pick_t rfl rfl | exact Yield.pick_f rfl rfl | exact Yield.pick rfl (fun _ => rfl) (fun _ => rfl)) rfl ?_
              refine OG.yield (by first | exact Yield.pick_t rfl rfl | exact Yield.pick_f rfl rfl | exact Yield.pick rfl (fun _ => rfl) (fun _ => rfl)) rfl ?_
              refine OG.yield (Yield.move rfl) rfl ?_
              refine OG.guard_yes rfl rfl rfl (by decide) ?_
              refine OG.yield (Yield.move rfl) rfl ?_
              refine OG.guard_yes rfl rfl rfl (by decide) ?_
              refine OG.callo call14 rfl (Imp.refl _) (num_spec W _ _) rfl ?_
              rintro ⟨⟩ -
              refine OG.guard_yes rfl rfl rfl (by decide) ?_
              refine OG.yield (by first | exact Yield.as (Yield.eql rfl rfl) (bT (by omega)) | exact Yield.as (Yield.eql rfl rfl) (bF (by omega)) | exact Yield.eql rfl rfl) rfl ?_
              refine OG.guard_yes rfl rfl rfl (by decide) ?_
              refine OG.yield (Yield.move rfl) rfl ?_
              refine OG.guard_yes rfl rfl rfl (by decide) ?_
              refine OG.yield (Yield.move rfl) rfl ?_
              refine OG.guard_yes rfl rfl rfl (by decide) ?_
              refine OG.yield (Yield.move rfl) rfl ?_
              refine OG.guard_yes rfl rfl rfl (by decide) ?_
              refine OG.callo call16 rfl ((by repeat (first | exact Imp.refl _ | exact Imp.none _ | apply Imp.pull (by repeat (first | exact Ext.here | apply Ext.there)) | apply Imp.trans Imp.drop))) (owner_spec W _ (own := own.set n op.Part) (n : Int) (x := op.Part) (.inl ⟨n, rfl, hgs⟩)) rfl ?_
              rintro ⟨⟩ -
              refine OG.guard_yes rfl rfl rfl (by decide) ?_
              refine OG.yield (Yield.move rfl) rfl ?_
              refine OG.guard_yes rfl rfl rfl (by decide) ?_
              refine OG.yield (by first | exact Yield.as (Yield.neq rfl rfl) (bT (by omega)) | exact Yield.as (Yield.neq rfl rfl) (bF (by omega)) | exact Yield.neq rfl rfl) rfl ?_
              refine OG.guard_yes rfl rfl rfl (by decide) ?_
              refine OG.yield (Yield.move rfl) rfl ?_
              refine OG.guard_yes rfl rfl rfl (by decide) ?_
              refine OG.yield (Yield.move rfl) rfl ?_
              refine OG.guard_yes rfl rfl rfl (by decide) ?_
              refine OG.yield (Yield.move rfl) rfl ?_
              refine OG.guard_yes rfl rfl rfl (by decide) ?_
              refine OG.callo call17 rfl ((by repeat (first | exact Imp.refl _ | exact Imp.none _ | apply Imp.pull (by repeat (first | exact Ext.here | apply Ext.there)) | apply Imp.trans Imp.drop))) (left_spec W _ (own := own.set n op.Part) op.Part hqm) rfl ?_
              rintro ⟨⟩ -
              rw [hl2]
              refine OG.guard_yes rfl rfl rfl (by decide) ?_
              refine OG.yield (Yield.move rfl) rfl ?_
              refine OG.guard_yes rfl rfl rfl (by decide) ?_
              refine OG.yield (Yield.sub rfl rfl (w64 (by have := (hqm _ (List.mem_of_getElem? hq)); have := cnt_le own op.Part; have := inv.tot; omega) (by have := (hqm _ (List.mem_of_getElem? hq)); have := cnt_le own op.Part; have := inv.tot; omega))) rfl ?_
              refine OG.guard_yes rfl rfl rfl (by decide) ?_
              refine OG.yield (by first | exact Yield.as (Yield.neq rfl rfl) (bT (by omega)) | exact Yield.as (Yield.neq rfl rfl) (bF (by omega)) | exact Yield.neq rfl rfl) rfl ?_
              refine OG.guard_yes rfl rfl rfl (by decide) ?_
              refine OG.yield (by first | exact Yield.pick_t rfl rfl | exact Yield.pick_f rfl rfl | exact Yield.pick rfl (fun _ => rfl) (fun _ => rfl)) rfl ?_
              refine OG.guard_yes rfl rfl rfl (by decide) ?_
              refine OG.yield (by first | exact Yield.pick_t rfl rfl | exact Yield.pick_f rfl rfl | exact Yield.pick rfl (fun _ => rfl) (fun _ => rfl)) rfl ?_
              refine OG.yield (by first | exact Yield.pick_t rfl rfl | exact Yield.pick_f rfl rfl | exact Yield.pick rfl (fun _ => rfl) (fun _ => rfl)) rfl ?_
              refine OG.nil ?_
              refine QG.then ?_
              refine CG.cond_f rfl ?_
              refine CG.skip ?_
              exact QG.mid ⟨i, own.set n op.Part⟩ ⟨rfl, by rw [hpe]; exact inv_take inv hq (by rw [← hpe]; omega) hgn, by simp only; rw [List.length_set]; exact hol⟩ (by repeat (first | exact Env.sub_nil _ | refine Env.sub_cons rfl ?_)) (by repeat (first | exact Imp.refl _ | exact Imp.none _ | apply Imp.pull (by repeat (first | exact Ext.here | apply Ext.there)) | apply Imp.trans Imp.drop))
          · try replace hc := of_decide_eq_false hc
            obtain ⟨who, hwho⟩ : ∃ x : Int, (∃ k : Nat, op.Frame = k ∧ own[k]? = some x) ∨ (¬ isF own op.Frame ∧ x = -1) := by
              by_cases hf : isF own op.Frame
              · exact ⟨own[op.Frame.toNat]'(by have := hf.1; have := hf.2; omega), .inl ⟨op.Frame.toNat, by have := hf.1; omega, by simp⟩⟩
              · exact ⟨-1, .inr ⟨hf, rfl⟩⟩
            refine CG.seq ?_
            rcases (show ¬ isP qs op.Part ∨ (isP qs op.Part ∧ who ≠ op.Part) ∨ (isP qs op.Part ∧ who = op.Part) by omega) with hk | ⟨hk, hwn⟩ | ⟨hk, hwn⟩
            · skip
              rw [decide_eq_false hk]
              refine CG.region ?_
              refine OG.yield (Yield.move rfl) rfl ?_
              refine OG.yield (Yield.move rfl) rfl ?_
              refine OG.yield (Yield.move rfl) rfl ?_
              refine OG.yield (Yield.index_slice Try.underlying22 ti32 rfl rfl (by omega) (by omega)) rfl ?_
              refine OG.yield (Yield.fieldAddr fa32_2 rfl) rfl ?_
              refine OG.yield (Yield.load (v := .int .i64 op.Frame) ti3 rfl ((hrow (by repeat (first | exact Ext.here | apply Ext.there))) 2 _ rfl)) rfl ?_
              refine OG.callo call16 rfl ((by repeat (first | exact Imp.refl _ | exact Imp.none _ | apply Imp.pull (by repeat (first | exact Ext.here | apply Ext.there)) | apply Imp.trans Imp.drop))) (owner_spec W _ (own := own) op.Frame (x := who) hwho) rfl ?_
              rintro ⟨⟩ -
              refine OG.yield (Yield.assign rfl) rfl ?_
              refine OG.nil ?_
              refine QG.then ?_
              refine CG.seq ?_
              refine CG.region ?_
              refine OG.yield (Yield.move rfl) rfl ?_
              refine OG.yield (Yield.move rfl) rfl ?_
              refine OG.yield (Yield.move rfl) rfl ?_
              refine OG.yield (Yield.move rfl) rfl ?_
              refine OG.yield (Yield.index_slice Try.underlying22 ti32 rfl rfl (by omega) (by omega)) rfl ?_
              refine OG.yield (Yield.fieldAddr fa32_2 rfl) rfl ?_
              refine OG.yield (Yield.load (v := .int .i64 op.Frame) ti3 rfl ((hrow (by repeat (first | exact Ext.here | apply Ext.there))) 2 _ rfl)) rfl ?_
              refine OG.callo call15 rfl ((by repeat (first | exact Imp.refl _ | exact Imp.none _ | apply Imp.pull (by repeat (first | exact Ext.here | apply Ext.there)) | apply Imp.trans Imp.drop))) (give_bad W _ (own := own) op.Part op.Frame (.inl hk)) rfl ?_
              rintro ⟨⟩ -
              refine OG.yield (Yield.assign rfl) rfl ?_
              refine OG.nil ?_
              refine QG.then ?_
              refine CG.seq ?_
              refine CG.region ?_
              refine OG.yield (Yield.move rfl) rfl ?_
              refine OG.callo call14 rfl (Imp.refl _) (num_spec W _ _) rfl ?_
              rintro ⟨⟩ -
              refine OG.yield (by first | exact Yield.as (Yield.eql rfl rfl) (bT (by omega)) | exact Yield.as (Yield.eql rfl rfl) (bF (by omega)) | exact Yield.eql rfl rfl) rfl ?_
              refine OG.yield (Yield.move rfl) rfl ?_
              refine OG.yield (Yield.move rfl) rfl ?_
              refine OG.guard_no rfl rfl rfl rfl rfl (by decide) (by decide) ?_
              refine OG.guard_no rfl rfl rfl rfl rfl (by decide) (by decide) ?_
              refine OG.guard_no rfl rfl rfl rfl rfl (by decide) (by decide) ?_
              refine OG.yield (by first | exact Yield.pick_t rfl rfl | exact Yield.pick_f rfl rfl | exact Yield.pick rfl (fun _ => rfl) (fun _ => rfl)) rfl ?_
              refine OG.yield (by first | exact Yield.bool_samen Try.underlying4 rfl rfl | exact Yield.bool_neq Try.underlying4 rfl rfl) rfl ?_
              refine OG.yield (Yield.move rfl) rfl ?_
              refine OG.guard_yes rfl rfl rfl (by decide) ?_
              refine OG.yield (Yield.move rfl) rfl ?_
              refine OG.guard_yes rfl rfl rfl (by decide) ?_
              refine OG.callo call14 rfl (Imp.refl _) (num_spec W _ _) rfl ?_
              rintro ⟨⟩ -
              refine OG.guard_yes rfl rfl rfl (by decide) ?_
              refine OG.yield (by first | exact Yield.as (Yield.neq rfl rfl) (bT (by omega)) | exact Yield.as (Yield.neq rfl rfl) (bF (by omega)) | exact Yield.neq rfl rfl) rfl ?_
              refine OG.guard_yes rfl rfl rfl (by decide) ?_
              refine OG.yield (Yield.move rfl) rfl ?_
              refine OG.guard_yes rfl rfl rfl (by decide) ?_
              refine OG.yield (Yield.move rfl) rfl ?_
              refine OG.guard_yes rfl rfl rfl (by decide) ?_
              refine OG.yield (Yield.move rfl) rfl ?_
              refine OG.guard_yes rfl rfl rfl (by decide) ?_
              refine OG.yield (Yield.move rfl) rfl ?_
              refine OG.guard_yes rfl rfl rfl (by decide) ?_
              refine OG.yield (Yield.index_slice Try.underlying22 ti32 rfl rfl (by omega) (by omega)) rfl ?_
              refine OG.guard_yes rfl rfl rfl (by decide) ?_
              refine OG.yield (Yield.fieldAddr fa32_2 rfl) rfl ?_
              refine OG.guard_yes rfl rfl rfl (by decide) ?_
              refine OG.yield (Yield.load (v := .int .i64 op.Frame) ti3 rfl ((hrow (by repeat (first | exact Ext.here | apply Ext.there))) 2 _ rfl)) rfl ?_
              refine OG.guard_yes rfl rfl rfl (by decide) ?_
              refine OG.callo call16 rfl ((by repeat (first | exact Imp.refl _ | exact Imp.none _ | apply Imp.pull (by repeat (first | exact Ext.here | apply Ext.there)) | apply Imp.trans Imp.drop))) (owner_spec W _ (own := own) op.Frame (x := who) hwho) rfl ?_
              rintro ⟨⟩ -
              refine OG.guard_yes rfl rfl rfl (by decide) ?_
              refine OG.yield (Yield.move rfl) rfl ?_
              refine OG.guard_yes rfl rfl rfl (by decide) ?_
              refine OG.yield (by first | exact Yield.as (Yield.neq rfl rfl) (bT (by omega)) | exact Yield.as (Yield.neq rfl rfl) (bF (by omega)) | exact Yield.neq rfl rfl) rfl ?_
              refine OG.guard_yes rfl rfl rfl (by decide) ?_
              refine OG.yield (by first | exact Yield.pick_t rfl rfl | exact Yield.pick_f rfl rfl | exact Yield.pick rfl (fun _ => rfl) (fun _ => rfl)) rfl ?_
              refine OG.yield (by first | exact Yield.pick_t rfl rfl | exact Yield.pick_f rfl rfl | exact Yield.pick rfl (fun _ => rfl) (fun _ => rfl)) rfl ?_
              refine OG.yield (Yield.move rfl) rfl ?_
              refine OG.guard_yes rfl rfl rfl (by decide) ?_
              refine OG.yield (Yield.move rfl) rfl ?_
              refine OG.guard_yes rfl rfl rfl (by decide) ?_
              refine OG.callo call14 rfl (Imp.refl _) (num_spec W _ _) rfl ?_
              rintro ⟨⟩ -
              refine OG.guard_yes rfl rfl rfl (by decide) ?_
              refine OG.yield (by first | exact Yield.as (Yield.eql rfl rfl) (bT (by omega)) | exact Yield.as (Yield.eql rfl rfl) (bF (by omega)) | exact Yield.eql rfl rfl) rfl ?_
              refine OG.guard_yes rfl rfl rfl (by decide) ?_
              refine OG.yield (Yield.move rfl) rfl ?_
              refine OG.guard_no rfl rfl rfl rfl rfl (by decide) (by decide) ?_
              refine OG.guard_no rfl rfl rfl rfl rfl (by decide) (by decide) ?_
              refine OG.guard_no rfl rfl rfl rfl rfl (by decide) (by decide) ?_
              refine OG.guard_no rfl rfl rfl rfl rfl (by decide) (by decide) ?_
              refine OG.guard_no rfl rfl rfl rfl rfl (by decide) (by decide) ?_
              refine OG.guard_no rfl rfl rfl rfl rfl (by decide) (by decide) ?_
              refine OG.guard_no rfl rfl rfl rfl rfl (by decide) (by decide) ?_
              refine OG.guard_no rfl rfl rfl rfl rfl (by decide) (by decide) ?_
              refine OG.guard_yes rfl rfl rfl (by decide) ?_
              refine OG.yield (by first | exact Yield.pick_t rfl rfl | exact Yield.pick_f rfl rfl | exact Yield.pick rfl (fun _ => rfl) (fun _ => rfl)) rfl ?_
              refine OG.yield (by first | exact Yield.pick_t rfl rfl | exact Yield.pick_f rfl rfl | exact Yield.pick rfl (fun _ => rfl) (fun _ => rfl)) rfl ?_
              refine OG.nil ?_
              refine QG.then ?_
              refine CG.cond_f rfl ?_
              refine CG.skip ?_
              exact QG.mid ⟨i, own⟩ ⟨rfl, inv, hol⟩ (by repeat (first | exact Env.sub_nil _ | refine Env.sub_cons rfl ?_)) (by repeat (first | exact Imp.refl _ | exact Imp.none _ | apply Imp.pull (by repeat (first | exact Ext.here | apply Ext.there)) | apply Imp.trans Imp.drop))
            · skip
              rw [decide_eq_true hk]
              refine CG.region ?_
              refine OG.yield (Yield.move rfl) rfl ?_
              refine OG.yield (Yield.move rfl) rfl ?_
              refine OG.yield (Yield.move rfl) rfl ?_
              refine OG.yield (Yield.index_slice Try.underlying22 ti32 rfl rfl (by omega) (by omega)) rfl ?_
              refine OG.yield (Yield.fieldAddr fa32_2 rfl) rfl ?_
              refine OG.yield (Yield.load (v := .int .i64 op.Frame) ti3 rfl ((hrow (by repeat (first | exact Ext.here | apply Ext.there))) 2 _ rfl)) rfl ?_
              refine OG.callo call16 rfl ((by repeat (first | exact Imp.refl _ | exact Imp.none _ | apply Imp.pull (by repeat (first | exact Ext.here | apply Ext.there)) | apply Imp.trans Imp.drop))) (owner_spec W _ (own := own) op.Frame (x := who) hwho) rfl ?_
              rintro ⟨⟩ -
              refine OG.yield (Yield.assign rfl) rfl ?_
              refine OG.nil ?_
              refine QG.then ?_
              refine CG.seq ?_
              refine CG.region ?_
              refine OG.yield (Yield.move rfl) rfl ?_
              refine OG.yield (Yield.move rfl) rfl ?_
              refine OG.yield (Yield.move rfl) rfl ?_
              refine OG.yield (Yield.move rfl) rfl ?_
              refine OG.yield (Yield.index_slice Try.underlying22 ti32 rfl rfl (by omega) (by omega)) rfl ?_
              refine OG.yield (Yield.fieldAddr fa32_2 rfl) rfl ?_
              refine OG.yield (Yield.load (v := .int .i64 op.Frame) ti3 rfl ((hrow (by repeat (first | exact Ext.here | apply Ext.there))) 2 _ rfl)) rfl ?_
              refine OG.callo (φ := fun e : Int => e ≠ 0 ∧ (-200 : Int) ≤ e ∧ e ≤ 200) (v := fun e => .int .i64 e) (G' := fun _ => F f own qs :: [oiv a7 c7 qs, old W]) call15 rfl (G1 := F f own qs :: [oiv a7 c7 qs, old W]) (by repeat (first | exact Imp.refl _ | exact Imp.none _ | apply Imp.pull (by repeat (first | exact Ext.here | apply Ext.there)) | apply Imp.trans Imp.drop)) (?_) rfl ?_
              · rcases hwho with ⟨k, h1, h2⟩ | ⟨h1, _⟩
                · rw [h1]; exact Ctr.to (give_owner W _ op.Part k hk h2 hwn) (fun _ => (160 : Int)) (fun _ _ => ⟨by decide, by decide, by decide⟩) (fun _ => rfl) (fun _ => Imp.refl _)
                · exact Ctr.to (give_bad W _ op.Part op.Frame (.inr h1)) (fun _ => (2 : Int)) (fun _ _ => ⟨by decide, by decide, by decide⟩) (fun _ => rfl) (fun _ => Imp.refl _)
              rintro e ⟨he1, he2, he3⟩
              refine OG.yield (Yield.assign rfl) rfl ?_
              refine OG.nil ?_
              refine QG.then ?_
              refine CG.seq ?_
              refine CG.region ?_
              refine OG.yield (Yield.move rfl) rfl ?_
              refine OG.callo call14 rfl (Imp.refl _) (num_spec W _ _) rfl ?_
              rintro ⟨⟩ -
              refine OG.yield (by first | exact Yield.as (Yield.eql rfl rfl) (bT (by omega)) | exact Yield.as (Yield.eql rfl rfl) (bF (by omega)) | exact Yield.eql rfl rfl) rfl ?_
              refine OG.yield (Yield.move rfl) rfl ?_
              refine OG.yield (Yield.move rfl) rfl ?_
              refine OG.guard_yes rfl rfl rfl (by decide) ?_
              refine OG.yield (Yield.move rfl) rfl ?_
              refine OG.guard_yes rfl rfl rfl (by decide) ?_
              refine OG.yield (Yield.move rfl) rfl ?_
              refine OG.guard_yes rfl rfl rfl (by decide) ?_
              refine OG.yield (Yield.as (Yield.eql rfl rfl) (bF hwn)) rfl ?_
              refine OG.yield (by first | exact Yield.pick_t rfl rfl | exact Yield.pick_f rfl rfl | exact Yield.pick rfl (fun _ => rfl) (fun _ => rfl)) rfl ?_
              refine OG.yield (by first | exact Yield.bool_samen Try.underlying4 rfl rfl | exact Yield.bool_neq Try.underlying4 rfl rfl) rfl ?_
              refine OG.yield (Yield.move rfl) rfl ?_
              refine OG.guard_yes rfl rfl rfl (by decide) ?_
              refine OG.yield (Yield.move rfl) rfl ?_
              refine OG.guard_yes rfl rfl rfl (by decide) ?_
              refine OG.callo call14 rfl (Imp.refl _) (num_spec W _ _) rfl ?_
              rintro ⟨⟩ -
              refine OG.guard_yes rfl rfl rfl (by decide) ?_
              refine OG.yield (by first | exact Yield.as (Yield.neq rfl rfl) (bT (by omega)) | exact Yield.as (Yield.neq rfl rfl) (bF (by omega)) | exact Yield.neq rfl rfl) rfl ?_
              refine OG.guard_yes rfl rfl rfl (by decide) ?_
              refine OG.yield (Yield.move rfl) rfl ?_
              refine OG.guard_yes rfl rfl rfl (by decide) ?_
              refine OG.yield (Yield.move rfl) rfl ?_
              refine OG.guard_yes rfl rfl rfl (by decide) ?_
              refine OG.yield (Yield.move rfl) rfl ?_
              refine OG.guard_yes rfl rfl rfl (by decide) ?_
              refine OG.yield (Yield.move rfl) rfl ?_
              refine OG.guard_yes rfl rfl rfl (by decide) ?_
              refine OG.yield (Yield.index_slice Try.underlying22 ti32 rfl rfl (by omega) (by omega)) rfl ?_
              refine OG.guard_yes rfl rfl rfl (by decide) ?_
              refine OG.yield (Yield.fieldAddr fa32_2 rfl) rfl ?_
              refine OG.guard_yes rfl rfl rfl (by decide) ?_
              refine OG.yield (Yield.load (v := .int .i64 op.Frame) ti3 rfl ((hrow (by repeat (first | exact Ext.here | apply Ext.there))) 2 _ rfl)) rfl ?_
              refine OG.guard_yes rfl rfl rfl (by decide) ?_
              refine OG.callo call16 rfl ((by repeat (first | exact Imp.refl _ | exact Imp.none _ | apply Imp.pull (by repeat (first | exact Ext.here | apply Ext.there)) | apply Imp.trans Imp.drop))) (owner_spec W _ (own := own) op.Frame (x := who) hwho) rfl ?_
              rintro ⟨⟩ -
              refine OG.guard_yes rfl rfl rfl (by decide) ?_
              refine OG.yield (Yield.move rfl) rfl ?_
              refine OG.guard_yes rfl rfl rfl (by decide) ?_
              refine OG.yield (by first | exact Yield.as (Yield.neq rfl rfl) (bT (by omega)) | exact Yield.as (Yield.neq rfl rfl) (bF (by omega)) | exact Yield.neq rfl rfl) rfl ?_
              refine OG.guard_yes rfl rfl rfl (by decide) ?_
              refine OG.yield (by first | exact Yield.pick_t rfl rfl | exact Yield.pick_f rfl rfl | exact Yield.pick rfl (fun _ => rfl) (fun _ => rfl)) rfl ?_
              refine OG.yield (by first | exact Yield.pick_t rfl rfl | exact Yield.pick_f rfl rfl | exact Yield.pick rfl (fun _ => rfl) (fun _ => rfl)) rfl ?_
              refine OG.yield (Yield.move rfl) rfl ?_
              refine OG.guard_yes rfl rfl rfl (by decide) ?_
              refine OG.yield (Yield.move rfl) rfl ?_
              refine OG.guard_yes rfl rfl rfl (by decide) ?_
              refine OG.callo call14 rfl (Imp.refl _) (num_spec W _ _) rfl ?_
              rintro ⟨⟩ -
              refine OG.guard_yes rfl rfl rfl (by decide) ?_
              refine OG.yield (by first | exact Yield.as (Yield.eql rfl rfl) (bT (by omega)) | exact Yield.as (Yield.eql rfl rfl) (bF (by omega)) | exact Yield.eql rfl rfl) rfl ?_
              refine OG.guard_yes rfl rfl rfl (by decide) ?_
              refine OG.yield (Yield.move rfl) rfl ?_
              refine OG.guard_no rfl rfl rfl rfl rfl (by decide) (by decide) ?_
              refine OG.guard_no rfl rfl rfl rfl rfl (by decide) (by decide) ?_
              refine OG.guard_no rfl rfl rfl rfl rfl (by decide) (by decide) ?_
              refine OG.guard_no rfl rfl rfl rfl rfl (by decide) (by decide) ?_
              refine OG.guard_no rfl rfl rfl rfl rfl (by decide) (by decide) ?_
              refine OG.guard_no rfl rfl rfl rfl rfl (by decide) (by decide) ?_
              refine OG.guard_no rfl rfl rfl rfl rfl (by decide) (by decide) ?_
              refine OG.guard_no rfl rfl rfl rfl rfl (by decide) (by decide) ?_
              refine OG.guard_yes rfl rfl rfl (by decide) ?_
              refine OG.yield (by first | exact Yield.pick_t rfl rfl | exact Yield.pick_f rfl rfl | exact Yield.pick rfl (fun _ => rfl) (fun _ => rfl)) rfl ?_
              refine OG.yield (by first | exact Yield.pick_t rfl rfl | exact Yield.pick_f rfl rfl | exact Yield.pick rfl (fun _ => rfl) (fun _ => rfl)) rfl ?_
              refine OG.nil ?_
              refine QG.then ?_
              refine CG.cond_f rfl ?_
              refine CG.skip ?_
              exact QG.mid ⟨i, own⟩ ⟨rfl, inv, hol⟩ (by repeat (first | exact Env.sub_nil _ | refine Env.sub_cons rfl ?_)) (by repeat (first | exact Imp.refl _ | exact Imp.none _ | apply Imp.pull (by repeat (first | exact Ext.here | apply Ext.there)) | apply Imp.trans Imp.drop))
            · skip
              rw [decide_eq_true hk]
              obtain ⟨n, hne2, hgn⟩ : ∃ k : Nat, op.Frame = k ∧ own[k]? = some op.Part := by
                rcases hwho with ⟨k, h1, h2⟩ | ⟨_, h2⟩
                · exact ⟨k, h1, by rw [← hwn]; exact h2⟩
                · exfalso; have := hk.1; omega
              have hgs : (own.set n (-1))[n]? = some (-1) := by simp [(List.getElem?_eq_some_iff.1 hgn).1]
              refine CG.region ?_
              refine OG.yield (Yield.move rfl) rfl ?_
              refine OG.yield (Yield.move rfl) rfl ?_
              refine OG.yield (Yield.move rfl) rfl ?_
              refine OG.yield (Yield.index_slice Try.underlying22 ti32 rfl rfl (by omega) (by omega)) rfl ?_
              refine OG.yield (Yield.fieldAddr fa32_2 rfl) rfl ?_
              refine OG.yield (Yield.load (v := .int .i64 op.Frame) ti3 rfl ((hrow (by repeat (first | exact Ext.here | apply Ext.there))) 2 _ rfl)) rfl ?_
              refine OG.callo call16 rfl ((by repeat (first | exact Imp.refl _ | exact Imp.none _ | apply Imp.pull (by repeat (first | exact Ext.here | apply Ext.there)) | apply Imp.trans Imp.drop))) (owner_spec W _ (own := own) op.Frame (x := who) hwho) rfl ?_
              rintro ⟨⟩ -
              refine OG.yield (Yield.assign rfl) rfl ?_
              refine OG.nil ?_
              refine QG.then ?_
              refine CG.seq ?_
              refine CG.region ?_
              refine OG.yield (Yield.move rfl) rfl ?_
              refine OG.yield (Yield.move rfl) rfl ?_
              refine OG.yield (Yield.move rfl) rfl ?_
              refine OG.yield (Yield.move rfl) rfl ?_
              refine OG.yield (Yield.index_slice Try.underlying22 ti32 rfl rfl (by omega) (by omega)) rfl ?_
              refine OG.yield (Yield.fieldAddr fa32_2 rfl) rfl ?_
              refine OG.yield (Yield.load (v := .int .i64 op.Frame) ti3 rfl ((hrow (by repeat (first | exact Ext.here | apply Ext.there))) 2 _ rfl)) rfl ?_
              refine OG.callo call15 rfl ((by repeat (first | exact Imp.refl _ | exact Imp.none _ | apply Imp.pull (by repeat (first | exact Ext.here | apply Ext.there)) | apply Imp.trans Imp.drop))) ((by rw [hne2]; exact give_ok W _ (own := own) op.Part n hk hgn)) rfl ?_
              rintro ⟨⟩ -
              refine OG.yield (Yield.assign rfl) rfl ?_
              refine OG.nil ?_
              refine QG.then ?_
              refine CG.seq ?_
              refine CG.region ?_
              refine OG.yield (Yield.move rfl) rfl ?_
              refine OG.callo call14 rfl (Imp.refl _) (num_spec W _ _) rfl ?_
              rintro ⟨⟩ -
              refine OG.yield (by first | exact Yield.as (Yield.eql rfl rfl) (bT (by omega)) | exact Yield.as (Yield.eql rfl rfl) (bF (by omega)) | exact Yield.eql rfl rfl) rfl ?_
              refine OG.yield (Yield.move rfl) rfl ?_
              refine OG.yield (Yield.move rfl) rfl ?_
              refine OG.guard_yes rfl rfl rfl (by decide) ?_
              refine OG.yield (Yield.move rfl) rfl ?_
              refine OG.guard_yes rfl rfl rfl (by decide) ?_
              refine OG.yield (Yield.move rfl) rfl ?_
              refine OG.guard_yes rfl rfl rfl (by decide) ?_
              refine OG.yield (Yield.as (Yield.eql rfl rfl) (bT hwn)) rfl ?_
              refine OG.yield (by first | exact Yield.pick_t rfl rfl | exact Yield.pick_f rfl rfl | exact Yield.pick rfl (fun _ => rfl) (fun _ => rfl)) rfl ?_
              refine OG.yield (by first | exact Yield.bool_samen Try.underlying4 rfl rfl | exact Yield.bool_neq Try.underlying4 rfl rfl) rfl ?_
              refine OG.yield (Yield.move rfl) rfl ?_
              refine OG.guard_yes rfl rfl rfl (by decide) ?_
              refine OG.yield (Yield.move rfl) rfl ?_
              refine OG.guard_yes rfl rfl rfl (by decide) ?_
              refine OG.callo call14 rfl (Imp.refl _) (num_spec W _ _) rfl ?_
              rintro ⟨⟩ -
              refine OG.guard_yes rfl rfl rfl (by decide) ?_
              refine OG.yield (by first | exact Yield.as (Yield.neq rfl rfl) (bT (by omega)) | exact Yield.as (Yield.neq rfl rfl) (bF (by omega)) | exact Yield.neq rfl rfl) rfl ?_
              refine OG.guard_yes rfl rfl rfl (by decide) ?_
              refine OG.yield (Yield.move rfl) rfl ?_
              refine OG.guard_no rfl rfl rfl rfl rfl (by decide) (by decide) ?_
              refine OG.guard_no rfl rfl rfl rfl rfl (by decide) (by decide) ?_
              refine OG.guard_no rfl rfl rfl rfl rfl (by decide) (by decide) ?_
              refine OG.guard_no rfl rfl rfl rfl rfl (by decide) (by decide) ?_
              refine OG.guard_no rfl rfl rfl rfl rfl (by decide) (by decide) ?_
              refine OG.guard_no rfl rfl rfl rfl rfl (by decide) (by decide) ?_
              refine OG.guard_no rfl rfl rfl rfl rfl (by decide) (by decide) ?_
              refine OG.guard_no rfl rfl rfl rfl rfl (by decide) (by decide) ?_
              refine OG.guard_no rfl rfl rfl rfl rfl (by decide) (by decide) ?_
              refine OG.guard_yes rfl rfl rfl (by decide) ?_
              refine OG.yield (by first | exact Yield.pick_t rfl rfl | exact Yield.pick_f rfl rfl | exact Yield.pick rfl (fun _ => rfl) (fun _ => rfl)) rfl ?_
              refine OG.yield (by first | exact Yield.pick_t rfl rfl | exact Yield.pick_f rfl rfl | exact Yield.pick rfl (fun _ => rfl) (fun _ => rfl)) rfl ?_
              refine OG.yield (Yield.move rfl) rfl ?_
              refine OG.guard_yes rfl rfl rfl (by decide) ?_
              refine OG.yield (Yield.move rfl) rfl ?_
              refine OG.guard_yes rfl rfl rfl (by decide) ?_
              refine OG.callo call14 rfl (Imp.refl _) (num_spec W _ _) rfl ?_
              rintro ⟨⟩ -
              refine OG.guard_yes rfl rfl rfl (by decide) ?_
              refine OG.yield (by first | exact Yield.as (Yield.eql rfl rfl) (bT (by omega)) | exact Yield.as (Yield.eql rfl rfl) (bF (by omega)) | exact Yield.eql rfl rfl) rfl ?_
              refine OG.guard_yes rfl rfl rfl (by decide) ?_
              refine OG.yield (Yield.move rfl) rfl ?_
              refine OG.guard_yes rfl rfl rfl (by decide) ?_
              refine OG.yield (Yield.move rfl) rfl ?_
              refine OG.guard_yes rfl rfl rfl (by decide) ?_
              refine OG.yield (Yield.move rfl) rfl ?_
              refine OG.guard_yes rfl rfl rfl (by decide) ?_
              refine OG.yield (Yield.move rfl) rfl ?_
              refine OG.guard_yes rfl rfl rfl (by decide) ?_
              refine OG.yield (Yield.index_slice Try.underlying22 ti32 rfl rfl (by omega) (by omega)) rfl ?_
              refine OG.guard_yes rfl rfl rfl (by decide) ?_
              refine OG.yield (Yield.fieldAddr fa32_2 rfl) rfl ?_
              refine OG.guard_yes rfl rfl rfl (by decide) ?_
              refine OG.yield (Yield.load (v := .int .i64 op.Frame) ti3 rfl ((hrow (by repeat (first | exact Ext.here | apply Ext.there))) 2 _ rfl)) rfl ?_
              refine OG.guard_yes rfl rfl rfl (by decide) ?_
              refine OG.callo call16 rfl ((by repeat (first | exact Imp.refl _ | exact Imp.none _ | apply Imp.pull (by repeat (first | exact Ext.here | apply Ext.there)) | apply Imp.trans Imp.drop))) (owner_spec W _ (own := own.set n (-1)) op.Frame (x := -1) (.inl ⟨n, hne2, hgs⟩)) rfl ?_
              rintro ⟨⟩ -
              refine OG.guard_yes rfl rfl rfl (by decide) ?_
              refine OG.yield (by first | exact Yield.as (Yield.neq rfl rfl) (bT (by omega)) | exact Yield.as (Yield.neq rfl rfl) (bF (by omega)) | exact Yield.neq rfl rfl) rfl ?_
              refine OG.guard_yes rfl rfl rfl (by decide) ?_
              refine OG.yield (by first | exact Yield.pick_t rfl rfl | exact Yield.pick_f rfl rfl | exact Yield.pick rfl (fun _ => rfl) (fun _ => rfl)) rfl ?_
              refine OG.yield (by first | exact Yield.pick_t rfl rfl | exact Yield.pick_f rfl rfl | exact Yield.pick rfl (fun _ => rfl) (fun _ => rfl)) rfl ?_
              refine OG.nil ?_
              refine QG.then ?_
              refine CG.cond_f rfl ?_
              refine CG.skip ?_
              exact QG.mid ⟨i, own.set n (-1)⟩ ⟨rfl, inv_give inv hgn, by simp only; rw [List.length_set]; exact hol⟩ (by repeat (first | exact Env.sub_nil _ | refine Env.sub_cons rfl ?_)) (by repeat (first | exact Imp.refl _ | exact Imp.none _ | apply Imp.pull (by repeat (first | exact Ext.here | apply Ext.there)) | apply Imp.trans Imp.drop))
        clear inv hol hrow
        rintro ⟨i', own⟩ ⟨hi', inv, hol⟩
        dsimp only at hi' inv hol
        subst hi'
        unfold St.env
        dsimp only
        refine CG.seq ?_
        refine CG.region ?_
        refine OG.yield (Yield.assign rfl) rfl ?_
        refine OG.nil ?_
        refine QG.then ?_
        refine CG.seq ?_
        refine CG.region ?_
        refine OG.effd (Eff.makeMap vi vi) rfl ?_
        rintro r -
        refine OG.yield (Yield.assign rfl) rfl ?_
        refine OG.nil ?_
        refine QG.then ?_
        refine CG.seq ?_
        refine CG.seq ?_
        refine CG.region ?_
        refine OG.yield (Yield.assign rfl) rfl ?_
        refine OG.nil ?_
        refine QG.then ?_
        refine CG.block ?_
        refine CG.loop (fun s : Nat × List (Int × Int) => s.1 ≤ qs.length ∧ Keys own qs s.1 0 s.2) (fun s => (18, .int .i64 (below own s.1)) :: (19, .map (some r)) :: (20, .int .i64 s.1) :: St.env (some ⟨b, o, none⟩) ops.length c1 f tn a7 qs.length c7 ⟨i', own⟩) (fun s => hmap vi vi r s.2 :: St.G W f qs a7 c7 ⟨i', own⟩) (fun s => qs.length - s.1) (0, []) ⟨Nat.zero_le _, fun y hy => absurd rfl hy⟩ (by rw [show below own (0, ([] : List (Int × Int))).1 = 0 from below_zero own]; exact (by repeat (first | exact Env.sub_nil _ | refine Env.sub_cons rfl ?_))) (by repeat (first | exact Imp.refl _ | exact Imp.none _ | apply Imp.pull (by repeat (first | exact Ext.here | apply Ext.there)) | apply Imp.trans Imp.drop)) ?_
        rintro ⟨k, M⟩ ⟨hk, hkeys⟩
        unfold St.env
        dsimp only at hk hkeys ⊢
        refine CG.seq ?_
        refine CG.seq ?_
        refine CG.region ?_
        refine OG.yield (Yield.move rfl) rfl ?_
        refine OG.yield (Yield.move rfl) rfl ?_
        refine OG.yield (Yield.len_slice Try.underlying29 rfl rfl) rfl ?_
        refine OG.yield (by first | exact Yield.as (Yield.lss rfl rfl) (bT (by omega)) | exact Yield.as (Yield.lss rfl rfl) (bF (by omega)) | exact Yield.lss rfl rfl) rfl ?_
        refine OG.nil ?_
        refine QG.then ?_
        refine CG.cond rfl (fun hc => ?_) (fun hc => ?_)
        · try replace hc := of_decide_eq_true hc
          have hk1 : k < qs.length := by omega
          have hisP : isP qs k := ⟨by omega, by omega⟩
          have hgq : qs[k]? = some qs[k] := by simp [hk1]
          have hfew := inv.few k qs[k] hgq
          have hlk := left_in (own := own) hgq
          have hqk := hqm qs[k] (List.getElem_mem hk1)
          have hbl := below_le own k
          have hcl := cnt_le own k
          have htl := inv.tot
          have hbs := below_succ own k
          have hbl2 := below_le own (k + 1)
          generalize qs[k] = q at hgq hfew hlk hqk
          refine CG.pure (fun w hw => SlR.shape (SlR.of_osl (W0 := W) (E := 3) (sz := 1) (a := a7) (c := c7) (m := qs.length) (xs := iv qs) (by repeat (first | exact Ext.here | apply Ext.there))) (by intro h; have := iv_len qs; rw [h] at this; simp only [List.length_nil] at this; omega) w hw) ?_
          rintro ⟨b7, o7, rfl⟩
          refine CG.skip ?_
          refine QG.then ?_
          refine CG.seq ?_
          refine CG.block ?_
          refine CG.seq ?_
          refine CG.region ?_
          refine OG.yield (Yield.move rfl) rfl ?_
          refine OG.yield (Yield.move rfl) rfl ?_
          refine OG.callo call19 rfl ((by repeat (first | exact Imp.refl _ | exact Imp.none _ | apply Imp.pull (by repeat (first | exact Ext.here | apply Ext.there)) | apply Imp.trans Imp.drop))) (held_spec W _ (f := f) (own := own) (qs := qs) (k : Int)) rfl ?_
          rintro ⟨ax, cx⟩ -
          refine OG.yield (Yield.assign rfl) rfl ?_
          refine OG.nil ?_
          refine QG.then ?_
          have hxl := held_len (own := own) hisP
          refine CG.seq ?_
          refine CG.region ?_
          refine OG.yield (Yield.move rfl) rfl ?_
          refine OG.yield (Yield.move rfl) rfl ?_
          refine OG.yield (Yield.len_slice Try.underlying29 rfl rfl) rfl ?_
          refine OG.yield (Yield.add (c := (below own (k + 1) : Int)) rfl rfl (by rw [hxl, ← Int.natCast_add, ← hbs]; exact w64 (by omega) (by omega))) rfl ?_
          refine OG.yield (Yield.assign rfl) rfl ?_
          refine OG.nil ?_
          refine QG.then ?_
          refine CG.seq ?_
          refine CG.seq ?_
          refine CG.draw (.look 0 1 (.look 1 1 (.look 2 1 (.look 3 1 (.look 4 1 (.look 5 1 (.look 6 1 (.look 7 1 (.look 8 1 (.look 9 1 (.look 11 0 (.look 12 0 (.look 13 0 (.look 14 0 (.look 15 0 (.look 16 0 (.look 17 0 (.eff1 10 false (.look 18 1 (.look 19 1 (.done))))))))))))))))))))) [10] [] ([oiv (some ⟨b7, o7, none⟩) c7 qs]) ([]) mixed (by kernel_rfl) ((by repeat (first | exact Imp.refl _ | exact Imp.none _ | apply Imp.pull (by repeat (first | exact Ext.here | apply Ext.there)) | apply Imp.trans Imp.drop))) (Imp.none _) ?_
          refine DG.look rfl rfl (Yield.move rfl) rfl ?_
          refine DG.look rfl rfl (Yield.len_slice Try.underlying29 rfl rfl) rfl ?_
          refine DG.look rfl rfl (Yield.move rfl) rfl ?_
          refine DG.look rfl rfl (Yield.move rfl) rfl ?_
          refine DG.look rfl rfl (Yield.index_slice Try.underlying29 ti3 rfl rfl (by omega) (by omega)) rfl ?_
          refine DG.look rfl rfl (Yield.load (v := .int .i64 q) ti3 rfl (by rw [show o7 + (k : Int).toNat * 1 = o7 + k by omega]; exact (SlR.of_osl (E := 3) (a := some ⟨b7, o7, none⟩) (by repeat (first | exact Ext.here | apply Ext.there))).cel (iv_get hgq))) rfl ?_
          refine DG.look rfl rfl (by first | exact Yield.as (Yield.gtr rfl rfl) (bT (by omega)) | exact Yield.as (Yield.gtr rfl rfl) (bF (by omega)) | exact Yield.gtr rfl rfl) rfl ?_
          refine DG.look rfl rfl (Yield.move rfl) rfl ?_
          refine DG.look rfl rfl (Yield.move rfl) rfl ?_
          refine DG.look rfl rfl (Yield.move rfl) rfl ?_
          refine DG.look rfl rfl (Yield.move rfl) rfl ?_
          refine DG.look rfl rfl (Yield.move rfl) rfl ?_
          refine DG.look rfl rfl (Yield.index_slice Try.underlying29 ti3 rfl rfl (by omega) (by omega)) rfl ?_
          refine DG.look rfl rfl (Yield.load (v := .int .i64 q) ti3 rfl (by rw [show o7 + (k : Int).toNat * 1 = o7 + k by omega]; exact (SlR.of_osl (E := 3) (a := some ⟨b7, o7, none⟩) Ext.here).cel (iv_get hgq))) rfl ?_
          refine DG.look rfl rfl (Yield.move rfl) rfl ?_
          refine DG.look rfl rfl (Yield.len_slice Try.underlying29 rfl rfl) rfl ?_
          refine DG.look rfl rfl (Yield.sub rfl rfl (w64 (by omega) (by omega))) rfl ?_
          refine DG.eff1 ?_
          refine Chg.callo rfl rfl call17 rfl ((by repeat (first | exact Imp.refl _ | exact Imp.none _ | apply Imp.pull (by repeat (first | exact Ext.here | apply Ext.there)) | apply Imp.trans Imp.drop))) (left_spec W _ (own := own) (k : Int) hqm) rfl (fun _ => (by repeat (first | exact Imp.refl _ | exact Imp.none _ | apply Imp.pull (by repeat (first | exact Ext.here | apply Ext.there)) | apply Imp.trans Imp.drop))) (fun _ => Imp.refl _) (fun _ => (by repeat (first | exact Imp.refl _ | exact Imp.none _ | apply Imp.pull (by repeat (first | exact Ext.here | apply Ext.there)) | apply Imp.trans Imp.drop))) ?_
          rintro ⟨⟩ -
          refine DG.look rfl rfl (Yield.as (Yield.neq rfl rfl) (bF (by omega))) rfl ?_
          refine DG.look rfl rfl (by first | exact Yield.pick_t rfl rfl | exact Yield.pick_f rfl rfl | exact Yield.pick rfl (fun _ => rfl) (fun _ => rfl)) rfl ?_
          refine DG.done ?_
          refine QG.then ?_
          refine CG.cond_f rfl ?_
          refine CG.skip ?_
          refine QG.then ?_
          refine CG.seq ?_
          refine CG.region ?_
          refine OG.yield (Yield.assign rfl) rfl ?_
          refine OG.nil ?_
          refine QG.then ?_
          refine CG.block ?_
          refine CG.loop (fun s : Nat × List (Int × Int) => s.1 ≤ (held own qs k).length ∧ Keys own qs k s.1 s.2) (fun s => (18, .int .i64 (below own (k + 1))) :: (19, .map (some r)) :: (20, .int .i64 k) :: (21, .slice ax (held own qs k).length cx) :: (22, .int .i64 s.1) :: St.env (some ⟨b, o, none⟩) ops.length c1 f tn (some ⟨b7, o7, none⟩) qs.length c7 ⟨i', own⟩) (fun s => oiv ax cx (held own qs k) :: hmap vi vi r s.2 :: St.G W f qs (some ⟨b7, o7, none⟩) c7 ⟨i', own⟩) (fun s => (held own qs k).length - s.1) (0, M) ⟨Nat.zero_le _, hkeys⟩ (by repeat (first | exact Env.sub_nil _ | refine Env.sub_cons rfl ?_)) (by repeat (first | exact Imp.refl _ | exact Imp.none _ | apply Imp.pull (by repeat (first | exact Ext.here | apply Ext.there)) | apply Imp.trans Imp.drop)) ?_
          rintro ⟨j, M⟩ ⟨hj, hkeys⟩
          unfold St.env
          dsimp only at hj hkeys ⊢
          refine CG.seq ?_
          refine CG.seq ?_
          refine CG.region ?_
          refine OG.yield (Yield.move rfl) rfl ?_
          refine OG.yield (Yield.move rfl) rfl ?_
          refine OG.yield (Yield.len_slice Try.underlying29 rfl rfl) rfl ?_
          refine OG.yield (by first | exact Yield.as (Yield.lss rfl rfl) (bT (by omega)) | exact Yield.as (Yield.lss rfl rfl) (bF (by omega)) | exact Yield.lss rfl rfl) rfl ?_
          refine OG.nil ?_
          refine QG.then ?_
          refine CG.cond rfl (fun hc => ?_) (fun hc => ?_)
          · try replace hc := of_decide_eq_true hc
            have hj1 : j < (held own qs k).length := by omega
            obtain ⟨n, hgx, hox⟩ := held_at hisP hj1
            have hnl := (List.getElem?_eq_some_iff.1 hox).1
            have hfresh := keys_fresh hkeys hisP hgx hox
            refine CG.pure (fun w hw => SlR.shape (SlR.of_osl (W0 := W) (E := 3) (sz := 1) (a := ax) (c := cx) (m := (held own qs k).length) (xs := iv (held own qs k)) (by repeat (first | exact Ext.here | apply Ext.there))) (by intro h; have := iv_len (held own qs k); rw [h] at this; simp only [List.length_nil] at this; omega) w hw) ?_
            rintro ⟨bx, ox, rfl⟩
            refine CG.skip ?_
            refine QG.then ?_
            refine CG.seq ?_
            refine CG.block ?_
            refine CG.seq ?_
            refine CG.region ?_
            refine OG.yield (Yield.move rfl) rfl ?_
            refine OG.yield (Yield.move rfl) rfl ?_
            refine OG.yield (Yield.move rfl) rfl ?_
            refine OG.yield (Yield.index_slice Try.underlying29 ti3 rfl rfl (by omega) (by omega)) rfl ?_
            refine OG.yield (Yield.load (v := .int .i64 n) ti3 rfl (by rw [show ox + (j : Int).toNat * 1 = ox + j by omega]; exact (SlR.of_osl (a := some ⟨bx, ox, none⟩) (by repeat (first | exact Ext.here | apply Ext.there))).cel (iv_get hgx))) rfl ?_
            refine OG.yield (Yield.as (Yield.lookup vi vi (l := M) Try.underlying40 ti3 keyInt (n : Int) rfl rfl (by repeat (first | exact Ext.here | apply Ext.there))) (v' := .int .i64 0) (by rw [hfresh]; rfl)) rfl ?_
            refine OG.yield (Yield.add rfl rfl (w64 (by omega) (by omega))) rfl ?_
            refine OG.eff (Eff.mapUpdate vi vi Try.underlying40 keyInt (n : Int) 1 rfl rfl rfl (by repeat (first | exact Foc.here | apply Foc.there))) rfl ?_
            rintro ⟨⟩ -
            refine OG.nil ?_
            refine QG.then ?_
            refine CG.seq ?_
            refine CG.region ?_
            refine OG.yield (Yield.move rfl) rfl ?_
            refine OG.yield (Yield.move rfl) rfl ?_
            refine OG.yield (Yield.move rfl) rfl ?_
            refine OG.yield (Yield.index_slice Try.underlying29 ti3 rfl rfl (by omega) (by omega)) rfl ?_
            refine OG.yield (Yield.load (v := .int .i64 n) ti3 rfl (by rw [show ox + (j : Int).toNat * 1 = ox + j by omega]; exact (SlR.of_osl (a := some ⟨bx, ox, none⟩) (by repeat (first | exact Ext.here | apply Ext.there))).cel (iv_get hgx))) rfl ?_
            refine OG.yield (Yield.as (Yield.lookup vi vi (l := mset M (n : Int) 1) Try.underlying40 ti3 keyInt (n : Int) rfl rfl (by repeat (first | exact Ext.here | apply Ext.there))) (v' := .int .i64 1) (by rw [mget_mset, if_pos rfl]; rfl)) rfl ?_
            refine OG.yield (by first | exact Yield.as (Yield.gtr rfl rfl) (bT (by omega)) | exact Yield.as (Yield.gtr rfl rfl) (bF (by omega)) | exact Yield.gtr rfl rfl) rfl ?_
            refine OG.yield (Yield.move rfl) rfl ?_
            refine OG.guard_yes rfl rfl rfl (by decide) ?_
            refine OG.yield (Yield.move rfl) rfl ?_
            refine OG.guard_yes rfl rfl rfl (by decide) ?_
            refine OG.yield (Yield.move rfl) rfl ?_
            refine OG.guard_yes rfl rfl rfl (by decide) ?_
            refine OG.yield (Yield.move rfl) rfl ?_
            refine OG.guard_yes rfl rfl rfl (by decide) ?_
            refine OG.yield (Yield.index_slice Try.underlying29 ti3 rfl rfl (by omega) (by omega)) rfl ?_
            refine OG.guard_yes rfl rfl rfl (by decide) ?_
            refine OG.yield (Yield.load (v := .int .i64 n) ti3 rfl (by rw [show ox + (j : Int).toNat * 1 = ox + j by omega]; exact (SlR.of_osl (a := some ⟨bx, ox, none⟩) (by repeat (first | exact Ext.here | apply Ext.there))).cel (iv_get hgx))) rfl ?_
            refine OG.guard_yes rfl rfl rfl (by decide) ?_
            refine OG.callo call16 rfl ((by repeat (first | exact Imp.refl _ | exact Imp.none _ | apply Imp.pull (by repeat (first | exact Ext.here | apply Ext.there)) | apply Imp.trans Imp.drop))) (owner_spec W _ (own := own) (n : Int) (x := (k : Int)) (.inl ⟨n, rfl, hox⟩)) rfl ?_
            rintro ⟨⟩ -
            refine OG.guard_yes rfl rfl rfl (by decide) ?_
            refine OG.yield (Yield.move rfl) rfl ?_
            refine OG.guard_yes rfl rfl rfl (by decide) ?_
            refine OG.yield (by first | exact Yield.as (Yield.neq rfl rfl) (bT (by omega)) | exact Yield.as (Yield.neq rfl rfl) (bF (by omega)) | exact Yield.neq rfl rfl) rfl ?_
            refine OG.yield (by first | exact Yield.pick_t rfl rfl | exact Yield.pick_f rfl rfl | exact Yield.pick rfl (fun _ => rfl) (fun _ => rfl)) rfl ?_
            refine OG.yield (Yield.move rfl) rfl ?_
            refine OG.guard_yes rfl rfl rfl (by decide) ?_
            refine OG.yield (Yield.move rfl) rfl ?_
            refine OG.guard_yes rfl rfl rfl (by decide) ?_
            refine OG.yield (Yield.move rfl) rfl ?_
            refine OG.guard_yes rfl rfl rfl (by decide) ?_
            refine OG.yield (Yield.index_slice Try.underlying29 ti3 rfl rfl (by omega) (by omega)) rfl ?_
            refine OG.guard_yes rfl rfl rfl (by decide) ?_
            refine OG.yield (Yield.load (v := .int .i64 n) ti3 rfl (by rw [show ox + (j : Int).toNat * 1 = ox + j by omega]; exact (SlR.of_osl (a := some ⟨bx, ox, none⟩) (by repeat (first | exact Ext.here | apply Ext.there))).cel (iv_get hgx))) rfl ?_
            refine OG.guard_yes rfl rfl rfl (by decide) ?_
            refine OG.yield (by first | exact Yield.as (Yield.lss rfl rfl) (bT (by omega)) | exact Yield.as (Yield.lss rfl rfl) (bF (by omega)) | exact Yield.lss rfl rfl) rfl ?_
            refine OG.yield (by first | exact Yield.pick_t rfl rfl | exact Yield.pick_f rfl rfl | exact Yield.pick rfl (fun _ => rfl) (fun _ => rfl)) rfl ?_
            refine OG.yield (Yield.move rfl) rfl ?_
            refine OG.guard_yes rfl rfl rfl (by decide) ?_
            refine OG.yield (Yield.move rfl) rfl ?_
            refine OG.guard_yes rfl rfl rfl (by decide) ?_
            refine OG.yield (Yield.move rfl) rfl ?_
            refine OG.guard_yes rfl rfl rfl (by decide) ?_
            refine OG.yield (Yield.index_slice Try.underlying29 ti3 rfl rfl (by omega) (by omega)) rfl ?_
            refine OG.guard_yes rfl rfl rfl (by decide) ?_
            refine OG.yield (Yield.load (v := .int .i64 n) ti3 rfl (by rw [show ox + (j : Int).toNat * 1 = ox + j by omega]; exact (SlR.of_osl (a := some ⟨bx, ox, none⟩) (by repeat (first | exact Ext.here | apply Ext.there))).cel (iv_get hgx))) rfl ?_
            refine OG.guard_yes rfl rfl rfl (by decide) ?_
            refine OG.yield (Yield.move rfl) rfl ?_
            refine OG.guard_yes rfl rfl rfl (by decide) ?_
            refine OG.yield (by first | exact Yield.as (Yield.geq rfl rfl) (bT (by omega)) | exact Yield.as (Yield.geq rfl rfl) (bF (by omega)) | exact Yield.geq rfl rfl) rfl ?_
            refine OG.yield (by first | exact Yield.pick_t rfl rfl | exact Yield.pick_f rfl rfl | exact Yield.pick rfl (fun _ => rfl) (fun _ => rfl)) rfl ?_
            refine OG.nil ?_
            refine QG.then ?_
            refine CG.cond_f rfl ?_
            refine CG.skip ?_
            refine QG.block_normal ?_
            refine QG.then ?_
            refine CG.region ?_
            refine OG.yield (Yield.move rfl) rfl ?_
            refine OG.yield (Yield.add rfl rfl (w64 (by omega) (by omega))) rfl ?_
            refine OG.yield (Yield.assign rfl) rfl ?_
            refine OG.nil ?_
            exact QG.next (j + 1, mset M (n : Int) 1) ⟨by simp only; omega, keys_step hkeys hgx 1⟩ (by simp only; omega) (by repeat (first | exact Env.sub_nil _ | refine Env.sub_cons rfl ?_)) (by repeat (first | exact Imp.refl _ | exact Imp.none _ | apply Imp.pull (by repeat (first | exact Ext.here | apply Ext.there)) | apply Imp.trans Imp.drop))
          · try replace hc := of_decide_eq_false hc
            refine CG.exit ?_
            refine QG.pass_exit ?_
            refine QG.pass_exit ?_
            refine QG.block_exit ?_
            refine QG.block_normal ?_
            refine QG.then ?_
            refine CG.region ?_
            refine OG.yield (Yield.move rfl) rfl ?_
            refine OG.yield (Yield.add rfl rfl (w64 (by omega) (by omega))) rfl ?_
            refine OG.yield (Yield.assign rfl) rfl ?_
            refine OG.nil ?_
            have hjl : j = (held own qs k).length := by omega
            subst hjl
            exact QG.next (k + 1, M) ⟨by simp only; omega, keys_next hkeys hisP⟩ (by simp only; omega) (by repeat (first | exact Env.sub_nil _ | refine Env.sub_cons rfl ?_)) (by repeat (first | exact Imp.refl _ | exact Imp.none _ | apply Imp.pull (by repeat (first | exact Ext.here | apply Ext.there)) | apply Imp.trans Imp.drop))
        · try replace hc := of_decide_eq_false hc
          refine CG.exit ?_
          refine QG.pass_exit ?_
          refine QG.pass_exit ?_
          refine QG.block_exit ?_
          refine QG.then ?_
          refine CG.seq ?_
          have hkq : k = qs.length := by omega
          subst hkq
          have hba := below_all inv
          have htl := inv.tot
          refine CG.region ?_
          refine OG.yield (Yield.move rfl) rfl ?_
          refine OG.yield (Yield.move rfl) rfl ?_
          refine OG.callo call20 rfl ((by repeat (first | exact Imp.refl _ | exact Imp.none _ | apply Imp.pull (by repeat (first | exact Ext.here | apply Ext.there)) | apply Imp.trans Imp.drop))) (free_spec W _ (own := own) (qs := qs)) rfl ?_
          rintro ⟨⟩ -
          refine OG.yield (Yield.add rfl rfl (w64 (by omega) (by omega))) rfl ?_
          refine OG.yield (Yield.move rfl) rfl ?_
          refine OG.yield (by first | exact Yield.as (Yield.neq rfl rfl) (bT (by omega)) | exact Yield.as (Yield.neq rfl rfl) (bF (by omega)) | exact Yield.neq rfl rfl) rfl ?_
          refine OG.nil ?_
          refine QG.then ?_
          refine CG.cond_f rfl ?_
          refine CG.skip ?_
          refine QG.block_normal ?_
          refine QG.then ?_
          refine CG.region ?_
          refine OG.yield (Yield.move rfl) rfl ?_
          refine OG.yield (Yield.add rfl rfl (w64 (by omega) (by omega))) rfl ?_
          refine OG.yield (Yield.assign rfl) rfl ?_
          refine OG.nil ?_
          exact QG.next ⟨i' + 1, own⟩ ⟨by simp only; omega, inv, hol⟩ (by simp only; omega) (by repeat (first | exact Env.sub_nil _ | refine Env.sub_cons rfl ?_)) (by repeat (first | exact Imp.refl _ | exact Imp.none _ | apply Imp.pull (by repeat (first | exact Ext.here | apply Ext.there)) | apply Imp.trans Imp.drop))
      · try replace hc := of_decide_eq_false hc
        refine CG.exit ?_
        refine QG.pass_exit ?_
        refine QG.pass_exit ?_
        refine QG.block_exit ?_
        refine QG.then ?_
        refine CG.seq ?_
        refine CG.region ?_
        refine OG.yield (Yield.assign rfl) rfl ?_
        refine OG.nil ?_
        refine QG.then ?_
        refine CG.ret ?_
        exact QG.ret1 rfl rfl () trivial rfl (by repeat (first | exact Imp.refl _ | exact Imp.none _ | apply Imp.pull (by repeat (first | exact Ext.here | apply Ext.there)) | apply Imp.trans Imp.drop))
open Go.ChangeShapes Go.WideShapes Go.ChangeAt
theorem own : ownKnob Try.prog.godebug = none := by kernel_rfl
theorem laid : laidOutB Try.prog = true := by kernel_rfl
set_option maxRecDepth 100000 in
theorem lifted (os : Os) (started : os.Started) (H : Type) (enc : TypeId × Value → H) :
    ReturnsInHanded {} Try.checked os 5 .any (Rows.framesApartSpec.pre6 enc Try.prog Try.f5 Rows.framesApartRow.domain false) (Rows.framesApartSpec.post enc Try.prog Try.f5 false true false false) := by
  refine returnsInHanded_of_change_sized (C := Try.checked) own started (by kernel_rfl) Try.func5
    (ChangeSpec.witness6 (enc := enc) (C := Try.checked) false ⟨#[], #[.slice none 0 0, .slice none 0 0], []⟩ 8 (by kernel_rfl) (by kernel_rfl) (by kernel_rfl) (by kernel_rfl)) ?_
  intro W base args ds gs before hval0 hW hcnd hsz0 _
  have hsz : (DataW.weightsEach Try.prog (Try.f5.params.toList ++ Rows.framesApartSpec.plain.varTypes Try.prog) (ds ++ gs)).all (· ≤ reachBytes) = true := hsz0
  have hval : ∀ (j : Nat) t v, Try.f5.params[j]? = some t → args[j]? = some v → Value.okWide Try.prog W .any base t v := hval0
  have hW' := hW
  obtain ⟨p, q, hA0, hV, rfl, hfz, hnd⟩ := hW
  have hA : DataW.TrodAll enc Try.prog W 0 (fun _ => true) true Try.f5.params.toList args.toList ds p := hA0
  rw [Try.params5] at hA hval hsz
  obtain ⟨v0, vs0, d0, ds0, p0, q0, hargs, rfl, rfl, h0, r0⟩ := trodAll_cons hA
  obtain ⟨v1, vs1, d1, ds1, p1, q1, rfl, rfl, rfl, h1, r1⟩ := trodAll_cons r0
  obtain ⟨rfl, rfl, rfl⟩ := trodAll_nil r1
  obtain rfl : args = #[v0, v1] := by cases args; simp_all
  obtain ⟨rfl, rfl⟩ := trodVars_none hV
  have k0 := weights_le hsz 0 (t := 29) (d := d0) rfl rfl
  have s0 := Opn.param Try.underlying29 (Opn.ints (by' := 8) Try.underlying29 Try.underlying3 (by kernel_rfl) (by kernel_rfl)) (hval 0 29 v0 rfl rfl) h0 k0
  obtain ⟨x0, c0, qs, e0, l0, ok0, s0, m0⟩ := s0
  cases e0
  have k1 := weights_le hsz 1 (t := 22) (d := d1) rfl rfl
  have s1 := Opn.param Try.underlying22 (FAct.list W) (hval 1 22 v1 rfl rfl) h1 k1
  obtain ⟨x1, c1, ops, e1, l1, ok1, s1, m1⟩ := s1
  cases e1
  clear hA0 hval0 hsz0 hsz
  refine ((walk W s0 s1) W (Sat.start W)).mono fun e W' he => ?_
  obtain ⟨_, _, he, hs⟩ := he
  subst he
  exact ⟨_, rfl, law_post laid (params_ok (by kernel_rfl)) rfl Try.underlying4 hW' rfl rfl (Sat.below (by repeat (first | exact Ext.here | apply Ext.there)) hs)⟩
theorem over : Rows.framesApartRow.holds Try.pinned (OpenSpec.ofChange Rows.framesApartSpec) :=
  OpenClaim.holds_of_wide 5 Try.f5 rfl rfl rfl rfl rfl rfl rfl ⟨rfl, rfl, rfl, rfl, rfl⟩ rfl rfl rfl rfl rfl (by kernel_rfl) Try.func5 (by kernel_rfl)
    (of_decide_eq_true (by kernel_rfl)) (by unfold Func.isWrapper; first | (rw [if_pos (by decide +kernel)]; kernel_rfl) | (rw [if_neg (by decide +kernel)]; exact ⟨rfl, rfl⟩))
    (fun os started H enc _ => lifted os started H enc)
theorem proved : Rows.FramesApartSaid := over
#print axioms proved
end Go.Proofs.Ytjigjbcdopmeeaa.framesApart
