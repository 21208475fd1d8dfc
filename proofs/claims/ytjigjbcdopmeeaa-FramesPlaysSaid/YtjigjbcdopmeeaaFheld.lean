/- frames: Held, Clone, and what any Take or Give comes to. -/
import Derived.Test.YtjigjbcdopmeeaaFrames
namespace Go.Proofs.Ytjigjbcdopmeeaa.Fz
open Go Go.Sl Go.RowKit Go.Proofs Go.Proofs.Ytjigjbcdopmeeaa.T
set_option linter.unusedVariables false
set_option linter.unusedSimpArgs false
set_option maxRecDepth 100000
/-- Whose frames below i are somebody's. -/
def heldI (own : List Int) (p : Int) (i : Nat) : List Int := ((List.range i).filter fun n => decide (own[n]? = some p)).map Int.ofNat
theorem heldI_succ {own : List Int} {p x : Int} {i : Nat} (h : own[i]? = some x) : heldI own p (i + 1) = if x = p then heldI own p i ++ [(i : Int)] else heldI own p i := by
  unfold heldI
  rw [List.range_succ, List.filter_append, List.map_append]
  by_cases hx : x = p
  · rw [if_pos hx]; simp [h, hx]
  · rw [if_neg hx]; simp [h, hx]
theorem heldI_len {own : List Int} {p : Int} : ∀ {i : Nat}, i ≤ own.length → (heldI own p i).length = cnt (own.take i) p
  | 0, _ => by simp [heldI, cnt]
  | i + 1, hi => by
    have hget : own[i]? = some own[i] := by simp [show i < own.length by omega]
    rw [heldI_succ hget, cnt_take hget]
    have ih := heldI_len (own := own) (p := p) (i := i) (by omega)
    by_cases hx : own[i] = p
    · rw [if_pos hx, if_pos hx, List.length_append, ih]; rfl
    · rw [if_neg hx, if_neg hx, ih]; rfl
theorem heldI_mem {own : List Int} {p y : Int} {i : Nat} : y ∈ heldI own p i ↔ ∃ n : Nat, y = n ∧ n < i ∧ own[n]? = some p := by
  unfold heldI
  simp only [List.mem_map, List.mem_filter, List.mem_range, decide_eq_true_eq]
  constructor
  · rintro ⟨n, ⟨h1, h2⟩, rfl⟩; exact ⟨n, rfl, h1, h2⟩
  · rintro ⟨n, rfl, h1, h2⟩; exact ⟨n, ⟨h1, h2⟩, rfl⟩
theorem heldI_nodup (own : List Int) (p : Int) (i : Nat) : (heldI own p i).Nodup := by
  unfold heldI
  refine List.Pairwise.map (R := (· ≠ ·)) _ (fun a b h q => h (Int.ofNat.inj q)) ?_
  exact List.Pairwise.filter _ List.nodup_range
/-- A partition's frames. -/
def held (own qs : List Int) (p : Int) : List Int := if isP qs p then heldI own p own.length else []
theorem held_len {own qs : List Int} {p : Int} (h : isP qs p) : (held own qs p).length = cnt own p := by
  unfold held; rw [if_pos h, heldI_len (Nat.le_refl _), List.take_length]
theorem held_at {own qs : List Int} {p : Int} {k : Nat} (h : isP qs p) (hk : k < (held own qs p).length) : ∃ n : Nat, (held own qs p)[k]? = some (n : Int) ∧ own[n]? = some p := by
  have hg : (held own qs p)[k]? = some (held own qs p)[k] := List.getElem?_eq_getElem hk
  have hm := List.mem_of_getElem? hg
  have e : held own qs p = heldI own p own.length := by unfold held; rw [if_pos h]
  generalize (held own qs p)[k] = y at hg hm
  rw [e, heldI_mem] at hm
  obtain ⟨n, rfl, _, ho⟩ := hm
  exact ⟨n, hg, ho⟩
section
variable (W0 : World) (Fr : List HProp)
theorem held_spec {f : Nat} {own qs : List Int} (p : Int) : Ctr Try.prog W0 19 [.pointer (some ⟨f, 0, none⟩), .int .i64 p] (F f own qs :: Fr) (fun _ : PA => True) (fun q => .slice q.1 (held own qs p).length q.2) (fun q => oiv q.1 q.2 (held own qs p) :: F f own qs :: Fr) := by
  refine Ctr.pure (ψ := own.length ≤ 1024) (fun w hw => by obtain ⟨_, _, _, hl, _⟩ := Sat.ext Ext.here hw; exact hl) fun hl0 => ?_
  refine Ctr.of_body Try.func19 rfl Try.ntmps19 rfl ?_
  refine CG.seq ?_
  refine CG.region ?_
  refine OG.yield (Yield.assign rfl) rfl ?_
  refine OG.nil ?_
  refine QG.then ?_
  refine CG.seq ?_
  refine CG.region ?_
  refine OG.yield (Yield.assign rfl) rfl ?_
  refine OG.nil ?_
  refine QG.then ?_
  refine CG.ex (A := F f own qs) (by repeat (first | exact Ext.here | apply Ext.there)) f_open ?_
  rintro ⟨a, c⟩ hl
  refine CG.imp star_open ?_
  dsimp only [FO, List.cons_append, List.nil_append]
  refine CG.seq ?_
  refine CG.seq ?_
  refine CG.region ?_
  refine OG.yield (Yield.move rfl) rfl ?_
  refine OG.yield (Yield.nilCheck rfl) rfl ?_
  refine OG.yield (Yield.fieldAddr fa78_1 rfl) rfl ?_
  refine OG.yield (Yield.load (v := .int .i64 own.length) ti3 rfl (Cel.of_blk (b := f) (by repeat (first | exact Ext.here | apply Ext.there)) (fc_tot hl))) rfl ?_
  refine OG.yield (Yield.move rfl) rfl ?_
  refine OG.nil ?_
  refine QG.then ?_
  refine CG.block ?_
  refine CG.loop (fun i : Nat × PA => i.1 ≤ own.length) (fun i => [(0, .pointer (some ⟨f, 0, none⟩)), (1, .int .i64 p), (5, .slice i.2.1 (if isP qs p then heldI own p i.1 else []).length i.2.2), (10, .int .i64 own.length), (11, .int .i64 i.1)]) (fun i => oiv i.2.1 i.2.2 (if isP qs p then heldI own p i.1 else []) :: F f own qs :: Fr) (fun i => own.length - i.1) (0, none, 0) (Nat.zero_le _) ?_ ?_ ?_
  · rw [show (if isP qs p then heldI own p 0 else []) = [] by simp [heldI]]; exact (by repeat (first | exact Env.sub_nil _ | refine Env.sub_cons rfl ?_))
  · dsimp only; rw [show (if isP qs p then heldI own p 0 else []) = [] by simp [heldI]]; exact Imp.trans (osl_nil (E := 3) (sz := 1)) (Imp.cons (Imp.trans (by repeat (first | exact Imp.refl _ | exact Imp.none _ | apply Imp.pull (by repeat (first | exact Ext.here | apply Ext.there)) | apply Imp.trans Imp.drop)) (f_close (a, c) hl)))
  rintro ⟨i, a5, c5⟩ (hi : i ≤ own.length)
  dsimp only
  refine CG.seq ?_
  refine CG.region ?_
  refine OG.yield (by first | exact Yield.as (Yield.lss rfl rfl) (bT (by omega)) | exact Yield.as (Yield.lss rfl rfl) (bF (by omega)) | exact Yield.lss rfl rfl) rfl ?_
  refine OG.nil ?_
  refine QG.then ?_
  refine CG.seq ?_
  refine CG.cond rfl (fun hc => ?_) (fun hc => ?_)
  · try replace hc := of_decide_eq_true hc
    have hi' : i < own.length := by omega
    have hget : own[i]? = some own[i] := by simp [hi']
    generalize own[i] = x at hget
    have hsc := heldI_succ (p := p) hget
    refine CG.skip ?_
    refine QG.then ?_
    refine CG.seq ?_
    refine CG.block ?_
    refine CG.seq ?_
    refine CG.region ?_
    refine OG.yield (Yield.move rfl) rfl ?_
    refine OG.yield (Yield.assign rfl) rfl ?_
    refine OG.nil ?_
    refine QG.then ?_
    refine CG.seq ?_
    rcases (show ¬ isP qs p ∨ (isP qs p ∧ x ≠ p) ∨ (isP qs p ∧ x = p) by omega) with hh | ⟨hh, hx⟩ | ⟨hh, hx⟩
    · skip
      refine CG.region ?_
      refine OG.yield (Yield.move rfl) rfl ?_
      refine OG.yield (Yield.move rfl) rfl ?_
      refine OG.callo call42 rfl ((by repeat (first | exact Imp.refl _ | exact Imp.none _ | apply Imp.pull (by repeat (first | exact Ext.here | apply Ext.there)) | apply Imp.trans Imp.drop))) (part_spec W0 _ (f := f) (own := own) (qs := qs) p) rfl ?_
      rintro ⟨⟩ -
      first | rw [decide_eq_true hh] | rw [decide_eq_false hh]
      refine OG.ex (A := F f own qs) (by repeat (first | exact Ext.here | apply Ext.there)) f_open ?_
      rintro ⟨a, c⟩ hl
      refine OG.imp star_open ?_
      dsimp only [FO, List.cons_append, List.nil_append]
      refine OG.yield (Yield.move rfl) rfl ?_
      refine OG.guard_no rfl rfl rfl rfl rfl (by decide) (by decide) ?_
      refine OG.guard_no rfl rfl rfl rfl rfl (by decide) (by decide) ?_
      refine OG.guard_no rfl rfl rfl rfl rfl (by decide) (by decide) ?_
      refine OG.guard_no rfl rfl rfl rfl rfl (by decide) (by decide) ?_
      refine OG.guard_no rfl rfl rfl rfl rfl (by decide) (by decide) ?_
      refine OG.guard_no rfl rfl rfl rfl rfl (by decide) (by decide) ?_
      refine OG.guard_no rfl rfl rfl rfl rfl (by decide) (by decide) ?_
      refine OG.guard_no rfl rfl rfl rfl rfl (by decide) (by decide) ?_
      refine OG.yield (by first | exact Yield.pick_t rfl rfl | exact Yield.pick_f rfl rfl | exact Yield.pick rfl (fun _ => rfl) (fun _ => rfl)) rfl ?_
      refine OG.nil ?_
      refine QG.then ?_
      refine CG.cond_f rfl ?_
      refine CG.skip ?_
      refine QG.block_normal ?_
      refine QG.then ?_
      refine CG.region ?_
      refine OG.yield (Yield.add rfl rfl (w64 (by omega) (by omega))) rfl ?_
      refine OG.yield (Yield.move rfl) rfl ?_
      refine OG.nil ?_
      refine QG.next (i + 1, a5, c5) (show i + 1 ≤ own.length by omega) (show own.length - (i + 1) < own.length - i by omega) ?_ ?_
      · rw [if_neg hh, if_neg hh]; exact (by repeat (first | exact Env.sub_nil _ | refine Env.sub_cons rfl ?_))
      · dsimp only; rw [if_neg hh, if_neg hh]; exact Imp.trans (by repeat (first | exact Imp.refl _ | exact Imp.none _ | apply Imp.pull (by repeat (first | exact Ext.here | apply Ext.there)) | apply Imp.trans Imp.drop)) (Imp.cons (f_close (a, c) hl))
    · skip
      refine CG.region ?_
      refine OG.yield (Yield.move rfl) rfl ?_
      refine OG.yield (Yield.move rfl) rfl ?_
      refine OG.callo call42 rfl ((by repeat (first | exact Imp.refl _ | exact Imp.none _ | apply Imp.pull (by repeat (first | exact Ext.here | apply Ext.there)) | apply Imp.trans Imp.drop))) (part_spec W0 _ (f := f) (own := own) (qs := qs) p) rfl ?_
      rintro ⟨⟩ -
      first | rw [decide_eq_true hh] | rw [decide_eq_false hh]
      refine OG.ex (A := F f own qs) (by repeat (first | exact Ext.here | apply Ext.there)) f_open ?_
      rintro ⟨a, c⟩ hl
      refine OG.imp star_open ?_
      dsimp only [FO, List.cons_append, List.nil_append]
      refine OG.yield (Yield.move rfl) rfl ?_
      refine OG.guard_yes rfl rfl rfl (by decide) ?_
      refine OG.yield (Yield.move rfl) rfl ?_
      refine OG.guard_yes rfl rfl rfl (by decide) ?_
      refine OG.yield (Yield.move rfl) rfl ?_
      refine OG.guard_yes rfl rfl rfl (by decide) ?_
      refine OG.yield (Yield.nilCheck rfl) rfl ?_
      refine OG.guard_yes rfl rfl rfl (by decide) ?_
      refine OG.yield (Yield.fieldAddr fa78_0 rfl) rfl ?_
      refine OG.guard_yes rfl rfl rfl (by decide) ?_
      refine OG.yield (Yield.index_array Try.underlying76 ti3 rfl rfl (by omega) (by omega)) rfl ?_
      refine OG.guard_yes rfl rfl rfl (by decide) ?_
      refine OG.yield (Yield.load (v := .int .i64 x) ti3 rfl (Cel.of_blk (b := f) (by repeat (first | exact Ext.here | apply Ext.there)) (by rw [show 0 + 0 + (i : Int).toNat * 1 = i by omega]; exact fc_get hl hget))) rfl ?_
      refine OG.guard_yes rfl rfl rfl (by decide) ?_
      refine OG.yield (Yield.move rfl) rfl ?_
      refine OG.guard_yes rfl rfl rfl (by decide) ?_
      refine OG.yield (Yield.as (Yield.eql rfl rfl) (bF hx)) rfl ?_
      refine OG.yield (by first | exact Yield.pick_t rfl rfl | exact Yield.pick_f rfl rfl | exact Yield.pick rfl (fun _ => rfl) (fun _ => rfl)) rfl ?_
      refine OG.nil ?_
      refine QG.then ?_
      refine CG.cond_f rfl ?_
      refine CG.skip ?_
      refine QG.block_normal ?_
      refine QG.then ?_
      refine CG.region ?_
      refine OG.yield (Yield.add rfl rfl (w64 (by omega) (by omega))) rfl ?_
      refine OG.yield (Yield.move rfl) rfl ?_
      refine OG.nil ?_
      refine QG.next (i + 1, a5, c5) (show i + 1 ≤ own.length by omega) (show own.length - (i + 1) < own.length - i by omega) ?_ ?_
      · rw [if_pos hh, if_pos hh]; dsimp only; rw [hsc, if_neg hx]; exact (by repeat (first | exact Env.sub_nil _ | refine Env.sub_cons rfl ?_))
      · dsimp only; rw [if_pos hh, if_pos hh, hsc, if_neg hx]; exact Imp.trans (by repeat (first | exact Imp.refl _ | exact Imp.none _ | apply Imp.pull (by repeat (first | exact Ext.here | apply Ext.there)) | apply Imp.trans Imp.drop)) (Imp.cons (f_close (a, c) hl))
    · skip
      refine CG.region ?_
      refine OG.yield (Yield.move rfl) rfl ?_
      refine OG.yield (Yield.move rfl) rfl ?_
      refine OG.callo call42 rfl ((by repeat (first | exact Imp.refl _ | exact Imp.none _ | apply Imp.pull (by repeat (first | exact Ext.here | apply Ext.there)) | apply Imp.trans Imp.drop))) (part_spec W0 _ (f := f) (own := own) (qs := qs) p) rfl ?_
      rintro ⟨⟩ -
      first | rw [decide_eq_true hh] | rw [decide_eq_false hh]
      refine OG.ex (A := F f own qs) (by repeat (first | exact Ext.here | apply Ext.there)) f_open ?_
      rintro ⟨a, c⟩ hl
      refine OG.imp star_open ?_
      dsimp only [FO, List.cons_append, List.nil_append]
      refine OG.yield (Yield.move rfl) rfl ?_
      refine OG.guard_yes rfl rfl rfl (by decide) ?_
      refine OG.yield (Yield.move rfl) rfl ?_
      refine OG.guard_yes rfl rfl rfl (by decide) ?_
      refine OG.yield (Yield.move rfl) rfl ?_
      refine OG.guard_yes rfl rfl rfl (by decide) ?_
      refine OG.yield (Yield.nilCheck rfl) rfl ?_
      refine OG.guard_yes rfl rfl rfl (by decide) ?_
      refine OG.yield (Yield.fieldAddr fa78_0 rfl) rfl ?_
      refine OG.guard_yes rfl rfl rfl (by decide) ?_
      refine OG.yield (Yield.index_array Try.underlying76 ti3 rfl rfl (by omega) (by omega)) rfl ?_
      refine OG.guard_yes rfl rfl rfl (by decide) ?_
      refine OG.yield (Yield.load (v := .int .i64 x) ti3 rfl (Cel.of_blk (b := f) (by repeat (first | exact Ext.here | apply Ext.there)) (by rw [show 0 + 0 + (i : Int).toNat * 1 = i by omega]; exact fc_get hl hget))) rfl ?_
      refine OG.guard_yes rfl rfl rfl (by decide) ?_
      refine OG.yield (Yield.move rfl) rfl ?_
      refine OG.guard_yes rfl rfl rfl (by decide) ?_
      refine OG.yield (Yield.as (Yield.eql rfl rfl) (bT hx)) rfl ?_
      refine OG.yield (by first | exact Yield.pick_t rfl rfl | exact Yield.pick_f rfl rfl | exact Yield.pick rfl (fun _ => rfl) (fun _ => rfl)) rfl ?_
      refine OG.nil ?_
      refine QG.then ?_
      refine CG.cond_t rfl ?_
      rw [if_pos hh]
      have hln : (heldI own p i).length ≤ 1024 := by rw [heldI_len hi]; have := cnt_le (own.take i) p; rw [List.length_take] at this; omega
      refine CG.region ?_
      refine OG.yield (Yield.move rfl) rfl ?_
      refine OG.yield (Yield.move rfl) rfl ?_
      refine OG.effd (Eff.lit1 Try.underlying29 ti3 rfl rfl rfl) rfl ?_
      rintro b29 -
      refine OG.effd (Eff.append (k := 1) (ys := [.int .i64 i]) rfl rfl rfl Try.underlying29 Try.underlying29 ti3 rfl (by decide) (by repeat (first | exact Foc.here | apply Foc.there)) (SlR.of_osl (a := some ⟨b29, 0, none⟩) (by repeat (first | exact Ext.here | apply Ext.there))) (by simp [one]) (by omega)) rfl ?_
      rintro ⟨a30, c30⟩ -
      refine OG.yield (Yield.assign rfl) rfl ?_
      refine OG.nil ?_
      refine QG.block_normal ?_
      refine QG.then ?_
      refine CG.region ?_
      refine OG.yield (Yield.add rfl rfl (w64 (by omega) (by omega))) rfl ?_
      refine OG.yield (Yield.move rfl) rfl ?_
      refine OG.nil ?_
      refine QG.next (i + 1, a30, c30) (show i + 1 ≤ own.length by omega) (show own.length - (i + 1) < own.length - i by omega) ?_ ?_
      · rw [if_pos hh]; dsimp only; rw [hsc, if_pos hx, List.length_append]; exact (by repeat (first | exact Env.sub_nil _ | refine Env.sub_cons rfl ?_))
      · dsimp only; rw [if_pos hh, hsc, if_pos hx, show oiv a30 c30 (heldI own p i ++ [(i : Int)]) = osl 3 1 a30 c30 ((heldI own p i).length + 1) (iv (heldI own p i) ++ [.int .i64 i]) by unfold oiv; rw [iv_append, List.length_append]; rfl]; exact Imp.trans (by repeat (first | exact Imp.refl _ | exact Imp.none _ | apply Imp.pull (by repeat (first | exact Ext.here | apply Ext.there)) | apply Imp.trans Imp.drop)) (Imp.cons (f_close (a, c) hl))
  · try replace hc := of_decide_eq_false hc
    refine CG.exit ?_
    refine QG.pass_exit ?_
    refine QG.pass_exit ?_
    refine QG.block_exit ?_
    refine QG.then ?_
    refine CG.seq ?_
    refine CG.region ?_
    refine OG.yield (Yield.move rfl) rfl ?_
    refine OG.yield (Yield.assign rfl) rfl ?_
    refine OG.nil ?_
    refine QG.then ?_
    refine CG.ret ?_
    have : i = own.length := by omega
    subst this
    exact QG.ret1 rfl rfl (a5, c5) trivial rfl (by repeat (first | exact Imp.refl _ | exact Imp.none _ | apply Imp.pull (by repeat (first | exact Ext.here | apply Ext.there)) | apply Imp.trans Imp.drop))
theorem fc_setq {own qs : List Int} {p : PA} {a : Option Addr} {c : Nat} (hl : own.length ≤ 1024) : (fcells own qs p).set 1025 (.slice a qs.length c) = fcells own qs (a, c) := by
  unfold fcells; rw [List.set_append_right _ _ (by rw [owC_len hl]; omega), owC_len hl]; rfl
theorem fc_ones {own qs : List Int} {p : PA} : ∀ v ∈ fcells own qs p, one v = true := by
  intro v hv
  unfold fcells at hv
  rw [List.mem_append] at hv
  rcases hv with hv | hv
  · exact iv_ones _ v hv
  · simp only [List.mem_cons, List.not_mem_nil, or_false] at hv
    rcases hv with rfl | rfl <;> rfl
theorem clone_spec {f : Nat} {own qs : List Int} (hql : qs.length ≤ 8) : Ctr Try.prog W0 30 [.pointer (some ⟨f, 0, none⟩)] (F f own qs :: Fr) (fun _ : Nat => True) (fun u => .pointer (some ⟨u, 0, none⟩)) (fun u => F u own qs :: F f own qs :: Fr) := by
  refine Ctr.ex Ext.here f_open ?_
  rintro ⟨a, c⟩ hl
  refine Ctr.imp star_open ?_
  dsimp only [FO, List.cons_append, List.nil_append]
  refine Ctr.of_body Try.func30 rfl Try.ntmps30 rfl ?_
  refine CG.seq ?_
  refine CG.region ?_
  refine OG.yield (Yield.assign rfl) rfl ?_
  refine OG.nil ?_
  refine QG.then ?_
  refine CG.seq ?_
  refine CG.region ?_
  refine OG.yield (Yield.move rfl) rfl ?_
  refine OG.yield (Yield.nilCheck rfl) rfl ?_
  refine OG.yield (Yield.load_agg (vs := fcells own qs (a, c)) ti78 rfl (fc_len hl) (Row.of_blk (b := f) (by repeat (first | exact Ext.here | apply Ext.there)) (by rw [List.drop_zero, List.take_length]))) rfl ?_
  refine OG.effd (Eff.alloc ti78) rfl ?_
  rintro b3 -
  refine OG.eff (Eff.storeAll ti78 rfl rfl (by repeat (first | exact Foc.here | apply Foc.there)) (fc_len hl) fc_ones (by simp [Value.cells])) rfl ?_
  rintro ⟨⟩ -
  refine OG.nil ?_
  refine QG.then ?_
  refine CG.seq ?_
  refine CG.region ?_
  refine OG.effd (Eff.lit0 Try.underlying29 ti3 rfl) rfl ?_
  rintro b7 -
  refine OG.yield (Yield.move rfl) rfl ?_
  refine OG.yield (Yield.nilCheck rfl) rfl ?_
  refine OG.yield (Yield.fieldAddr fa78_2 rfl) rfl ?_
  refine OG.yield (Yield.load (v := .slice a qs.length c) ti29 rfl (Cel.of_blk (b := f) (by repeat (first | exact Ext.here | apply Ext.there)) (fc_qs hl))) rfl ?_
  refine OG.effd (Eff.append0 (k := qs.length) (ys := iv qs) rfl rfl rfl Try.underlying29 Try.underlying29 ti3 rfl (by decide) (by repeat (first | exact Foc.here | apply Foc.there)) (SlR.of_osl (E := 3) (a := a) (c := c) (xs := iv qs) (m := qs.length) (by repeat (first | exact Ext.here | apply Ext.there))) (iv_ones qs) (by omega)) rfl ?_
  rintro ⟨a12, c12⟩ -
  refine OG.yield (Yield.fieldAddr fa78_2 rfl) rfl ?_
  refine OG.eff (Eff.store1 (b := b3) (cs := fcells own qs (a, c)) ti29 rfl rfl (by repeat (first | exact Foc.here | apply Foc.there)) rfl (by rw [fc_len hl]; decide)) rfl ?_
  rintro ⟨⟩ -
  rw [show 0 + 1025 = 1025 from rfl, fc_setq hl]
  refine OG.nil ?_
  refine QG.then ?_
  refine CG.seq ?_
  refine CG.region ?_
  refine OG.yield (Yield.assign rfl) rfl ?_
  refine OG.nil ?_
  refine QG.then ?_
  refine CG.ret ?_
  exact QG.ret1 rfl rfl b3 trivial rfl (Imp.trans (by repeat (first | exact Imp.refl _ | exact Imp.none _ | apply Imp.pull (by repeat (first | exact Ext.here | apply Ext.there)) | apply Imp.trans Imp.drop)) (Imp.trans (f_close (f := b3) (own := own) (qs := qs) (a12, c12) hl) (Imp.cons (f_close (a, c) hl))))
/-- What a Take leaves of all others. -/
structure Like (qs own own' : List Int) (p : Int) : Prop where
  inv : Inv own' qs
  len : own'.length = own.length
  oth : ∀ k, k ≠ p → k ≠ -1 → cnt own' k = cnt own k
theorem like_refl {qs own : List Int} (p : Int) (h : Inv own qs) : Like qs own own p := ⟨h, rfl, fun _ _ _ => rfl⟩
theorem like_set {qs own own' : List Int} {p x : Int} {n : Nat} (h : Inv own' qs) (hn : own[n]? = some x) (y : Int) (e : own' = own.set n y) (hx : x = p ∨ x = -1) (hy : y = p ∨ y = -1) : Like qs own own' p := by
  subst e
  refine ⟨h, by rw [List.length_set], fun k h1 h2 => ?_⟩
  rw [cnt_set hn, if_neg (by omega), if_neg (by omega)]; omega
theorem isP_get {qs : List Int} {p : Int} (h : isP qs p) : ∃ (k : Nat) (q : Int), p = k ∧ qs[k]? = some q := by
  refine ⟨p.toNat, qs[p.toNat]'(by have := h.1; have := h.2; omega), by have := h.1; omega, by simp⟩
theorem take_any {f : Nat} {own qs : List Int} (p : Int) (inv : Inv own qs) (hq : ∀ q ∈ qs, 0 ≤ q ∧ q ≤ 1024) : Ctr Try.prog W0 18 [.pointer (some ⟨f, 0, none⟩), .int .i64 p] (F f own qs :: Fr) (fun x : Value × List Int => Like qs own x.2 p) (fun x => x.1) (fun x => F f x.2 qs :: Fr) := by
  by_cases hp : isP qs p
  · by_cases hl : left own qs p ≤ 0
    · exact Ctr.to (take_quota W0 Fr p hq hp hl) (fun _ => (_, own)) (fun _ _ => like_refl p inv) (fun _ => rfl) (fun _ => Imp.refl _)
    · obtain ⟨k, q, rfl, hk⟩ := isP_get hp
      have hlk := left_in (own := own) hk
      obtain ⟨n, hn, hgn⟩ := free_frame inv hk (by omega)
      exact Ctr.to (take_ok W0 Fr (k : Int) hq hp (by omega) hn) (fun _ => (_, own.set n k)) (fun _ _ => like_set (inv_take inv hk (by omega) hgn) hgn k rfl (.inr rfl) (.inl rfl)) (fun _ => rfl) (fun _ => Imp.refl _)
  · exact Ctr.to (take_range W0 Fr p hp) (fun _ => (_, own)) (fun _ _ => like_refl p inv) (fun _ => rfl) (fun _ => Imp.refl _)
theorem give_any {f : Nat} {own qs : List Int} (p n : Int) (inv : Inv own qs) : Ctr Try.prog W0 15 [.pointer (some ⟨f, 0, none⟩), .int .i64 p, .int .i64 n] (F f own qs :: Fr) (fun x : Value × List Int => Like qs own x.2 p) (fun x => x.1) (fun x => F f x.2 qs :: Fr) := by
  by_cases hb : ¬ isP qs p ∨ ¬ isF own n
  · exact Ctr.to (give_bad W0 Fr p n hb) (fun _ => (_, own)) (fun _ _ => like_refl p inv) (fun _ => rfl) (fun _ => Imp.refl _)
  · have hp : isP qs p := by omega
    have hf : isF own n := by omega
    obtain ⟨k, rfl⟩ : ∃ k : Nat, n = (k : Int) := ⟨n.toNat, by omega⟩
    have hkl : k < own.length := by omega
    have hget : own[k]? = some own[k] := by simp [hkl]
    by_cases hx : own[k] = p
    · rw [hx] at hget
      exact Ctr.to (give_ok W0 Fr p k hp hget) (fun _ => (_, own.set k (-1))) (fun _ _ => like_set (inv_give inv hget) hget (-1) rfl (.inl rfl) (.inr rfl)) (fun _ => rfl) (fun _ => Imp.refl _)
    · exact Ctr.to (give_owner W0 Fr p k hp hget hx) (fun _ => (_, own)) (fun _ _ => like_refl p inv) (fun _ => rfl) (fun _ => Imp.refl _)
end
end Go.Proofs.Ytjigjbcdopmeeaa.Fz
