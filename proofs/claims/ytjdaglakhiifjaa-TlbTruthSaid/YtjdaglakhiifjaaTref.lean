/- The reference table of the tlb laws, and Flush, Clone: what each function does. -/
import Derived.Test.YtjdaglakhiifjaaTkeep
import Derived.Test.YtjdaglakhiifjaaArr
namespace Go.Proofs.Ytjdaglakhiifjaa.Tl
open Go Go.Sl Go.RowKit Go.Proofs Go.Proofs.Ytjdaglakhiifjaa.T
set_option linter.unusedVariables false
set_option linter.unusedSimpArgs false
set_option maxRecDepth 100000
/-- A slot that is used, or nothing. -/
def norm (s : Slot) : Slot := if s.used then s else Slot.zero
def off (s : Slot) : Slot := { s with used := false }
theorem norm_hit (tag page : Int) (s : Slot) : hitB tag page (norm s) = hitB tag page s := by unfold norm hitB; cases h : s.used <;> simp [h, Slot.zero]
theorem norm_used (s : Slot) : (norm s).used = s.used := by unfold norm; cases h : s.used <;> simp [h, Slot.zero]
theorem norm_off (s : Slot) : norm (off s) = Slot.zero := rfl
theorem find_norm (l : List Slot) (tag page : Int) : (l.map norm).findIdx? (hitB tag page) = l.findIdx? (hitB tag page) := by
  rw [List.findIdx?_map]; congr 1; funext s; exact norm_hit ..
theorem free_norm (l : List Slot) : (l.map norm).findIdx? (fun s => !s.used) = l.findIdx? (fun s => !s.used) := by
  rw [List.findIdx?_map]; congr 1; funext s; simp [norm_used]
theorem put_norm (l : List Slot) (hand : Nat) (s : Slot) (hs : s.used = true) : putL (l.map norm) hand s = ((putL l hand s).1.map norm, (putL l hand s).2) := by
  have e : norm s = s := by unfold norm; rw [if_pos hs]
  unfold putL
  rw [find_norm, free_norm, List.length_map]
  cases l.findIdx? (hitB s.tag s.page) with
  | some i => simp [List.map_set, e]
  | none => cases l.findIdx? (fun s => !s.used) <;> simp [List.map_set, e]
def rflushL (l : List Slot) (tag : Int) : List Slot := l.map fun s => if s.tag = tag then off s else s
theorem flush_norm (l : List Slot) (tag : Int) : flushL (l.map norm) tag = (rflushL l tag).map norm := by
  unfold flushL rflushL
  rw [List.map_map, List.map_map]
  apply List.map_congr_left
  intro s _
  simp only [Function.comp]
  cases hu : s.used with
  | true =>
    have e : norm s = s := by unfold norm; rw [if_pos hu]
    rw [e]; split
    · rw [norm_off]
    · exact e.symm
  | false =>
    have e : norm s = Slot.zero := by unfold norm; rw [hu]; rfl
    rw [e]; split <;> split <;> first | rfl | exact e.symm
def rflushPL (l : List Slot) (tag page : Int) : List Slot := match l.findIdx? (hitB tag page) with
  | some i => (match l[i]? with | some s => l.set i (off s) | none => l)
  | none => l
theorem flushP_norm (l : List Slot) (tag page : Int) : flushPL (l.map norm) tag page = (rflushPL l tag page).map norm := by
  unfold flushPL rflushPL
  rw [find_norm]
  cases h : l.findIdx? (hitB tag page) with
  | none => rfl
  | some i =>
    have hi := (List.findIdx?_eq_some_iff_getElem.1 h).1
    simp [hi, List.map_set, norm_off]
theorem zero_norm (l : List Slot) : (l.map off).map norm = List.replicate l.length Slot.zero := by
  rw [List.map_map, List.eq_replicate_iff]
  refine ⟨by simp, fun s hs => ?_⟩
  simp only [List.mem_map, Function.comp] at hs
  obtain ⟨x, _, rfl⟩ := hs; rfl
theorem held_norm (l : List Slot) : heldL (l.map norm) = heldL l := by
  induction l with
  | nil => rfl
  | cons s l ih =>
    unfold heldL at *
    simp only [List.map_cons, List.filter_cons, norm_used, ih]
    cases hu : s.used with
    | true => simp [norm, hu]
    | false => simp
theorem rflush_len (l : List Slot) (tag : Int) : (rflushL l tag).length = l.length := by simp [rflushL]
theorem rflushP_len (l : List Slot) (tag page : Int) : (rflushPL l tag page).length = l.length := by
  unfold rflushPL
  split
  · split <;> simp
  · rfl
theorem pass_step {l : List Slot} {f : Slot → Slot} {i : Nat} {s : Slot} (h : l[i]? = some s) : (l.take (i + 1)).map f ++ l.drop (i + 1) = ((l.take i).map f ++ l.drop i).set i (f s) := by
  obtain ⟨hi, rfl⟩ := List.getElem?_eq_some_iff.1 h
  have hl : ((l.take i).map f).length = i := by simp; omega
  rw [List.set_append_right _ _ (by omega), hl, Nat.sub_self, List.drop_eq_getElem_cons hi, List.set_cons_zero, List.take_succ_eq_append_getElem hi, List.map_append, List.append_assoc]; rfl
theorem pass_len (l : List Slot) (f : Slot → Slot) (i : Nat) (hi : i ≤ l.length) : ((l.take i).map f ++ l.drop i).length = l.length := by simp; omega
theorem pass_get {l : List Slot} {f : Slot → Slot} {i : Nat} {s : Slot} (h : l[i]? = some s) : ((l.take i).map f ++ l.drop i)[i]? = some s := by
  obtain ⟨hi, rfl⟩ := List.getElem?_eq_some_iff.1 h
  have hl : ((l.take i).map f).length = i := by simp; omega
  rw [List.getElem?_append_right (by omega), hl, Nat.sub_self]; simp [hi]

abbrev RO (r : Nat) (l : List Slot) (hand hits miss : Nat) (p : PA) : List HProp :=
  [blk r [.slice (some ⟨p.1.1, p.1.2, none⟩) l.length p.2, .int .i64 hand, .int .i64 hits, .int .i64 miss] 121, osl 123 5 (some ⟨p.1.1, p.1.2, none⟩) p.2 l.length ((l.map Slot.cells).flatten)]
/-- At block r lies a reference table. -/
def RT (r : Nat) (l : List Slot) (hand hits miss : Nat) : HProp := fun h => ∃ p, True ∧ Star (RO r l hand hits miss p) h
theorem r_open {t : Nat} {l : List Slot} {hand hits miss : Nat} (y : Heaplet) (h : RT t l hand hits miss y) : ∃ p, True ∧ Star (RO t l hand hits miss p) y := h
theorem r_close {t : Nat} {l : List Slot} {hand hits miss : Nat} {G : List HProp} (p : PA) : Imp (RO t l hand hits miss p ++ G) (RT t l hand hits miss :: G) :=
  Imp.trans star_close (Imp.head fun y hy => ⟨p, trivial, hy⟩)
section
variable (W0 : World) (Fr : List HProp)
theorem new_fail {n : Int} (h : n < 1 ∨ 64 < n) : Ctr Try.prog W0 14 [.int .i64 n] Fr (fun _ : Unit => True) (fun _ => .tuple #[.pointer none, .int .i64 2]) (fun _ => Fr) := by
  refine Ctr.of_body Try.func14 rfl Try.ntmps14 rfl ?_
  refine CG.seq ?_
  refine CG.region ?_
  refine OG.yield (Yield.assign rfl) rfl ?_
  refine OG.yield (Yield.assign rfl) rfl ?_
  refine OG.nil ?_
  refine QG.then ?_
  refine CG.seq ?_
  refine CG.seq ?_
  rcases (show n < 1 ∨ (¬ n < 1 ∧ 64 < n) by omega) with hh | hh
  · skip
    refine CG.region ?_
    refine OG.yield (Yield.move rfl) rfl ?_
    refine OG.yield (by first | exact Yield.as (Yield.lss rfl rfl) (bT (by omega)) | exact Yield.as (Yield.lss rfl rfl) (bF (by omega)) | exact Yield.lss rfl rfl) rfl ?_
    refine OG.yield (Yield.move rfl) rfl ?_
    refine OG.guard_no rfl rfl rfl rfl rfl (by decide) (by decide) ?_
    refine OG.guard_no rfl rfl rfl rfl rfl (by decide) (by decide) ?_
    refine OG.yield (by first | exact Yield.pick_t rfl rfl | exact Yield.pick_f rfl rfl | exact Yield.pick rfl (fun _ => rfl) (fun _ => rfl)) rfl ?_
    refine OG.nil ?_
    refine QG.then ?_
    refine CG.cond_t rfl ?_
    refine CG.seq ?_
    refine CG.region ?_
    refine OG.yield (Yield.assign rfl) rfl ?_
    refine OG.yield (Yield.assign rfl) rfl ?_
    refine OG.nil ?_
    refine QG.then ?_
    refine CG.ret ?_
    refine QG.pass_ret ?_
    exact QG.ret2 rfl rfl rfl () trivial rfl (by repeat (first | exact Imp.refl _ | exact Imp.none _ | apply Imp.pull (by repeat (first | exact Ext.here | apply Ext.there)) | apply Imp.trans Imp.drop))
  · skip
    refine CG.region ?_
    refine OG.yield (Yield.move rfl) rfl ?_
    refine OG.yield (by first | exact Yield.as (Yield.lss rfl rfl) (bT (by omega)) | exact Yield.as (Yield.lss rfl rfl) (bF (by omega)) | exact Yield.lss rfl rfl) rfl ?_
    refine OG.yield (Yield.move rfl) rfl ?_
    refine OG.guard_yes rfl rfl rfl (by decide) ?_
    refine OG.yield (Yield.move rfl) rfl ?_
    refine OG.guard_yes rfl rfl rfl (by decide) ?_
    refine OG.yield (by first | exact Yield.as (Yield.gtr rfl rfl) (bT (by omega)) | exact Yield.as (Yield.gtr rfl rfl) (bF (by omega)) | exact Yield.gtr rfl rfl) rfl ?_
    refine OG.yield (by first | exact Yield.pick_t rfl rfl | exact Yield.pick_f rfl rfl | exact Yield.pick rfl (fun _ => rfl) (fun _ => rfl)) rfl ?_
    refine OG.nil ?_
    refine QG.then ?_
    refine CG.cond_t rfl ?_
    refine CG.seq ?_
    refine CG.region ?_
    refine OG.yield (Yield.assign rfl) rfl ?_
    refine OG.yield (Yield.assign rfl) rfl ?_
    refine OG.nil ?_
    refine QG.then ?_
    refine CG.ret ?_
    refine QG.pass_ret ?_
    exact QG.ret2 rfl rfl rfl () trivial rfl (by repeat (first | exact Imp.refl _ | exact Imp.none _ | apply Imp.pull (by repeat (first | exact Ext.here | apply Ext.there)) | apply Imp.trans Imp.drop))
theorem rnew_fail {n : Int} (h : n < 1 ∨ 64 < n) : Ctr Try.prog W0 52 [.int .i64 n] Fr (fun _ : Unit => True) (fun _ => .tuple #[.pointer none, .int .i64 2]) (fun _ => Fr) := by
  refine Ctr.of_body Try.func52 rfl Try.ntmps52 rfl ?_
  refine CG.seq ?_
  refine CG.region ?_
  refine OG.yield (Yield.assign rfl) rfl ?_
  refine OG.yield (Yield.assign rfl) rfl ?_
  refine OG.nil ?_
  refine QG.then ?_
  refine CG.seq ?_
  refine CG.seq ?_
  rcases (show n < 1 ∨ (¬ n < 1 ∧ 64 < n) by omega) with hh | hh
  · skip
    refine CG.region ?_
    refine OG.yield (Yield.move rfl) rfl ?_
    refine OG.yield (by first | exact Yield.as (Yield.lss rfl rfl) (bT (by omega)) | exact Yield.as (Yield.lss rfl rfl) (bF (by omega)) | exact Yield.lss rfl rfl) rfl ?_
    refine OG.yield (Yield.move rfl) rfl ?_
    refine OG.guard_no rfl rfl rfl rfl rfl (by decide) (by decide) ?_
    refine OG.guard_no rfl rfl rfl rfl rfl (by decide) (by decide) ?_
    refine OG.yield (by first | exact Yield.pick_t rfl rfl | exact Yield.pick_f rfl rfl | exact Yield.pick rfl (fun _ => rfl) (fun _ => rfl)) rfl ?_
    refine OG.nil ?_
    refine QG.then ?_
    refine CG.cond_t rfl ?_
    refine CG.seq ?_
    refine CG.region ?_
    refine OG.yield (Yield.assign rfl) rfl ?_
    refine OG.yield (Yield.assign rfl) rfl ?_
    refine OG.nil ?_
    refine QG.then ?_
    refine CG.ret ?_
    refine QG.pass_ret ?_
    exact QG.ret2 rfl rfl rfl () trivial rfl (by repeat (first | exact Imp.refl _ | exact Imp.none _ | apply Imp.pull (by repeat (first | exact Ext.here | apply Ext.there)) | apply Imp.trans Imp.drop))
  · skip
    refine CG.region ?_
    refine OG.yield (Yield.move rfl) rfl ?_
    refine OG.yield (by first | exact Yield.as (Yield.lss rfl rfl) (bT (by omega)) | exact Yield.as (Yield.lss rfl rfl) (bF (by omega)) | exact Yield.lss rfl rfl) rfl ?_
    refine OG.yield (Yield.move rfl) rfl ?_
    refine OG.guard_yes rfl rfl rfl (by decide) ?_
    refine OG.yield (Yield.move rfl) rfl ?_
    refine OG.guard_yes rfl rfl rfl (by decide) ?_
    refine OG.yield (by first | exact Yield.as (Yield.gtr rfl rfl) (bT (by omega)) | exact Yield.as (Yield.gtr rfl rfl) (bF (by omega)) | exact Yield.gtr rfl rfl) rfl ?_
    refine OG.yield (by first | exact Yield.pick_t rfl rfl | exact Yield.pick_f rfl rfl | exact Yield.pick rfl (fun _ => rfl) (fun _ => rfl)) rfl ?_
    refine OG.nil ?_
    refine QG.then ?_
    refine CG.cond_t rfl ?_
    refine CG.seq ?_
    refine CG.region ?_
    refine OG.yield (Yield.assign rfl) rfl ?_
    refine OG.yield (Yield.assign rfl) rfl ?_
    refine OG.nil ?_
    refine QG.then ?_
    refine CG.ret ?_
    refine QG.pass_ret ?_
    exact QG.ret2 rfl rfl rfl () trivial rfl (by repeat (first | exact Imp.refl _ | exact Imp.none _ | apply Imp.pull (by repeat (first | exact Ext.here | apply Ext.there)) | apply Imp.trans Imp.drop))
theorem rnew_spec {n : Nat} (h1 : 1 ≤ n) (h2 : n ≤ 64) : Ctr Try.prog W0 52 [.int .i64 n] Fr (fun _ : Nat => True) (fun t => .tuple #[.pointer (some ⟨t, 0, none⟩), .int .i64 0]) (fun t => RT t (List.replicate n Slot.zero) 0 0 0 :: Fr) := by
  refine Ctr.of_body Try.func52 rfl Try.ntmps52 rfl ?_
  refine CG.seq ?_
  refine CG.region ?_
  refine OG.yield (Yield.assign rfl) rfl ?_
  refine OG.yield (Yield.assign rfl) rfl ?_
  refine OG.nil ?_
  refine QG.then ?_
  refine CG.seq ?_
  refine CG.seq ?_
  refine CG.region ?_
  refine OG.yield (Yield.move rfl) rfl ?_
  refine OG.yield (by first | exact Yield.as (Yield.lss rfl rfl) (bT (by omega)) | exact Yield.as (Yield.lss rfl rfl) (bF (by omega)) | exact Yield.lss rfl rfl) rfl ?_
  refine OG.yield (Yield.move rfl) rfl ?_
  refine OG.guard_yes rfl rfl rfl (by decide) ?_
  refine OG.yield (Yield.move rfl) rfl ?_
  refine OG.guard_yes rfl rfl rfl (by decide) ?_
  refine OG.yield (by first | exact Yield.as (Yield.gtr rfl rfl) (bT (by omega)) | exact Yield.as (Yield.gtr rfl rfl) (bF (by omega)) | exact Yield.gtr rfl rfl) rfl ?_
  refine OG.yield (by first | exact Yield.pick_t rfl rfl | exact Yield.pick_f rfl rfl | exact Yield.pick rfl (fun _ => rfl) (fun _ => rfl)) rfl ?_
  refine OG.nil ?_
  refine QG.then ?_
  refine CG.cond_f rfl ?_
  refine CG.skip ?_
  refine QG.then ?_
  refine CG.seq ?_
  refine CG.region ?_
  refine OG.yield (Yield.move rfl) rfl ?_
  refine OG.effd (Eff.makeSlice Try.underlying119 ti123 rfl (by decide) rfl (by omega) (by omega) (by omega)) rfl ?_
  rintro b11 -
  refine OG.yield (Yield.build bu121 ti121 rfl (cells := [_, _, _, _]) rfl) rfl ?_
  refine OG.effd (Eff.box rfl) rfl ?_
  rintro b13 -
  refine OG.yield (Yield.assign rfl) rfl ?_
  refine OG.yield (Yield.assign rfl) rfl ?_
  refine OG.nil ?_
  refine QG.then ?_
  refine CG.ret ?_
  refine QG.ret2 rfl rfl rfl b13 trivial rfl (Imp.trans ?_ (r_close (l := List.replicate n Slot.zero) ((b11, 0), n)))
  dsimp only [RO]
  rw [List.length_replicate, ← zero_cells]
  exact (by repeat (first | exact Imp.refl _ | exact Imp.none _ | apply Imp.pull (by repeat (first | exact Ext.here | apply Ext.there)) | apply Imp.trans Imp.drop))
theorem at_spec {t hand hits miss : Nat} {l : List Slot} (tag page : Int) (hl : l.length ≤ 64) : Ctr Try.prog W0 77 [.pointer (some ⟨t, 0, none⟩), .int .i64 tag, .int .i64 page] (RT t l hand hits miss :: Fr) (fun _ : Unit => True) (fun _ => .int .i64 (oi (l.findIdx? (hitB tag page)))) (fun _ => RT t l hand hits miss :: Fr) := by
  refine Ctr.ex Ext.here r_open ?_
  rintro ⟨⟨b, o⟩, c⟩ -
  refine Ctr.imp star_open ?_
  dsimp only [RO]
  refine Ctr.of_body Try.func77 rfl Try.ntmps77 rfl ?_
  refine CG.seq ?_
  refine CG.region ?_
  refine OG.yield (Yield.assign rfl) rfl ?_
  refine OG.nil ?_
  refine QG.then ?_
  refine CG.seq ?_
  refine CG.seq ?_
  refine CG.region ?_
  refine OG.yield (Yield.assign rfl) rfl ?_
  refine OG.nil ?_
  refine QG.then ?_
  refine CG.block ?_
  refine CG.loop (fun i : Nat => i ≤ l.length ∧ ∀ j s, l[j]? = some s → j < i → hitB tag page s = false) (fun i => [(0, .pointer (some ⟨t, 0, none⟩)), (1, .int .i64 tag), (2, .int .i64 page), (7, .int .i64 i)]) (fun _ => RO t l hand hits miss ((b, o), c) ++ Fr) (fun i => l.length - i) 0 ⟨Nat.zero_le _, fun j s _ h => absurd h (Nat.not_lt_zero _)⟩ (by repeat (first | exact Env.sub_nil _ | refine Env.sub_cons rfl ?_)) (Imp.refl _) ?_
  rintro i ⟨hi, hno⟩
  dsimp only [RO, List.cons_append, List.nil_append]
  refine CG.seq ?_
  refine CG.seq ?_
  refine CG.region ?_
  refine OG.yield (Yield.move rfl) rfl ?_
  refine OG.yield (Yield.move rfl) rfl ?_
  refine OG.yield (Yield.nilCheck rfl) rfl ?_
  refine OG.yield (Yield.fieldAddr fa121_0 rfl) rfl ?_
  refine OG.yield (Yield.load ti119 rfl (by first | exact Cel.of_blk (by repeat (first | exact Ext.here | apply Ext.there)) rfl | exact (hrow (by repeat (first | exact Ext.here | apply Ext.there))) _ _ rfl)) rfl ?_
  refine OG.yield (Yield.len_slice Try.underlying119 rfl rfl) rfl ?_
  refine OG.yield (by first | exact Yield.as (Yield.lss rfl rfl) (bT (by omega)) | exact Yield.as (Yield.lss rfl rfl) (bF (by omega)) | exact Yield.lss rfl rfl) rfl ?_
  refine OG.nil ?_
  refine QG.then ?_
  refine CG.cond rfl (fun hc => ?_) (fun hc => ?_)
  · try replace hc := of_decide_eq_true hc
    have hi' : i < l.length := by omega
    have hget : l[i]? = some l[i] := by simp [hi']
    generalize l[i] = s at hget
    refine CG.skip ?_
    refine QG.then ?_
    refine CG.seq ?_
    refine CG.block ?_
    refine CG.seq ?_
    rcases (show s.used = false ∨ (s.used = true ∧ s.tag ≠ tag) ∨ (s.used = true ∧ s.tag = tag) by cases s.used <;> simp <;> omega) with hh | hh | hh
    · skip
      refine CG.region ?_
      refine OG.yield (Yield.move rfl) rfl ?_
      refine OG.yield (Yield.nilCheck rfl) rfl ?_
      refine OG.yield (Yield.fieldAddr fa121_0 rfl) rfl ?_
      refine OG.yield (Yield.load ti119 rfl (by first | exact Cel.of_blk (by repeat (first | exact Ext.here | apply Ext.there)) rfl | exact (hrow (by repeat (first | exact Ext.here | apply Ext.there))) _ _ rfl)) rfl ?_
      refine OG.yield (Yield.move rfl) rfl ?_
      refine OG.yield (Yield.index_slice Try.underlying119 ti123 rfl rfl (by omega) (by omega)) rfl ?_
      refine OG.yield (Yield.fieldAddr fa123_0 rfl) rfl ?_
      refine OG.yield (Yield.as (Yield.load (v := .bool s.used) ti4 rfl (((SlR.of_osl (by repeat (first | exact Ext.here | apply Ext.there))).elem Slot.len hget) 0 _ rfl)) (v' := .bool false) (by rw [hh])) rfl ?_
      refine OG.yield (Yield.move rfl) rfl ?_
      refine OG.guard_no rfl rfl rfl rfl rfl (by decide) (by decide) ?_
      refine OG.guard_no rfl rfl rfl rfl rfl (by decide) (by decide) ?_
      refine OG.guard_no rfl rfl rfl rfl rfl (by decide) (by decide) ?_
      refine OG.guard_no rfl rfl rfl rfl rfl (by decide) (by decide) ?_
      refine OG.guard_no rfl rfl rfl rfl rfl (by decide) (by decide) ?_
      refine OG.guard_no rfl rfl rfl rfl rfl (by decide) (by decide) ?_
      refine OG.guard_no rfl rfl rfl rfl rfl (by decide) (by decide) ?_
      refine OG.guard_no rfl rfl rfl rfl rfl (by decide) (by decide) ?_
      refine OG.guard_no rfl rfl rfl rfl rfl (by decide) (by decide) ?_
      refine OG.guard_no rfl rfl rfl rfl rfl (by decide) (by decide) ?_
      refine OG.yield (by first | exact Yield.pick_t rfl rfl | exact Yield.pick_f rfl rfl | exact Yield.pick rfl (fun _ => rfl) (fun _ => rfl)) rfl ?_
      refine OG.yield (Yield.move rfl) rfl ?_
      refine OG.guard_no rfl rfl rfl rfl rfl (by decide) (by decide) ?_
      refine OG.guard_no rfl rfl rfl rfl rfl (by decide) (by decide) ?_
      refine OG.guard_no rfl rfl rfl rfl rfl (by decide) (by decide) ?_
      refine OG.guard_no rfl rfl rfl rfl rfl (by decide) (by decide) ?_
      refine OG.guard_no rfl rfl rfl rfl rfl (by decide) (by decide) ?_
      refine OG.guard_no rfl rfl rfl rfl rfl (by decide) (by decide) ?_
      refine OG.guard_no rfl rfl rfl rfl rfl (by decide) (by decide) ?_
      refine OG.guard_no rfl rfl rfl rfl rfl (by decide) (by decide) ?_
      refine OG.guard_no rfl rfl rfl rfl rfl (by decide) (by decide) ?_
      refine OG.guard_no rfl rfl rfl rfl rfl (by decide) (by decide) ?_
      refine OG.yield (by first | exact Yield.pick_t rfl rfl | exact Yield.pick_f rfl rfl | exact Yield.pick rfl (fun _ => rfl) (fun _ => rfl)) rfl ?_
      refine OG.nil ?_
      refine QG.then ?_
      refine CG.cond_f rfl ?_
      refine CG.skip ?_
      refine QG.block_normal ?_
      refine QG.then ?_
      refine CG.region ?_
      refine OG.yield (Yield.move rfl) rfl ?_
      refine OG.yield (Yield.add rfl rfl (w64 (by omega) (by omega))) rfl ?_
      refine OG.yield (Yield.assign rfl) rfl ?_
      refine OG.nil ?_
      have hc2 : hitB tag page s = false := by simp [hitB, hh]
      refine QG.next (i + 1) ⟨by omega, fun j s' hj hlt => ?_⟩ (by omega) (by repeat (first | exact Env.sub_nil _ | refine Env.sub_cons rfl ?_)) (by repeat (first | exact Imp.refl _ | exact Imp.none _ | apply Imp.pull (by repeat (first | exact Ext.here | apply Ext.there)) | apply Imp.trans Imp.drop))
      rcases Nat.lt_or_ge j i with h | h
      · exact hno j s' hj h
      · have : j = i := by omega
        subst this
        rw [hget] at hj; cases hj; exact hc2
    · skip
      refine CG.region ?_
      refine OG.yield (Yield.move rfl) rfl ?_
      refine OG.yield (Yield.nilCheck rfl) rfl ?_
      refine OG.yield (Yield.fieldAddr fa121_0 rfl) rfl ?_
      refine OG.yield (Yield.load ti119 rfl (by first | exact Cel.of_blk (by repeat (first | exact Ext.here | apply Ext.there)) rfl | exact (hrow (by repeat (first | exact Ext.here | apply Ext.there))) _ _ rfl)) rfl ?_
      refine OG.yield (Yield.move rfl) rfl ?_
      refine OG.yield (Yield.index_slice Try.underlying119 ti123 rfl rfl (by omega) (by omega)) rfl ?_
      refine OG.yield (Yield.fieldAddr fa123_0 rfl) rfl ?_
      refine OG.yield (Yield.as (Yield.load (v := .bool s.used) ti4 rfl (((SlR.of_osl (by repeat (first | exact Ext.here | apply Ext.there))).elem Slot.len hget) 0 _ rfl)) (v' := .bool true) (by rw [hh.1])) rfl ?_
      refine OG.yield (Yield.move rfl) rfl ?_
      refine OG.guard_yes rfl rfl rfl (by decide) ?_
      refine OG.yield (Yield.move rfl) rfl ?_
      refine OG.guard_yes rfl rfl rfl (by decide) ?_
      refine OG.yield (Yield.nilCheck rfl) rfl ?_
      refine OG.guard_yes rfl rfl rfl (by decide) ?_
      refine OG.yield (Yield.fieldAddr fa121_0 rfl) rfl ?_
      refine OG.guard_yes rfl rfl rfl (by decide) ?_
      refine OG.yield (Yield.load ti119 rfl (by first | exact Cel.of_blk (by repeat (first | exact Ext.here | apply Ext.there)) rfl | exact (hrow (by repeat (first | exact Ext.here | apply Ext.there))) _ _ rfl)) rfl ?_
      refine OG.guard_yes rfl rfl rfl (by decide) ?_
      refine OG.yield (Yield.move rfl) rfl ?_
      refine OG.guard_yes rfl rfl rfl (by decide) ?_
      refine OG.yield (Yield.index_slice Try.underlying119 ti123 rfl rfl (by omega) (by omega)) rfl ?_
      refine OG.guard_yes rfl rfl rfl (by decide) ?_
      refine OG.yield (Yield.fieldAddr fa123_1 rfl) rfl ?_
      refine OG.guard_yes rfl rfl rfl (by decide) ?_
      refine OG.yield (Yield.load (v := .int .i64 s.tag) ti3 rfl (((SlR.of_osl (by repeat (first | exact Ext.here | apply Ext.there))).elem Slot.len hget) 1 _ rfl)) rfl ?_
      refine OG.guard_yes rfl rfl rfl (by decide) ?_
      refine OG.yield (Yield.move rfl) rfl ?_
      refine OG.guard_yes rfl rfl rfl (by decide) ?_
      refine OG.yield (Yield.as (Yield.eql rfl rfl) (bF hh.2)) rfl ?_
      refine OG.yield (by first | exact Yield.pick_t rfl rfl | exact Yield.pick_f rfl rfl | exact Yield.pick rfl (fun _ => rfl) (fun _ => rfl)) rfl ?_
      refine OG.yield (Yield.move rfl) rfl ?_
      refine OG.guard_no rfl rfl rfl rfl rfl (by decide) (by decide) ?_
      refine OG.guard_no rfl rfl rfl rfl rfl (by decide) (by decide) ?_
      refine OG.guard_no rfl rfl rfl rfl rfl (by decide) (by decide) ?_
      refine OG.guard_no rfl rfl rfl rfl rfl (by decide) (by decide) ?_
      refine OG.guard_no rfl rfl rfl rfl rfl (by decide) (by decide) ?_
      refine OG.guard_no rfl rfl rfl rfl rfl (by decide) (by decide) ?_
      refine OG.guard_no rfl rfl rfl rfl rfl (by decide) (by decide) ?_
      refine OG.guard_no rfl rfl rfl rfl rfl (by decide) (by decide) ?_
      refine OG.guard_no rfl rfl rfl rfl rfl (by decide) (by decide) ?_
      refine OG.guard_no rfl rfl rfl rfl rfl (by decide) (by decide) ?_
      refine OG.yield (by first | exact Yield.pick_t rfl rfl | exact Yield.pick_f rfl rfl | exact Yield.pick rfl (fun _ => rfl) (fun _ => rfl)) rfl ?_
      refine OG.nil ?_
      refine QG.then ?_
      refine CG.cond_f rfl ?_
      refine CG.skip ?_
      refine QG.block_normal ?_
      refine QG.then ?_
      refine CG.region ?_
      refine OG.yield (Yield.move rfl) rfl ?_
      refine OG.yield (Yield.add rfl rfl (w64 (by omega) (by omega))) rfl ?_
      refine OG.yield (Yield.assign rfl) rfl ?_
      refine OG.nil ?_
      have hc2 : hitB tag page s = false := by simp [hitB, hh]
      refine QG.next (i + 1) ⟨by omega, fun j s' hj hlt => ?_⟩ (by omega) (by repeat (first | exact Env.sub_nil _ | refine Env.sub_cons rfl ?_)) (by repeat (first | exact Imp.refl _ | exact Imp.none _ | apply Imp.pull (by repeat (first | exact Ext.here | apply Ext.there)) | apply Imp.trans Imp.drop))
      rcases Nat.lt_or_ge j i with h | h
      · exact hno j s' hj h
      · have : j = i := by omega
        subst this
        rw [hget] at hj; cases hj; exact hc2
    · skip
      refine CG.region ?_
      refine OG.yield (Yield.move rfl) rfl ?_
      refine OG.yield (Yield.nilCheck rfl) rfl ?_
      refine OG.yield (Yield.fieldAddr fa121_0 rfl) rfl ?_
      refine OG.yield (Yield.load ti119 rfl (by first | exact Cel.of_blk (by repeat (first | exact Ext.here | apply Ext.there)) rfl | exact (hrow (by repeat (first | exact Ext.here | apply Ext.there))) _ _ rfl)) rfl ?_
      refine OG.yield (Yield.move rfl) rfl ?_
      refine OG.yield (Yield.index_slice Try.underlying119 ti123 rfl rfl (by omega) (by omega)) rfl ?_
      refine OG.yield (Yield.fieldAddr fa123_0 rfl) rfl ?_
      refine OG.yield (Yield.as (Yield.load (v := .bool s.used) ti4 rfl (((SlR.of_osl (by repeat (first | exact Ext.here | apply Ext.there))).elem Slot.len hget) 0 _ rfl)) (v' := .bool true) (by rw [hh.1])) rfl ?_
      refine OG.yield (Yield.move rfl) rfl ?_
      refine OG.guard_yes rfl rfl rfl (by decide) ?_
      refine OG.yield (Yield.move rfl) rfl ?_
      refine OG.guard_yes rfl rfl rfl (by decide) ?_
      refine OG.yield (Yield.nilCheck rfl) rfl ?_
      refine OG.guard_yes rfl rfl rfl (by decide) ?_
      refine OG.yield (Yield.fieldAddr fa121_0 rfl) rfl ?_
      refine OG.guard_yes rfl rfl rfl (by decide) ?_
      refine OG.yield (Yield.load ti119 rfl (by first | exact Cel.of_blk (by repeat (first | exact Ext.here | apply Ext.there)) rfl | exact (hrow (by repeat (first | exact Ext.here | apply Ext.there))) _ _ rfl)) rfl ?_
      refine OG.guard_yes rfl rfl rfl (by decide) ?_
      refine OG.yield (Yield.move rfl) rfl ?_
      refine OG.guard_yes rfl rfl rfl (by decide) ?_
      refine OG.yield (Yield.index_slice Try.underlying119 ti123 rfl rfl (by omega) (by omega)) rfl ?_
      refine OG.guard_yes rfl rfl rfl (by decide) ?_
      refine OG.yield (Yield.fieldAddr fa123_1 rfl) rfl ?_
      refine OG.guard_yes rfl rfl rfl (by decide) ?_
      refine OG.yield (Yield.load (v := .int .i64 s.tag) ti3 rfl (((SlR.of_osl (by repeat (first | exact Ext.here | apply Ext.there))).elem Slot.len hget) 1 _ rfl)) rfl ?_
      refine OG.guard_yes rfl rfl rfl (by decide) ?_
      refine OG.yield (Yield.move rfl) rfl ?_
      refine OG.guard_yes rfl rfl rfl (by decide) ?_
      refine OG.yield (Yield.as (Yield.eql rfl rfl) (bT hh.2)) rfl ?_
      refine OG.yield (by first | exact Yield.pick_t rfl rfl | exact Yield.pick_f rfl rfl | exact Yield.pick rfl (fun _ => rfl) (fun _ => rfl)) rfl ?_
      refine OG.yield (Yield.move rfl) rfl ?_
      refine OG.guard_yes rfl rfl rfl (by decide) ?_
      refine OG.yield (Yield.move rfl) rfl ?_
      refine OG.guard_yes rfl rfl rfl (by decide) ?_
      refine OG.yield (Yield.nilCheck rfl) rfl ?_
      refine OG.guard_yes rfl rfl rfl (by decide) ?_
      refine OG.yield (Yield.fieldAddr fa121_0 rfl) rfl ?_
      refine OG.guard_yes rfl rfl rfl (by decide) ?_
      refine OG.yield (Yield.load ti119 rfl (by first | exact Cel.of_blk (by repeat (first | exact Ext.here | apply Ext.there)) rfl | exact (hrow (by repeat (first | exact Ext.here | apply Ext.there))) _ _ rfl)) rfl ?_
      refine OG.guard_yes rfl rfl rfl (by decide) ?_
      refine OG.yield (Yield.move rfl) rfl ?_
      refine OG.guard_yes rfl rfl rfl (by decide) ?_
      refine OG.yield (Yield.index_slice Try.underlying119 ti123 rfl rfl (by omega) (by omega)) rfl ?_
      refine OG.guard_yes rfl rfl rfl (by decide) ?_
      refine OG.yield (Yield.fieldAddr fa123_2 rfl) rfl ?_
      refine OG.guard_yes rfl rfl rfl (by decide) ?_
      refine OG.yield (Yield.load (v := .int .i64 s.page) ti3 rfl (((SlR.of_osl (by repeat (first | exact Ext.here | apply Ext.there))).elem Slot.len hget) 2 _ rfl)) rfl ?_
      refine OG.guard_yes rfl rfl rfl (by decide) ?_
      refine OG.yield (Yield.move rfl) rfl ?_
      refine OG.guard_yes rfl rfl rfl (by decide) ?_
      refine OG.yield (Yield.eql rfl rfl) rfl ?_
      refine OG.yield (by first | exact Yield.pick_t rfl rfl | exact Yield.pick_f rfl rfl | exact Yield.pick rfl (fun _ => rfl) (fun _ => rfl)) rfl ?_
      refine OG.nil ?_
      refine QG.then ?_
      refine CG.cond rfl (fun hc => ?_) (fun hc => ?_)
      · try replace hc := of_decide_eq_true hc
        refine CG.seq ?_
        refine CG.region ?_
        refine OG.yield (Yield.move rfl) rfl ?_
        refine OG.yield (Yield.assign rfl) rfl ?_
        refine OG.nil ?_
        refine QG.then ?_
        refine CG.ret ?_
        refine QG.block_ret ?_
        refine QG.pass_ret ?_
        refine QG.pass_ret ?_
        refine QG.block_ret ?_
        refine QG.pass_ret ?_
        have hit : hitB tag page s = true := by simp [hitB, hh.1, hh.2, hc]
        have hx : l.findIdx? (hitB tag page) = some i := by
          rw [List.findIdx?_eq_some_iff_getElem]
          have e := List.getElem?_eq_some_iff.1 hget
          obtain ⟨h3, h4⟩ := e
          exact ⟨h3, by rw [h4]; exact hit, fun j hj => by rw [hno j l[j] (by simp) hj]; decide⟩
        rw [hx]
        exact QG.ret1 rfl rfl () trivial rfl (Imp.trans (by repeat (first | exact Imp.refl _ | exact Imp.none _ | apply Imp.pull (by repeat (first | exact Ext.here | apply Ext.there)) | apply Imp.trans Imp.drop)) (r_close ((b, o), c)))
      · try replace hc := of_decide_eq_false hc
        refine CG.skip ?_
        refine QG.block_normal ?_
        refine QG.then ?_
        refine CG.region ?_
        refine OG.yield (Yield.move rfl) rfl ?_
        refine OG.yield (Yield.add rfl rfl (w64 (by omega) (by omega))) rfl ?_
        refine OG.yield (Yield.assign rfl) rfl ?_
        refine OG.nil ?_
        have hc2 : hitB tag page s = false := by simp [hitB, hc]
        refine QG.next (i + 1) ⟨by omega, fun j s' hj hlt => ?_⟩ (by omega) (by repeat (first | exact Env.sub_nil _ | refine Env.sub_cons rfl ?_)) (by repeat (first | exact Imp.refl _ | exact Imp.none _ | apply Imp.pull (by repeat (first | exact Ext.here | apply Ext.there)) | apply Imp.trans Imp.drop))
        rcases Nat.lt_or_ge j i with h | h
        · exact hno j s' hj h
        · have : j = i := by omega
          subst this
          rw [hget] at hj; cases hj; exact hc2
  · try replace hc := of_decide_eq_false hc
    refine CG.exit ?_
    refine QG.pass_exit ?_
    refine QG.pass_exit ?_
    refine QG.block_exit ?_
    refine QG.then ?_
    refine CG.seq ?_
    refine CG.region ?_
    refine OG.yield (Yield.assign rfl) rfl ?_
    refine OG.nil ?_
    refine QG.then ?_
    refine CG.ret ?_
    have hx : l.findIdx? (hitB tag page) = none := by
      rw [List.findIdx?_eq_none_iff]
      intro s hs
      obtain ⟨j, hj, rfl⟩ := List.getElem_of_mem hs
      exact hno j l[j] (by simp [hj]) (by omega)
    rw [hx]
    exact QG.ret1 rfl rfl () trivial rfl (Imp.trans (by repeat (first | exact Imp.refl _ | exact Imp.none _ | apply Imp.pull (by repeat (first | exact Ext.here | apply Ext.there)) | apply Imp.trans Imp.drop)) (r_close ((b, o), c)))
theorem rlook_hit {t hand hits miss : Nat} {l : List Slot} (tag page : Int) (hl : l.length ≤ 64) (hb : hits < 2 ^ 60) {i : Nat} {s : Slot} (hf : l.findIdx? (hitB tag page) = some i) (hs : l[i]? = some s) :
    Ctr Try.prog W0 54 [.pointer (some ⟨t, 0, none⟩), .int .i64 tag, .int .i64 page] (RT t l hand hits miss :: Fr) (fun _ : Unit => True) (fun _ => .tuple #[.int .i64 s.frame, .int .i64 s.perm, .bool true]) (fun _ => RT t l hand (hits + 1) miss :: Fr) := by
  have hi : i < l.length := (List.findIdx?_eq_some_iff_getElem.1 hf).1
  refine Ctr.of_body Try.func54 rfl Try.ntmps54 rfl ?_
  refine CG.seq ?_
  refine CG.region ?_
  refine OG.yield (Yield.assign rfl) rfl ?_
  refine OG.yield (Yield.assign rfl) rfl ?_
  refine OG.yield (Yield.assign rfl) rfl ?_
  refine OG.nil ?_
  refine QG.then ?_
  refine CG.seq ?_
  refine CG.region ?_
  refine OG.yield (Yield.move rfl) rfl ?_
  refine OG.yield (Yield.move rfl) rfl ?_
  refine OG.yield (Yield.move rfl) rfl ?_
  refine OG.callo call77 rfl ((by repeat (first | exact Imp.refl _ | exact Imp.none _ | apply Imp.pull (by repeat (first | exact Ext.here | apply Ext.there)) | apply Imp.trans Imp.drop))) (at_spec W0 Fr tag page hl) rfl ?_
  rintro ⟨⟩ -
  rw [hf, show oi (some i) = (i : Int) from rfl]
  refine OG.yield (Yield.assign rfl) rfl ?_
  refine OG.nil ?_
  refine QG.then ?_
  refine CG.seq ?_
  refine CG.seq ?_
  refine CG.region ?_
  refine OG.yield (Yield.move rfl) rfl ?_
  refine OG.yield (by first | exact Yield.as (Yield.lss rfl rfl) (bT (by omega)) | exact Yield.as (Yield.lss rfl rfl) (bF (by omega)) | exact Yield.lss rfl rfl) rfl ?_
  refine OG.nil ?_
  refine QG.then ?_
  refine CG.cond_f rfl ?_
  refine CG.skip ?_
  refine QG.then ?_
  refine CG.seq ?_
  refine CG.ex (A := RT t l hand hits miss) (by repeat (first | exact Ext.here | apply Ext.there)) r_open ?_
  rintro ⟨⟨b, o⟩, c⟩ -
  refine CG.imp star_open ?_
  dsimp only [RO, List.cons_append, List.nil_append]
  refine CG.region ?_
  refine OG.yield (Yield.move rfl) rfl ?_
  refine OG.yield (Yield.nilCheck rfl) rfl ?_
  refine OG.yield (Yield.fieldAddr fa121_2 rfl) rfl ?_
  refine OG.yield (Yield.load ti3 rfl (by first | exact Cel.of_blk (by repeat (first | exact Ext.here | apply Ext.there)) rfl | exact (hrow (by repeat (first | exact Ext.here | apply Ext.there))) _ _ rfl)) rfl ?_
  refine OG.yield (Yield.add rfl rfl (w64 (by omega) (by omega))) rfl ?_
  refine OG.yield (Yield.nilCheck rfl) rfl ?_
  refine OG.yield (Yield.fieldAddr fa121_2 rfl) rfl ?_
  refine OG.eff (Eff.store1 ti3 rfl rfl (by repeat (first | exact Foc.here | apply Foc.there)) rfl (by simp)) rfl ?_
  rintro ⟨⟩ -
  refine OG.nil ?_
  refine QG.then ?_
  refine CG.seq ?_
  refine CG.draw (.look 0 1 (.look 1 1 (.look 2 1 (.look 3 1 (.look 4 1 (.look 5 1 (.look 6 1 (.look 7 1 (.look 8 1 (.look 9 1 (.look 10 1 (.look 11 1 (.look 12 1 (.look 13 1 (.look 14 1 (.look 15 1 (.look 16 1 (.look 17 1 (.look 18 1 (.done)))))))))))))))))))) [] [] ([]) ([]) mixed (by kernel_rfl) (Imp.none _) (Imp.none _) ?_
  refine DG.look rfl rfl (Yield.move rfl) rfl ?_
  refine DG.look rfl rfl (Yield.nilCheck rfl) rfl ?_
  refine DG.look rfl rfl (Yield.fieldAddr fa121_0 rfl) rfl ?_
  refine DG.look rfl rfl (Yield.load ti119 rfl (by first | exact Cel.of_blk (by repeat (first | exact Ext.here | apply Ext.there)) rfl | exact (hrow (by repeat (first | exact Ext.here | apply Ext.there))) _ _ rfl)) rfl ?_
  refine DG.look rfl rfl (Yield.move rfl) rfl ?_
  refine DG.look rfl rfl (Yield.index_slice Try.underlying119 ti123 rfl rfl (by omega) (by omega)) rfl ?_
  refine DG.look rfl rfl (Yield.fieldAddr fa123_3 rfl) rfl ?_
  refine DG.look rfl rfl (Yield.load (v := .int .i64 s.frame) ti3 rfl (((SlR.of_osl (by repeat (first | exact Ext.here | apply Ext.there))).elem Slot.len hs) 3 _ rfl)) rfl ?_
  refine DG.look rfl rfl (Yield.move rfl) rfl ?_
  refine DG.look rfl rfl (Yield.nilCheck rfl) rfl ?_
  refine DG.look rfl rfl (Yield.fieldAddr fa121_0 rfl) rfl ?_
  refine DG.look rfl rfl (Yield.load ti119 rfl (by first | exact Cel.of_blk (by repeat (first | exact Ext.here | apply Ext.there)) rfl | exact (hrow (by repeat (first | exact Ext.here | apply Ext.there))) _ _ rfl)) rfl ?_
  refine DG.look rfl rfl (Yield.move rfl) rfl ?_
  refine DG.look rfl rfl (Yield.index_slice Try.underlying119 ti123 rfl rfl (by omega) (by omega)) rfl ?_
  refine DG.look rfl rfl (Yield.fieldAddr fa123_4 rfl) rfl ?_
  refine DG.look rfl rfl (Yield.load (v := .int .i64 s.perm) ti3 rfl (((SlR.of_osl (by repeat (first | exact Ext.here | apply Ext.there))).elem Slot.len hs) 4 _ rfl)) rfl ?_
  refine DG.look rfl rfl (Yield.assign rfl) rfl ?_
  refine DG.look rfl rfl (Yield.assign rfl) rfl ?_
  refine DG.look rfl rfl (Yield.assign rfl) rfl ?_
  refine DG.done ?_
  refine QG.then ?_
  refine CG.ret ?_
  exact QG.ret3 rfl rfl rfl rfl () trivial rfl (Imp.trans (by repeat (first | exact Imp.refl _ | exact Imp.none _ | apply Imp.pull (by repeat (first | exact Ext.here | apply Ext.there)) | apply Imp.trans Imp.drop)) (r_close ((b, o), c)))
theorem rlook_miss {t hand hits miss : Nat} {l : List Slot} (tag page : Int) (hl : l.length ≤ 64) (hb : miss < 2 ^ 60) (hf : l.findIdx? (hitB tag page) = none) :
    Ctr Try.prog W0 54 [.pointer (some ⟨t, 0, none⟩), .int .i64 tag, .int .i64 page] (RT t l hand hits miss :: Fr) (fun _ : Unit => True) (fun _ => .tuple #[.int .i64 0, .int .i64 0, .bool false]) (fun _ => RT t l hand hits (miss + 1) :: Fr) := by
  refine Ctr.of_body Try.func54 rfl Try.ntmps54 rfl ?_
  refine CG.seq ?_
  refine CG.region ?_
  refine OG.yield (Yield.assign rfl) rfl ?_
  refine OG.yield (Yield.assign rfl) rfl ?_
  refine OG.yield (Yield.assign rfl) rfl ?_
  refine OG.nil ?_
  refine QG.then ?_
  refine CG.seq ?_
  refine CG.region ?_
  refine OG.yield (Yield.move rfl) rfl ?_
  refine OG.yield (Yield.move rfl) rfl ?_
  refine OG.yield (Yield.move rfl) rfl ?_
  refine OG.callo call77 rfl ((by repeat (first | exact Imp.refl _ | exact Imp.none _ | apply Imp.pull (by repeat (first | exact Ext.here | apply Ext.there)) | apply Imp.trans Imp.drop))) (at_spec W0 Fr tag page hl) rfl ?_
  rintro ⟨⟩ -
  rw [hf, show oi none = -1 from rfl]
  refine OG.yield (Yield.assign rfl) rfl ?_
  refine OG.nil ?_
  refine QG.then ?_
  refine CG.seq ?_
  refine CG.seq ?_
  refine CG.region ?_
  refine OG.yield (Yield.move rfl) rfl ?_
  refine OG.yield (by first | exact Yield.as (Yield.lss rfl rfl) (bT (by omega)) | exact Yield.as (Yield.lss rfl rfl) (bF (by omega)) | exact Yield.lss rfl rfl) rfl ?_
  refine OG.nil ?_
  refine QG.then ?_
  refine CG.cond_t rfl ?_
  refine CG.seq ?_
  refine CG.ex (A := RT t l hand hits miss) (by repeat (first | exact Ext.here | apply Ext.there)) r_open ?_
  rintro ⟨⟨b, o⟩, c⟩ -
  refine CG.imp star_open ?_
  dsimp only [RO, List.cons_append, List.nil_append]
  refine CG.region ?_
  refine OG.yield (Yield.move rfl) rfl ?_
  refine OG.yield (Yield.nilCheck rfl) rfl ?_
  refine OG.yield (Yield.fieldAddr fa121_3 rfl) rfl ?_
  refine OG.yield (Yield.load ti3 rfl (by first | exact Cel.of_blk (by repeat (first | exact Ext.here | apply Ext.there)) rfl | exact (hrow (by repeat (first | exact Ext.here | apply Ext.there))) _ _ rfl)) rfl ?_
  refine OG.yield (Yield.add rfl rfl (w64 (by omega) (by omega))) rfl ?_
  refine OG.yield (Yield.nilCheck rfl) rfl ?_
  refine OG.yield (Yield.fieldAddr fa121_3 rfl) rfl ?_
  refine OG.eff (Eff.store1 ti3 rfl rfl (by repeat (first | exact Foc.here | apply Foc.there)) rfl (by simp)) rfl ?_
  rintro ⟨⟩ -
  refine OG.nil ?_
  refine QG.then ?_
  refine CG.seq ?_
  refine CG.region ?_
  refine OG.yield (Yield.assign rfl) rfl ?_
  refine OG.yield (Yield.assign rfl) rfl ?_
  refine OG.yield (Yield.assign rfl) rfl ?_
  refine OG.nil ?_
  refine QG.then ?_
  refine CG.ret ?_
  refine QG.pass_ret ?_
  exact QG.ret3 rfl rfl rfl rfl () trivial rfl (Imp.trans (by repeat (first | exact Imp.refl _ | exact Imp.none _ | apply Imp.pull (by repeat (first | exact Ext.here | apply Ext.there)) | apply Imp.trans Imp.drop)) (r_close ((b, o), c)))
/-- Where Put puts: -1, no place (the hand's). -/
def spotI (l : List Slot) (tag page : Int) : Int := match l.findIdx? (hitB tag page) with | some i => i | none => oi (l.findIdx? (fun s => !s.used))
theorem rput_spec {t hand hits miss : Nat} {l : List Slot} (tag page frame perm : Int) (hl : l.length ≤ 64) (hh0 : hand < l.length) : Ctr Try.prog W0 53 [.pointer (some ⟨t, 0, none⟩), .int .i64 tag, .int .i64 page, .int .i64 frame, .int .i64 perm] (RT t l hand hits miss :: Fr) (fun _ : Unit => True) (fun _ => .tuple #[])
    (fun _ => RT t (putL l hand ⟨true, tag, page, frame, perm⟩).1 (putL l hand ⟨true, tag, page, frame, perm⟩).2 hits miss :: Fr) := by
  refine Ctr.of_body Try.func53 rfl Try.ntmps53 rfl ?_
  refine CG.seq ?_
  refine CG.region ?_
  refine OG.yield (Yield.move rfl) rfl ?_
  refine OG.yield (Yield.move rfl) rfl ?_
  refine OG.yield (Yield.move rfl) rfl ?_
  refine OG.callo call77 rfl ((by repeat (first | exact Imp.refl _ | exact Imp.none _ | apply Imp.pull (by repeat (first | exact Ext.here | apply Ext.there)) | apply Imp.trans Imp.drop))) (at_spec W0 Fr tag page hl) rfl ?_
  rintro ⟨⟩ -
  refine OG.yield (Yield.assign rfl) rfl ?_
  refine OG.nil ?_
  refine QG.then ?_
  refine CG.ex (A := RT t l hand hits miss) (by repeat (first | exact Ext.here | apply Ext.there)) r_open ?_
  rintro ⟨⟨b, o⟩, c⟩ -
  refine CG.imp star_open ?_
  dsimp only [RO, List.cons_append, List.nil_append]
  refine CG.cut (fun _ : Unit => True) (fun _ => [(0, .pointer (some ⟨t, 0, none⟩)), (1, .int .i64 tag), (2, .int .i64 page), (3, .int .i64 frame), (4, .int .i64 perm), (10, .int .i64 (spotI l tag page))]) (fun _ => RO t l hand hits miss ((b, o), c) ++ Fr) ?_ ?_
  · skip
    refine CG.seq ?_
    refine CG.region ?_
    refine OG.yield (Yield.assign rfl) rfl ?_
    refine OG.nil ?_
    refine QG.then ?_
    refine CG.block ?_
    refine CG.loop (fun i : Nat × Int => i.1 ≤ l.length ∧ -1 ≤ i.2 ∧ ((i.2 = spotI l tag page ∧ 0 ≤ i.2) ∨ (i.2 = -1 ∧ l.findIdx? (hitB tag page) = none ∧ ∀ j s, l[j]? = some s → j < i.1 → (!s.used) = false))) (fun i => [(0, .pointer (some ⟨t, 0, none⟩)), (1, .int .i64 tag), (2, .int .i64 page), (3, .int .i64 frame), (4, .int .i64 perm), (10, .int .i64 i.2), (11, .int .i64 i.1)]) (fun _ => RO t l hand hits miss ((b, o), c) ++ Fr) (fun i => l.length - i.1) (0, oi (l.findIdx? (hitB tag page))) ?_ (by repeat (first | exact Env.sub_nil _ | refine Env.sub_cons rfl ?_)) (by repeat (first | exact Imp.refl _ | exact Imp.none _ | apply Imp.pull (by repeat (first | exact Ext.here | apply Ext.there)) | apply Imp.trans Imp.drop)) ?_
    · refine ⟨Nat.zero_le _, ?_, ?_⟩
      · dsimp only; cases l.findIdx? (hitB tag page) <;> simp [oi] <;> omega
      · dsimp only; cases hq : l.findIdx? (hitB tag page) with
        | some i => exact .inl ⟨by simp [oi, spotI, hq], by simp [oi]⟩
        | none => exact .inr ⟨rfl, rfl, fun j s _ h => absurd h (Nat.not_lt_zero _)⟩
    rintro ⟨k, x⟩ ⟨hk, hx1, hx⟩
    dsimp only at hk hx1 hx
    dsimp only [RO, List.cons_append, List.nil_append]
    refine CG.seq ?_
    refine CG.seq ?_
    rcases (show (k < l.length ∧ x < 0) ∨ (k < l.length ∧ ¬ x < 0) ∨ ¬ k < l.length by omega) with hh | hh | hh
    · skip
      refine CG.region ?_
      refine OG.yield (Yield.move rfl) rfl ?_
      refine OG.yield (Yield.move rfl) rfl ?_
      refine OG.yield (Yield.nilCheck rfl) rfl ?_
      refine OG.yield (Yield.fieldAddr fa121_0 rfl) rfl ?_
      refine OG.yield (Yield.load ti119 rfl (by first | exact Cel.of_blk (by repeat (first | exact Ext.here | apply Ext.there)) rfl | exact (hrow (by repeat (first | exact Ext.here | apply Ext.there))) _ _ rfl)) rfl ?_
      refine OG.yield (Yield.len_slice Try.underlying119 rfl rfl) rfl ?_
      refine OG.yield (by first | exact Yield.as (Yield.lss rfl rfl) (bT (by omega)) | exact Yield.as (Yield.lss rfl rfl) (bF (by omega)) | exact Yield.lss rfl rfl) rfl ?_
      refine OG.yield (Yield.move rfl) rfl ?_
      refine OG.guard_yes rfl rfl rfl (by decide) ?_
      refine OG.yield (Yield.move rfl) rfl ?_
      refine OG.guard_yes rfl rfl rfl (by decide) ?_
      refine OG.yield (by first | exact Yield.as (Yield.lss rfl rfl) (bT (by omega)) | exact Yield.as (Yield.lss rfl rfl) (bF (by omega)) | exact Yield.lss rfl rfl) rfl ?_
      refine OG.yield (by first | exact Yield.pick_t rfl rfl | exact Yield.pick_f rfl rfl | exact Yield.pick rfl (fun _ => rfl) (fun _ => rfl)) rfl ?_
      refine OG.nil ?_
      refine QG.then ?_
      refine CG.cond_t rfl ?_
      refine CG.skip ?_
      refine QG.then ?_
      refine CG.seq ?_
      refine CG.block ?_
      refine CG.seq ?_
      have hk' : k < l.length := hh.1
      have hx : x = -1 ∧ l.findIdx? (hitB tag page) = none ∧ ∀ j s, l[j]? = some s → j < k → (!s.used) = false := by
        rcases hx with hx | hx
        · omega
        · exact hx
      obtain ⟨rfl, hno, hall⟩ := hx
      have hget : l[k]? = some l[k] := by simp [hk']
      generalize l[k] = s at hget
      refine CG.region ?_
      refine OG.yield (Yield.move rfl) rfl ?_
      refine OG.yield (Yield.nilCheck rfl) rfl ?_
      refine OG.yield (Yield.fieldAddr fa121_0 rfl) rfl ?_
      refine OG.yield (Yield.load ti119 rfl (by first | exact Cel.of_blk (by repeat (first | exact Ext.here | apply Ext.there)) rfl | exact (hrow (by repeat (first | exact Ext.here | apply Ext.there))) _ _ rfl)) rfl ?_
      refine OG.yield (Yield.move rfl) rfl ?_
      refine OG.yield (Yield.index_slice Try.underlying119 ti123 rfl rfl (by omega) (by omega)) rfl ?_
      refine OG.yield (Yield.fieldAddr fa123_0 rfl) rfl ?_
      refine OG.yield (Yield.load (v := .bool s.used) ti4 rfl (((SlR.of_osl (by repeat (first | exact Ext.here | apply Ext.there))).elem Slot.len hget) 0 _ rfl)) rfl ?_
      refine OG.yield (Yield.not rfl) rfl ?_
      refine OG.nil ?_
      refine QG.then ?_
      refine CG.cond rfl (fun hc => ?_) (fun hc => ?_)
      · try replace hc := of_decide_eq_true hc
        refine CG.region ?_
        refine OG.yield (Yield.move rfl) rfl ?_
        refine OG.yield (Yield.assign rfl) rfl ?_
        refine OG.nil ?_
        refine QG.block_normal ?_
        refine QG.then ?_
        refine CG.region ?_
        refine OG.yield (Yield.move rfl) rfl ?_
        refine OG.yield (Yield.add rfl rfl (w64 (by omega) (by omega))) rfl ?_
        refine OG.yield (Yield.assign rfl) rfl ?_
        refine OG.nil ?_
        have hfx : l.findIdx? (fun s => !s.used) = some k := by
          rw [List.findIdx?_eq_some_iff_getElem]
          obtain ⟨h3, h4⟩ := List.getElem?_eq_some_iff.1 hget
          exact ⟨h3, by rw [h4]; exact hc, fun j hj => by rw [hall j l[j] (by simp) hj]; decide⟩
        exact QG.next (k + 1, (k : Int)) ⟨by simp only; omega, by simp only; omega, .inl ⟨by simp [spotI, hno, hfx, oi], by simp only; omega⟩⟩ (by simp only; omega) (by repeat (first | exact Env.sub_nil _ | refine Env.sub_cons rfl ?_)) (by repeat (first | exact Imp.refl _ | exact Imp.none _ | apply Imp.pull (by repeat (first | exact Ext.here | apply Ext.there)) | apply Imp.trans Imp.drop))
      · try replace hc := of_decide_eq_false hc
        refine CG.skip ?_
        refine QG.block_normal ?_
        refine QG.then ?_
        refine CG.region ?_
        refine OG.yield (Yield.move rfl) rfl ?_
        refine OG.yield (Yield.add rfl rfl (w64 (by omega) (by omega))) rfl ?_
        refine OG.yield (Yield.assign rfl) rfl ?_
        refine OG.nil ?_
        refine QG.next (k + 1, -1) ⟨by simp only; omega, by simp only; omega, .inr ⟨rfl, hno, fun j s' hj hlt => ?_⟩⟩ (by simp only; omega) (by repeat (first | exact Env.sub_nil _ | refine Env.sub_cons rfl ?_)) (by repeat (first | exact Imp.refl _ | exact Imp.none _ | apply Imp.pull (by repeat (first | exact Ext.here | apply Ext.there)) | apply Imp.trans Imp.drop))
        rcases Nat.lt_or_ge j k with h | h
        · exact hall j s' hj h
        · have : j = k := by simp only at hlt; omega
          subst this
          rw [hget] at hj; cases hj; exact hc
    · skip
      refine CG.region ?_
      refine OG.yield (Yield.move rfl) rfl ?_
      refine OG.yield (Yield.move rfl) rfl ?_
      refine OG.yield (Yield.nilCheck rfl) rfl ?_
      refine OG.yield (Yield.fieldAddr fa121_0 rfl) rfl ?_
      refine OG.yield (Yield.load ti119 rfl (by first | exact Cel.of_blk (by repeat (first | exact Ext.here | apply Ext.there)) rfl | exact (hrow (by repeat (first | exact Ext.here | apply Ext.there))) _ _ rfl)) rfl ?_
      refine OG.yield (Yield.len_slice Try.underlying119 rfl rfl) rfl ?_
      refine OG.yield (by first | exact Yield.as (Yield.lss rfl rfl) (bT (by omega)) | exact Yield.as (Yield.lss rfl rfl) (bF (by omega)) | exact Yield.lss rfl rfl) rfl ?_
      refine OG.yield (Yield.move rfl) rfl ?_
      refine OG.guard_yes rfl rfl rfl (by decide) ?_
      refine OG.yield (Yield.move rfl) rfl ?_
      refine OG.guard_yes rfl rfl rfl (by decide) ?_
      refine OG.yield (by first | exact Yield.as (Yield.lss rfl rfl) (bT (by omega)) | exact Yield.as (Yield.lss rfl rfl) (bF (by omega)) | exact Yield.lss rfl rfl) rfl ?_
      refine OG.yield (by first | exact Yield.pick_t rfl rfl | exact Yield.pick_f rfl rfl | exact Yield.pick rfl (fun _ => rfl) (fun _ => rfl)) rfl ?_
      refine OG.nil ?_
      refine QG.then ?_
      refine CG.cond_f rfl ?_
      refine CG.exit ?_
      refine QG.pass_exit ?_
      refine QG.pass_exit ?_
      refine QG.block_exit ?_
      have hfin : x = spotI l tag page := by
        rcases hx with hx | ⟨hx, hno, hall⟩
        · exact hx.1
        · have hkl : k = l.length := by omega
          have : l.findIdx? (fun s => !s.used) = none := by
            rw [List.findIdx?_eq_none_iff]
            intro s hs
            obtain ⟨j, hj, rfl⟩ := List.getElem_of_mem hs
            exact hall j l[j] (by simp [hj]) (by omega)
          simp [spotI, hno, this, oi, hx]
      rw [← hfin]
      exact QG.mid () trivial (by repeat (first | exact Env.sub_nil _ | refine Env.sub_cons rfl ?_)) (by repeat (first | exact Imp.refl _ | exact Imp.none _ | apply Imp.pull (by repeat (first | exact Ext.here | apply Ext.there)) | apply Imp.trans Imp.drop))
    · skip
      refine CG.region ?_
      refine OG.yield (Yield.move rfl) rfl ?_
      refine OG.yield (Yield.move rfl) rfl ?_
      refine OG.yield (Yield.nilCheck rfl) rfl ?_
      refine OG.yield (Yield.fieldAddr fa121_0 rfl) rfl ?_
      refine OG.yield (Yield.load ti119 rfl (by first | exact Cel.of_blk (by repeat (first | exact Ext.here | apply Ext.there)) rfl | exact (hrow (by repeat (first | exact Ext.here | apply Ext.there))) _ _ rfl)) rfl ?_
      refine OG.yield (Yield.len_slice Try.underlying119 rfl rfl) rfl ?_
      refine OG.yield (by first | exact Yield.as (Yield.lss rfl rfl) (bT (by omega)) | exact Yield.as (Yield.lss rfl rfl) (bF (by omega)) | exact Yield.lss rfl rfl) rfl ?_
      refine OG.yield (Yield.move rfl) rfl ?_
      refine OG.guard_no rfl rfl rfl rfl rfl (by decide) (by decide) ?_
      refine OG.guard_no rfl rfl rfl rfl rfl (by decide) (by decide) ?_
      refine OG.yield (by first | exact Yield.pick_t rfl rfl | exact Yield.pick_f rfl rfl | exact Yield.pick rfl (fun _ => rfl) (fun _ => rfl)) rfl ?_
      refine OG.nil ?_
      refine QG.then ?_
      refine CG.cond_f rfl ?_
      refine CG.exit ?_
      refine QG.pass_exit ?_
      refine QG.pass_exit ?_
      refine QG.block_exit ?_
      have hfin : x = spotI l tag page := by
        rcases hx with hx | ⟨hx, hno, hall⟩
        · exact hx.1
        · have hkl : k = l.length := by omega
          have : l.findIdx? (fun s => !s.used) = none := by
            rw [List.findIdx?_eq_none_iff]
            intro s hs
            obtain ⟨j, hj, rfl⟩ := List.getElem_of_mem hs
            exact hall j l[j] (by simp [hj]) (by omega)
          simp [spotI, hno, this, oi, hx]
      rw [← hfin]
      exact QG.mid () trivial (by repeat (first | exact Env.sub_nil _ | refine Env.sub_cons rfl ?_)) (by repeat (first | exact Imp.refl _ | exact Imp.none _ | apply Imp.pull (by repeat (first | exact Ext.here | apply Ext.there)) | apply Imp.trans Imp.drop))
  rintro ⟨⟩ -
  dsimp only [RO, List.cons_append, List.nil_append]
  refine CG.seq ?_
  refine CG.seq ?_
  rcases put_cases l tag page with hh | hh | hh
  · skip
    obtain ⟨i, hf, hi⟩ := hh
    rw [show spotI l tag page = (i : Int) by simp [spotI, hf]]
    refine CG.region ?_
    refine OG.yield (Yield.move rfl) rfl ?_
    refine OG.yield (by first | exact Yield.as (Yield.lss rfl rfl) (bT (by omega)) | exact Yield.as (Yield.lss rfl rfl) (bF (by omega)) | exact Yield.lss rfl rfl) rfl ?_
    refine OG.nil ?_
    refine QG.then ?_
    refine CG.cond_f rfl ?_
    refine CG.skip ?_
    refine QG.then ?_
    refine CG.region ?_
    refine OG.yield (Yield.move rfl) rfl ?_
    refine OG.yield (Yield.nilCheck rfl) rfl ?_
    refine OG.yield (Yield.fieldAddr fa121_0 rfl) rfl ?_
    refine OG.yield (Yield.load ti119 rfl (by first | exact Cel.of_blk (by repeat (first | exact Ext.here | apply Ext.there)) rfl | exact (hrow (by repeat (first | exact Ext.here | apply Ext.there))) _ _ rfl)) rfl ?_
    refine OG.yield (Yield.move rfl) rfl ?_
    refine OG.yield (Yield.move rfl) rfl ?_
    refine OG.yield (Yield.move rfl) rfl ?_
    refine OG.yield (Yield.move rfl) rfl ?_
    refine OG.yield (Yield.move rfl) rfl ?_
    refine OG.yield (Yield.build bu123 ti123 rfl (cells := [_, _, _, _, _]) rfl) rfl ?_
    refine OG.yield (Yield.index_slice Try.underlying119 ti123 rfl rfl (by omega) (by omega)) rfl ?_
    refine OG.eff (Eff.storeRec (i := i) (r := ⟨true, tag, page, frame, perm⟩) (rs := l) Slot.len Slot.ones ti123 rfl rfl (by repeat (first | exact Foc.here | apply Foc.there)) rfl hi) rfl ?_
    rintro ⟨⟩ -
    refine OG.nil ?_
    rw [show putL l hand ⟨true, tag, page, frame, perm⟩ = (l.set i ⟨true, tag, page, frame, perm⟩, hand) by simp [putL, hf]]
    refine QG.end0 rfl () trivial rfl (Imp.trans ?_ (r_close ((b, o), c)))
    dsimp only [RO]
    rw [List.length_set]
    exact (by repeat (first | exact Imp.refl _ | exact Imp.none _ | apply Imp.pull (by repeat (first | exact Ext.here | apply Ext.there)) | apply Imp.trans Imp.drop))
  · skip
    obtain ⟨hf, i, hg, hi⟩ := hh
    rw [show spotI l tag page = (i : Int) by simp [spotI, hf, hg, oi]]
    refine CG.region ?_
    refine OG.yield (Yield.move rfl) rfl ?_
    refine OG.yield (by first | exact Yield.as (Yield.lss rfl rfl) (bT (by omega)) | exact Yield.as (Yield.lss rfl rfl) (bF (by omega)) | exact Yield.lss rfl rfl) rfl ?_
    refine OG.nil ?_
    refine QG.then ?_
    refine CG.cond_f rfl ?_
    refine CG.skip ?_
    refine QG.then ?_
    refine CG.region ?_
    refine OG.yield (Yield.move rfl) rfl ?_
    refine OG.yield (Yield.nilCheck rfl) rfl ?_
    refine OG.yield (Yield.fieldAddr fa121_0 rfl) rfl ?_
    refine OG.yield (Yield.load ti119 rfl (by first | exact Cel.of_blk (by repeat (first | exact Ext.here | apply Ext.there)) rfl | exact (hrow (by repeat (first | exact Ext.here | apply Ext.there))) _ _ rfl)) rfl ?_
    refine OG.yield (Yield.move rfl) rfl ?_
    refine OG.yield (Yield.move rfl) rfl ?_
    refine OG.yield (Yield.move rfl) rfl ?_
    refine OG.yield (Yield.move rfl) rfl ?_
    refine OG.yield (Yield.move rfl) rfl ?_
    refine OG.yield (Yield.build bu123 ti123 rfl (cells := [_, _, _, _, _]) rfl) rfl ?_
    refine OG.yield (Yield.index_slice Try.underlying119 ti123 rfl rfl (by omega) (by omega)) rfl ?_
    refine OG.eff (Eff.storeRec (i := i) (r := ⟨true, tag, page, frame, perm⟩) (rs := l) Slot.len Slot.ones ti123 rfl rfl (by repeat (first | exact Foc.here | apply Foc.there)) rfl hi) rfl ?_
    rintro ⟨⟩ -
    refine OG.nil ?_
    rw [show putL l hand ⟨true, tag, page, frame, perm⟩ = (l.set i ⟨true, tag, page, frame, perm⟩, hand) by simp [putL, hf, hg]]
    refine QG.end0 rfl () trivial rfl (Imp.trans ?_ (r_close ((b, o), c)))
    dsimp only [RO]
    rw [List.length_set]
    exact (by repeat (first | exact Imp.refl _ | exact Imp.none _ | apply Imp.pull (by repeat (first | exact Ext.here | apply Ext.there)) | apply Imp.trans Imp.drop))
  · skip
    obtain ⟨hf, hg⟩ := hh
    rw [show spotI l tag page = -1 by simp [spotI, hf, hg, oi]]
    refine CG.region ?_
    refine OG.yield (Yield.move rfl) rfl ?_
    refine OG.yield (by first | exact Yield.as (Yield.lss rfl rfl) (bT (by omega)) | exact Yield.as (Yield.lss rfl rfl) (bF (by omega)) | exact Yield.lss rfl rfl) rfl ?_
    refine OG.nil ?_
    refine QG.then ?_
    refine CG.cond_t rfl ?_
    refine CG.seq ?_
    refine CG.region ?_
    refine OG.yield (Yield.move rfl) rfl ?_
    refine OG.yield (Yield.nilCheck rfl) rfl ?_
    refine OG.yield (Yield.fieldAddr fa121_1 rfl) rfl ?_
    refine OG.yield (Yield.load ti3 rfl (by first | exact Cel.of_blk (by repeat (first | exact Ext.here | apply Ext.there)) rfl | exact (hrow (by repeat (first | exact Ext.here | apply Ext.there))) _ _ rfl)) rfl ?_
    refine OG.yield (Yield.assign rfl) rfl ?_
    refine OG.nil ?_
    refine QG.then ?_
    refine CG.draw (.look 0 1 (.look 1 1 (.look 2 1 (.look 3 1 (.look 4 1 (.look 5 1 (.look 6 1 (.look 7 1 (.look 8 1 (.look 9 1 (.look 10 1 (.look 11 1 (.look 12 1 (.look 13 1 (.eff1 14 false (.done)))))))))))))))) [14] [] ([]) ([]) mixed (by kernel_rfl) (Imp.none _) (Imp.none _) ?_
    refine DG.look rfl rfl (Yield.move rfl) rfl ?_
    refine DG.look rfl rfl (Yield.move rfl) rfl ?_
    refine DG.look rfl rfl (Yield.nilCheck rfl) rfl ?_
    refine DG.look rfl rfl (Yield.fieldAddr fa121_1 rfl) rfl ?_
    refine DG.look rfl rfl (Yield.load ti3 rfl (by first | exact Cel.of_blk (by repeat (first | exact Ext.here | apply Ext.there)) rfl | exact (hrow (by repeat (first | exact Ext.here | apply Ext.there))) _ _ rfl)) rfl ?_
    refine DG.look rfl rfl (Yield.add rfl rfl (w64 (by omega) (by omega))) rfl ?_
    refine DG.look rfl rfl (Yield.move rfl) rfl ?_
    refine DG.look rfl rfl (Yield.nilCheck rfl) rfl ?_
    refine DG.look rfl rfl (Yield.fieldAddr fa121_0 rfl) rfl ?_
    refine DG.look rfl rfl (Yield.load ti119 rfl (by first | exact Cel.of_blk (by repeat (first | exact Ext.here | apply Ext.there)) rfl | exact (hrow (by repeat (first | exact Ext.here | apply Ext.there))) _ _ rfl)) rfl ?_
    refine DG.look rfl rfl (Yield.len_slice Try.underlying119 rfl rfl) rfl ?_
    refine DG.look rfl rfl (Yield.rem rfl rfl (by omega) (tmod_pos (by omega) (by omega))) rfl ?_
    refine DG.look rfl rfl (Yield.nilCheck rfl) rfl ?_
    refine DG.look rfl rfl (Yield.fieldAddr fa121_1 rfl) rfl ?_
    refine DG.eff1 ?_
    refine Chg.eff rfl rfl (Eff.store1 ti3 rfl rfl (by repeat (first | exact Foc.here | apply Foc.there)) rfl (by simp)) rfl (fun _ => (by repeat (first | exact Imp.refl _ | exact Imp.none _ | apply Imp.pull (by repeat (first | exact Ext.here | apply Ext.there)) | apply Imp.trans Imp.drop))) (fun _ => Imp.refl _) (fun _ => (by repeat (first | exact Imp.refl _ | exact Imp.none _ | apply Imp.pull (by repeat (first | exact Ext.here | apply Ext.there)) | apply Imp.trans Imp.drop))) ?_
    rintro ⟨⟩ -
    refine DG.done ?_
    refine QG.then ?_
    refine CG.region ?_
    refine OG.yield (Yield.move rfl) rfl ?_
    refine OG.yield (Yield.nilCheck rfl) rfl ?_
    refine OG.yield (Yield.fieldAddr fa121_0 rfl) rfl ?_
    refine OG.yield (Yield.load ti119 rfl (by first | exact Cel.of_blk (by repeat (first | exact Ext.here | apply Ext.there)) rfl | exact (hrow (by repeat (first | exact Ext.here | apply Ext.there))) _ _ rfl)) rfl ?_
    refine OG.yield (Yield.move rfl) rfl ?_
    refine OG.yield (Yield.move rfl) rfl ?_
    refine OG.yield (Yield.move rfl) rfl ?_
    refine OG.yield (Yield.move rfl) rfl ?_
    refine OG.yield (Yield.move rfl) rfl ?_
    refine OG.yield (Yield.build bu123 ti123 rfl (cells := [_, _, _, _, _]) rfl) rfl ?_
    refine OG.yield (Yield.index_slice Try.underlying119 ti123 rfl rfl (by omega) (by omega)) rfl ?_
    refine OG.eff (Eff.storeRec (i := hand) (r := ⟨true, tag, page, frame, perm⟩) (rs := l) Slot.len Slot.ones ti123 rfl rfl (by repeat (first | exact Foc.here | apply Foc.there)) rfl hh0) rfl ?_
    rintro ⟨⟩ -
    refine OG.nil ?_
    rw [show putL l hand ⟨true, tag, page, frame, perm⟩ = (l.set hand ⟨true, tag, page, frame, perm⟩, (hand + 1) % l.length) by simp [putL, hf, hg]]
    refine QG.end0 rfl () trivial rfl (Imp.trans ?_ (r_close ((b, o), c)))
    dsimp only [RO]
    rw [List.length_set, show (((hand + 1) % l.length : Nat) : Int) = ((hand : Int) + 1) % (l.length : Int) by simp]
    exact (by repeat (first | exact Imp.refl _ | exact Imp.none _ | apply Imp.pull (by repeat (first | exact Ext.here | apply Ext.there)) | apply Imp.trans Imp.drop))
theorem rflushTag_spec {t hand hits miss : Nat} {l : List Slot} (tag : Int) (hl : l.length ≤ 64) : Ctr Try.prog W0 55 [.pointer (some ⟨t, 0, none⟩), .int .i64 tag] (RT t l hand hits miss :: Fr) (fun _ : Unit => True) (fun _ => .tuple #[]) (fun _ => RT t (rflushL l tag) hand hits miss :: Fr) := by
  refine Ctr.ex Ext.here r_open ?_
  rintro ⟨⟨b, o⟩, c⟩ -
  refine Ctr.imp star_open ?_
  dsimp only [RO]
  refine Ctr.of_body Try.func55 rfl Try.ntmps55 rfl ?_
  refine CG.seq ?_
  refine CG.region ?_
  refine OG.yield (Yield.assign rfl) rfl ?_
  refine OG.nil ?_
  refine QG.then ?_
  refine CG.block ?_
  refine CG.loop (fun i : Nat => i ≤ l.length) (fun i => [(0, .pointer (some ⟨t, 0, none⟩)), (1, .int .i64 tag), (4, .int .i64 i)]) (fun i => RO t ((l.take i).map (fun s => if s.tag = tag then off s else s) ++ l.drop i) hand hits miss ((b, o), c) ++ Fr) (fun i => l.length - i) 0 (Nat.zero_le _) (by repeat (first | exact Env.sub_nil _ | refine Env.sub_cons rfl ?_)) (by simp only [List.take_zero, List.map_nil, List.nil_append, List.drop_zero]; exact Imp.refl _) ?_
  intro i hi
  have hln := pass_len l (fun s => if s.tag = tag then off s else s) i hi
  dsimp only [RO, List.cons_append, List.nil_append]
  refine CG.seq ?_
  refine CG.seq ?_
  refine CG.region ?_
  refine OG.yield (Yield.move rfl) rfl ?_
  refine OG.yield (Yield.move rfl) rfl ?_
  refine OG.yield (Yield.nilCheck rfl) rfl ?_
  refine OG.yield (Yield.fieldAddr fa121_0 rfl) rfl ?_
  refine OG.yield (Yield.load ti119 rfl (by first | exact Cel.of_blk (by repeat (first | exact Ext.here | apply Ext.there)) rfl | exact (hrow (by repeat (first | exact Ext.here | apply Ext.there))) _ _ rfl)) rfl ?_
  refine OG.yield (Yield.len_slice Try.underlying119 rfl rfl) rfl ?_
  refine OG.yield (by first | exact Yield.as (Yield.lss rfl rfl) (bT (by omega)) | exact Yield.as (Yield.lss rfl rfl) (bF (by omega)) | exact Yield.lss rfl rfl) rfl ?_
  refine OG.nil ?_
  refine QG.then ?_
  refine CG.cond rfl (fun hc => ?_) (fun hc => ?_)
  · try replace hc := of_decide_eq_true hc
    have hi' : i < l.length := by omega
    have hget : l[i]? = some l[i] := by simp [hi']
    generalize l[i] = s at hget
    have hg2 := pass_get (f := fun s => if s.tag = tag then off s else s) hget
    refine CG.skip ?_
    refine QG.then ?_
    refine CG.seq ?_
    refine CG.block ?_
    refine CG.seq ?_
    refine CG.region ?_
    refine OG.yield (Yield.move rfl) rfl ?_
    refine OG.yield (Yield.nilCheck rfl) rfl ?_
    refine OG.yield (Yield.fieldAddr fa121_0 rfl) rfl ?_
    refine OG.yield (Yield.load ti119 rfl (by first | exact Cel.of_blk (by repeat (first | exact Ext.here | apply Ext.there)) rfl | exact (hrow (by repeat (first | exact Ext.here | apply Ext.there))) _ _ rfl)) rfl ?_
    refine OG.yield (Yield.move rfl) rfl ?_
    refine OG.yield (Yield.index_slice Try.underlying119 ti123 rfl rfl (by omega) (by omega)) rfl ?_
    refine OG.yield (Yield.fieldAddr fa123_1 rfl) rfl ?_
    refine OG.yield (Yield.load (v := .int .i64 s.tag) ti3 rfl (((SlR.of_osl (by repeat (first | exact Ext.here | apply Ext.there))).elem Slot.len hg2) 1 _ rfl)) rfl ?_
    refine OG.yield (Yield.move rfl) rfl ?_
    refine OG.yield (Yield.eql rfl rfl) rfl ?_
    refine OG.nil ?_
    refine QG.then ?_
    refine CG.cond rfl (fun hc => ?_) (fun hc => ?_)
    · try replace hc := of_decide_eq_true hc
      refine CG.region ?_
      refine OG.yield (Yield.move rfl) rfl ?_
      refine OG.yield (Yield.nilCheck rfl) rfl ?_
      refine OG.yield (Yield.fieldAddr fa121_0 rfl) rfl ?_
      refine OG.yield (Yield.load ti119 rfl (by first | exact Cel.of_blk (by repeat (first | exact Ext.here | apply Ext.there)) rfl | exact (hrow (by repeat (first | exact Ext.here | apply Ext.there))) _ _ rfl)) rfl ?_
      refine OG.yield (Yield.move rfl) rfl ?_
      refine OG.yield (Yield.index_slice Try.underlying119 ti123 rfl rfl (by omega) (by omega)) rfl ?_
      refine OG.yield (Yield.fieldAddr fa123_0 rfl) rfl ?_
      refine OG.eff (Eff.storeFld (i := i) 0 (r := s) (r' := off s) (rs := (l.take i).map (fun s => if s.tag = tag then off s else s) ++ l.drop i) Slot.len hg2 rfl (by decide) ti4 rfl rfl (by repeat (first | exact Foc.here | apply Foc.there)) rfl rfl) rfl ?_
      rintro ⟨⟩ -
      refine OG.nil ?_
      refine QG.block_normal ?_
      refine QG.then ?_
      refine CG.region ?_
      refine OG.yield (Yield.move rfl) rfl ?_
      refine OG.yield (Yield.add rfl rfl (w64 (by omega) (by omega))) rfl ?_
      refine OG.yield (Yield.assign rfl) rfl ?_
      refine OG.nil ?_
      refine QG.next (i + 1) (show i + 1 ≤ l.length by omega) (show l.length - (i + 1) < l.length - i by omega) (by repeat (first | exact Env.sub_nil _ | refine Env.sub_cons rfl ?_)) ?_
      rw [pass_step hget, if_pos hc]
      try dsimp only [RO]
      rw [List.length_set]
      exact (by repeat (first | exact Imp.refl _ | exact Imp.none _ | apply Imp.pull (by repeat (first | exact Ext.here | apply Ext.there)) | apply Imp.trans Imp.drop))
    · try replace hc := of_decide_eq_false hc
      refine CG.skip ?_
      refine QG.block_normal ?_
      refine QG.then ?_
      refine CG.region ?_
      refine OG.yield (Yield.move rfl) rfl ?_
      refine OG.yield (Yield.add rfl rfl (w64 (by omega) (by omega))) rfl ?_
      refine OG.yield (Yield.assign rfl) rfl ?_
      refine OG.nil ?_
      refine QG.next (i + 1) (show i + 1 ≤ l.length by omega) (show l.length - (i + 1) < l.length - i by omega) (by repeat (first | exact Env.sub_nil _ | refine Env.sub_cons rfl ?_)) ?_
      rw [pass_step hget, if_neg hc, set_same hg2]
      exact (by repeat (first | exact Imp.refl _ | exact Imp.none _ | apply Imp.pull (by repeat (first | exact Ext.here | apply Ext.there)) | apply Imp.trans Imp.drop))
  · try replace hc := of_decide_eq_false hc
    refine CG.exit ?_
    refine QG.pass_exit ?_
    refine QG.pass_exit ?_
    refine QG.block_exit ?_
    have : i = l.length := by omega
    subst this
    rw [List.take_length, List.drop_length, List.append_nil]
    exact QG.end0 rfl () trivial rfl (Imp.trans (by repeat (first | exact Imp.refl _ | exact Imp.none _ | apply Imp.pull (by repeat (first | exact Ext.here | apply Ext.there)) | apply Imp.trans Imp.drop)) (r_close ((b, o), c)))
theorem rflushPage_spec {t hand hits miss : Nat} {l : List Slot} (tag page : Int) (hl : l.length ≤ 64) : Ctr Try.prog W0 56 [.pointer (some ⟨t, 0, none⟩), .int .i64 tag, .int .i64 page] (RT t l hand hits miss :: Fr) (fun _ : Unit => True) (fun _ => .tuple #[]) (fun _ => RT t (rflushPL l tag page) hand hits miss :: Fr) := by
  refine Ctr.of_body Try.func56 rfl Try.ntmps56 rfl ?_
  refine CG.seq ?_
  refine CG.region ?_
  refine OG.yield (Yield.move rfl) rfl ?_
  refine OG.yield (Yield.move rfl) rfl ?_
  refine OG.yield (Yield.move rfl) rfl ?_
  refine OG.callo call77 rfl ((by repeat (first | exact Imp.refl _ | exact Imp.none _ | apply Imp.pull (by repeat (first | exact Ext.here | apply Ext.there)) | apply Imp.trans Imp.drop))) (at_spec W0 Fr tag page hl) rfl ?_
  rintro ⟨⟩ -
  refine OG.yield (Yield.assign rfl) rfl ?_
  refine OG.nil ?_
  refine QG.then ?_
  refine CG.seq ?_
  rcases put_cases l tag page with hh | hh
  · skip
    obtain ⟨i, hf, hi⟩ := hh
    rw [hf, show oi (some i) = (i : Int) from rfl]
    have hget : l[i]? = some l[i] := by simp [hi]
    generalize l[i] = s at hget
    refine CG.region ?_
    refine OG.yield (Yield.move rfl) rfl ?_
    refine OG.yield (by first | exact Yield.as (Yield.geq rfl rfl) (bT (by omega)) | exact Yield.as (Yield.geq rfl rfl) (bF (by omega)) | exact Yield.geq rfl rfl) rfl ?_
    refine OG.nil ?_
    refine QG.then ?_
    refine CG.cond_t rfl ?_
    refine CG.ex (A := RT t l hand hits miss) (by repeat (first | exact Ext.here | apply Ext.there)) r_open ?_
    rintro ⟨⟨b, o⟩, c⟩ -
    refine CG.imp star_open ?_
    dsimp only [RO, List.cons_append, List.nil_append]
    refine CG.region ?_
    refine OG.yield (Yield.move rfl) rfl ?_
    refine OG.yield (Yield.nilCheck rfl) rfl ?_
    refine OG.yield (Yield.fieldAddr fa121_0 rfl) rfl ?_
    refine OG.yield (Yield.load ti119 rfl (by first | exact Cel.of_blk (by repeat (first | exact Ext.here | apply Ext.there)) rfl | exact (hrow (by repeat (first | exact Ext.here | apply Ext.there))) _ _ rfl)) rfl ?_
    refine OG.yield (Yield.move rfl) rfl ?_
    refine OG.yield (Yield.index_slice Try.underlying119 ti123 rfl rfl (by omega) (by omega)) rfl ?_
    refine OG.yield (Yield.fieldAddr fa123_0 rfl) rfl ?_
    refine OG.eff (Eff.storeFld (i := i) 0 (r := s) (r' := off s) (rs := l) Slot.len hget rfl (by decide) ti4 rfl rfl (by repeat (first | exact Foc.here | apply Foc.there)) rfl rfl) rfl ?_
    rintro ⟨⟩ -
    refine OG.nil ?_
    rw [show rflushPL l tag page = l.set i (off s) by simp [rflushPL, hf, hget]]
    refine QG.end0 rfl () trivial rfl (Imp.trans ?_ (r_close ((b, o), c)))
    dsimp only [RO]
    rw [List.length_set]
    exact (by repeat (first | exact Imp.refl _ | exact Imp.none _ | apply Imp.pull (by repeat (first | exact Ext.here | apply Ext.there)) | apply Imp.trans Imp.drop))
  · skip
    have hf : l.findIdx? (hitB tag page) = none := by rcases hh with ⟨h, _⟩ | ⟨h, _⟩ <;> exact h
    rw [hf, show oi none = -1 from rfl]
    refine CG.region ?_
    refine OG.yield (Yield.move rfl) rfl ?_
    refine OG.yield (by first | exact Yield.as (Yield.geq rfl rfl) (bT (by omega)) | exact Yield.as (Yield.geq rfl rfl) (bF (by omega)) | exact Yield.geq rfl rfl) rfl ?_
    refine OG.nil ?_
    refine QG.then ?_
    refine CG.cond_f rfl ?_
    refine CG.skip ?_
    rw [show rflushPL l tag page = l by simp [rflushPL, hf]]
    exact QG.end0 rfl () trivial rfl (by repeat (first | exact Imp.refl _ | exact Imp.none _ | apply Imp.pull (by repeat (first | exact Ext.here | apply Ext.there)) | apply Imp.trans Imp.drop))
theorem rflush_spec {t hand hits miss : Nat} {l : List Slot} (hl : l.length ≤ 64) : Ctr Try.prog W0 57 [.pointer (some ⟨t, 0, none⟩)] (RT t l hand hits miss :: Fr) (fun _ : Unit => True) (fun _ => .tuple #[]) (fun _ => RT t (l.map off) 0 hits miss :: Fr) := by
  refine Ctr.ex Ext.here r_open ?_
  rintro ⟨⟨b, o⟩, c⟩ -
  refine Ctr.imp star_open ?_
  dsimp only [RO]
  refine Ctr.of_body Try.func57 rfl Try.ntmps57 rfl ?_
  refine CG.seq ?_
  refine CG.seq ?_
  refine CG.region ?_
  refine OG.yield (Yield.assign rfl) rfl ?_
  refine OG.nil ?_
  refine QG.then ?_
  refine CG.block ?_
  refine CG.loop (fun i : Nat => i ≤ l.length) (fun i => [(0, .pointer (some ⟨t, 0, none⟩)), (2, .int .i64 i)]) (fun i => RO t ((l.take i).map off ++ l.drop i) hand hits miss ((b, o), c) ++ Fr) (fun i => l.length - i) 0 (Nat.zero_le _) (by repeat (first | exact Env.sub_nil _ | refine Env.sub_cons rfl ?_)) (by simp only [List.take_zero, List.map_nil, List.nil_append, List.drop_zero]; exact Imp.refl _) ?_
  intro i hi
  have hln := pass_len l off i hi
  dsimp only [RO, List.cons_append, List.nil_append]
  refine CG.seq ?_
  refine CG.seq ?_
  refine CG.region ?_
  refine OG.yield (Yield.move rfl) rfl ?_
  refine OG.yield (Yield.move rfl) rfl ?_
  refine OG.yield (Yield.nilCheck rfl) rfl ?_
  refine OG.yield (Yield.fieldAddr fa121_0 rfl) rfl ?_
  refine OG.yield (Yield.load ti119 rfl (by first | exact Cel.of_blk (by repeat (first | exact Ext.here | apply Ext.there)) rfl | exact (hrow (by repeat (first | exact Ext.here | apply Ext.there))) _ _ rfl)) rfl ?_
  refine OG.yield (Yield.len_slice Try.underlying119 rfl rfl) rfl ?_
  refine OG.yield (by first | exact Yield.as (Yield.lss rfl rfl) (bT (by omega)) | exact Yield.as (Yield.lss rfl rfl) (bF (by omega)) | exact Yield.lss rfl rfl) rfl ?_
  refine OG.nil ?_
  refine QG.then ?_
  refine CG.cond rfl (fun hc => ?_) (fun hc => ?_)
  · try replace hc := of_decide_eq_true hc
    have hi' : i < l.length := by omega
    have hget : l[i]? = some l[i] := by simp [hi']
    generalize l[i] = s at hget
    have hg2 := pass_get (f := off) hget
    refine CG.skip ?_
    refine QG.then ?_
    refine CG.seq ?_
    refine CG.block ?_
    refine CG.region ?_
    refine OG.yield (Yield.move rfl) rfl ?_
    refine OG.yield (Yield.nilCheck rfl) rfl ?_
    refine OG.yield (Yield.fieldAddr fa121_0 rfl) rfl ?_
    refine OG.yield (Yield.load ti119 rfl (by first | exact Cel.of_blk (by repeat (first | exact Ext.here | apply Ext.there)) rfl | exact (hrow (by repeat (first | exact Ext.here | apply Ext.there))) _ _ rfl)) rfl ?_
    refine OG.yield (Yield.move rfl) rfl ?_
    refine OG.yield (Yield.index_slice Try.underlying119 ti123 rfl rfl (by omega) (by omega)) rfl ?_
    refine OG.yield (Yield.fieldAddr fa123_0 rfl) rfl ?_
    refine OG.eff (Eff.storeFld (i := i) 0 (r := s) (r' := off s) (rs := (l.take i).map off ++ l.drop i) Slot.len hg2 rfl (by decide) ti4 rfl rfl (by repeat (first | exact Foc.here | apply Foc.there)) rfl rfl) rfl ?_
    rintro ⟨⟩ -
    refine OG.nil ?_
    refine QG.block_normal ?_
    refine QG.then ?_
    refine CG.region ?_
    refine OG.yield (Yield.move rfl) rfl ?_
    refine OG.yield (Yield.add rfl rfl (w64 (by omega) (by omega))) rfl ?_
    refine OG.yield (Yield.assign rfl) rfl ?_
    refine OG.nil ?_
    refine QG.next (i + 1) (show i + 1 ≤ l.length by omega) (show l.length - (i + 1) < l.length - i by omega) (by repeat (first | exact Env.sub_nil _ | refine Env.sub_cons rfl ?_)) ?_
    rw [pass_step hget]
    try dsimp only [RO]
    rw [List.length_set]
    exact (by repeat (first | exact Imp.refl _ | exact Imp.none _ | apply Imp.pull (by repeat (first | exact Ext.here | apply Ext.there)) | apply Imp.trans Imp.drop))
  · try replace hc := of_decide_eq_false hc
    refine CG.exit ?_
    refine QG.pass_exit ?_
    refine QG.pass_exit ?_
    refine QG.block_exit ?_
    refine QG.then ?_
    have : i = l.length := by omega
    subst this
    rw [List.take_length, List.drop_length, List.append_nil]
    refine CG.region ?_
    refine OG.yield (Yield.move rfl) rfl ?_
    refine OG.yield (Yield.nilCheck rfl) rfl ?_
    refine OG.yield (Yield.fieldAddr fa121_1 rfl) rfl ?_
    refine OG.eff (Eff.store1 ti3 rfl rfl (by repeat (first | exact Foc.here | apply Foc.there)) rfl (by simp)) rfl ?_
    rintro ⟨⟩ -
    refine OG.nil ?_
    refine QG.end0 rfl () trivial rfl (Imp.trans (by repeat (first | exact Imp.refl _ | exact Imp.none _ | apply Imp.pull (by repeat (first | exact Ext.here | apply Ext.there)) | apply Imp.trans Imp.drop)) (r_close ((b, o), c)))
abbrev oln5 (a : Option Addr) (c : Nat) (xs : List Slot) : HProp := osl 123 5 a c xs.length ((xs.map Slot.cells).flatten)
theorem oln5_snoc (a : Option Addr) (c : Nat) (xs : List Slot) (s : Slot) : oln5 a c (xs ++ [s]) = osl 123 5 a c (xs.length + 1) ((xs.map Slot.cells).flatten ++ s.cells) := by unfold oln5; simp
theorem rheld_spec {t hand hits miss : Nat} {l : List Slot} (hl : l.length ≤ 64) : Ctr Try.prog W0 78 [.pointer (some ⟨t, 0, none⟩)] (RT t l hand hits miss :: Fr) (fun _ : Option Addr × Nat => True) (fun p => .slice p.1 (heldL l).length p.2) (fun p => oln5 p.1 p.2 (heldL l) :: RT t l hand hits miss :: Fr) := by
  refine Ctr.ex Ext.here r_open ?_
  rintro ⟨⟨b, o⟩, c⟩ -
  refine Ctr.imp star_open ?_
  dsimp only [RO]
  refine Ctr.of_body Try.func78 rfl Try.ntmps78 rfl ?_
  refine CG.seq ?_
  refine CG.region ?_
  refine OG.yield (Yield.assign rfl) rfl ?_
  refine OG.nil ?_
  refine QG.then ?_
  refine CG.seq ?_
  refine CG.region ?_
  refine OG.yield (Yield.assign rfl) rfl ?_
  refine OG.nil ?_
  refine QG.then ?_
  refine CG.seq ?_
  refine CG.seq ?_
  refine CG.region ?_
  refine OG.yield (Yield.assign rfl) rfl ?_
  refine OG.nil ?_
  refine QG.then ?_
  refine CG.block ?_
  refine CG.loop (fun i : Nat × Option Addr × Nat => i.1 ≤ l.length) (fun i => [(0, .pointer (some ⟨t, 0, none⟩)), (3, .slice i.2.1 (heldL (l.take i.1)).length i.2.2), (4, .int .i64 i.1)]) (fun i => oln5 i.2.1 i.2.2 (heldL (l.take i.1)) :: (RO t l hand hits miss ((b, o), c) ++ Fr)) (fun i => l.length - i.1) (0, none, 0) (Nat.zero_le _) (by repeat (first | exact Env.sub_nil _ | refine Env.sub_cons rfl ?_)) (Imp.trans (osl_nil (E := 123) (sz := 5)) (Imp.refl _)) ?_
  rintro ⟨i, a, c2⟩ (hi : i ≤ l.length)
  have hhl : (heldL (l.take i)).length ≤ 64 := Nat.le_trans (List.length_filter_le _ _) (by simp; omega)
  dsimp only [RO, List.cons_append, List.nil_append]
  refine CG.seq ?_
  refine CG.seq ?_
  refine CG.region ?_
  refine OG.yield (Yield.move rfl) rfl ?_
  refine OG.yield (Yield.move rfl) rfl ?_
  refine OG.yield (Yield.nilCheck rfl) rfl ?_
  refine OG.yield (Yield.fieldAddr fa121_0 rfl) rfl ?_
  refine OG.yield (Yield.load ti119 rfl (by first | exact Cel.of_blk (by repeat (first | exact Ext.here | apply Ext.there)) rfl | exact (hrow (by repeat (first | exact Ext.here | apply Ext.there))) _ _ rfl)) rfl ?_
  refine OG.yield (Yield.len_slice Try.underlying119 rfl rfl) rfl ?_
  refine OG.yield (by first | exact Yield.as (Yield.lss rfl rfl) (bT (by omega)) | exact Yield.as (Yield.lss rfl rfl) (bF (by omega)) | exact Yield.lss rfl rfl) rfl ?_
  refine OG.nil ?_
  refine QG.then ?_
  refine CG.cond rfl (fun hc => ?_) (fun hc => ?_)
  · try replace hc := of_decide_eq_true hc
    have hi' : i < l.length := by omega
    have hget : l[i]? = some l[i] := by simp [hi']
    generalize l[i] = s at hget
    refine CG.skip ?_
    refine QG.then ?_
    refine CG.seq ?_
    refine CG.block ?_
    refine CG.seq ?_
    refine CG.region ?_
    refine OG.yield (Yield.move rfl) rfl ?_
    refine OG.yield (Yield.nilCheck rfl) rfl ?_
    refine OG.yield (Yield.fieldAddr fa121_0 rfl) rfl ?_
    refine OG.yield (Yield.load ti119 rfl (by first | exact Cel.of_blk (by repeat (first | exact Ext.here | apply Ext.there)) rfl | exact (hrow (by repeat (first | exact Ext.here | apply Ext.there))) _ _ rfl)) rfl ?_
    refine OG.yield (Yield.move rfl) rfl ?_
    refine OG.yield (Yield.index_slice Try.underlying119 ti123 rfl rfl (by omega) (by omega)) rfl ?_
    refine OG.yield (Yield.fieldAddr fa123_0 rfl) rfl ?_
    refine OG.yield (Yield.load (v := .bool s.used) ti4 rfl (((SlR.of_osl (a := some ⟨b, o, none⟩) (by repeat (first | exact Ext.here | apply Ext.there))).elem Slot.len hget) 0 _ rfl)) rfl ?_
    refine OG.nil ?_
    refine QG.then ?_
    refine CG.cond rfl (fun hc => ?_) (fun hc => ?_)
    · try replace hc := of_decide_eq_true hc
      refine CG.region ?_
      refine OG.yield (Yield.move rfl) rfl ?_
      refine OG.yield (Yield.move rfl) rfl ?_
      refine OG.yield (Yield.nilCheck rfl) rfl ?_
      refine OG.yield (Yield.fieldAddr fa121_0 rfl) rfl ?_
      refine OG.yield (Yield.load ti119 rfl (by first | exact Cel.of_blk (by repeat (first | exact Ext.here | apply Ext.there)) rfl | exact (hrow (by repeat (first | exact Ext.here | apply Ext.there))) _ _ rfl)) rfl ?_
      refine OG.yield (Yield.move rfl) rfl ?_
      refine OG.yield (Yield.index_slice Try.underlying119 ti123 rfl rfl (by omega) (by omega)) rfl ?_
      refine OG.yield (Yield.load_agg (vs := s.cells) ti123 rfl (Slot.len s) ((SlR.of_osl (a := some ⟨b, o, none⟩) (by repeat (first | exact Ext.here | apply Ext.there))).elem (f := Slot.cells) Slot.len hget)) rfl ?_
      refine OG.effd (Eff.lit [.tmp 29] (vs := [.agg s.cells.toArray]) (cells := s.cells) Try.underlying119 ti123 rfl rfl rfl rfl (by decide) (by simp [Value.cells, Slot.cells]) (by simp [Value.cells])) rfl ?_
      rintro b30 -
      refine OG.effd (Eff.append (k := 1) (ys := s.cells) rfl rfl rfl Try.underlying119 Try.underlying119 ti123 rfl (by decide) (by repeat (first | exact Foc.here | apply Foc.there)) (SlR.of_osl (a := some ⟨b30, 0, none⟩) (by repeat (first | exact Ext.here | apply Ext.there))) (Slot.ones s) (by omega)) rfl ?_
      rintro ⟨a21, c21⟩ -
      refine OG.yield (Yield.assign rfl) rfl ?_
      refine OG.nil ?_
      refine QG.block_normal ?_
      refine QG.then ?_
      refine CG.region ?_
      refine OG.yield (Yield.move rfl) rfl ?_
      refine OG.yield (Yield.add rfl rfl (w64 (by omega) (by omega))) rfl ?_
      refine OG.yield (Yield.assign rfl) rfl ?_
      refine OG.nil ?_
      refine QG.next (i + 1, a21, c21) (show i + 1 ≤ l.length by omega) (show l.length - (i + 1) < l.length - i by omega) ?_ ?_
      · dsimp only; rw [held_step hget, if_pos hc, List.length_append]; exact (by repeat (first | exact Env.sub_nil _ | refine Env.sub_cons rfl ?_))
      · dsimp only; rw [held_step hget, if_pos hc, oln5_snoc]; exact (by repeat (first | exact Imp.refl _ | exact Imp.none _ | apply Imp.pull (by repeat (first | exact Ext.here | apply Ext.there)) | apply Imp.trans Imp.drop))
    · try replace hc := of_decide_eq_false hc
      refine CG.skip ?_
      refine QG.block_normal ?_
      refine QG.then ?_
      refine CG.region ?_
      refine OG.yield (Yield.move rfl) rfl ?_
      refine OG.yield (Yield.add rfl rfl (w64 (by omega) (by omega))) rfl ?_
      refine OG.yield (Yield.assign rfl) rfl ?_
      refine OG.nil ?_
      refine QG.next (i + 1, a, c2) (show i + 1 ≤ l.length by omega) (show l.length - (i + 1) < l.length - i by omega) ?_ ?_
      · dsimp only; rw [held_step hget, if_neg (by rw [hc]; decide)]; exact (by repeat (first | exact Env.sub_nil _ | refine Env.sub_cons rfl ?_))
      · dsimp only; rw [held_step hget, if_neg (by rw [hc]; decide)]; exact (by repeat (first | exact Imp.refl _ | exact Imp.none _ | apply Imp.pull (by repeat (first | exact Ext.here | apply Ext.there)) | apply Imp.trans Imp.drop))
  · try replace hc := of_decide_eq_false hc
    refine CG.exit ?_
    refine QG.pass_exit ?_
    refine QG.pass_exit ?_
    refine QG.block_exit ?_
    refine QG.then ?_
    refine CG.seq ?_
    refine CG.region ?_
    refine OG.yield (Yield.move rfl) rfl ?_
    refine OG.yield (Yield.assign rfl) rfl ?_
    refine OG.nil ?_
    refine QG.then ?_
    refine CG.ret ?_
    have : i = l.length := by omega
    subst this
    rw [List.take_length]
    exact QG.ret1 rfl rfl (a, c2) trivial rfl (Imp.trans (by repeat (first | exact Imp.refl _ | exact Imp.none _ | apply Imp.pull (by repeat (first | exact Ext.here | apply Ext.there)) | apply Imp.trans Imp.drop)) (Imp.cons (r_close ((b, o), c))))
theorem zeros_eq (m : Nat) (z : Array Value) (h : z.toList = Slot.zero.cells) : (Builtin.zeroCells z m).toList = ((List.replicate m Slot.zero).map Slot.cells).flatten := by
  rw [zeroCells_flat (sz := 5) (by rw [← Array.length_toList, h]; rfl), h, List.map_replicate]
theorem flush_spec {t hand hits miss : Nat} {l : List Slot} (hl : l.length ≤ 64) (hl0 : 0 < l.length) : Ctr Try.prog W0 42 [.pointer (some ⟨t, 0, none⟩)] (T t l hand hits miss :: Fr) (fun _ : Unit => True) (fun _ => .tuple #[]) (fun _ => T t (List.replicate l.length Slot.zero) 0 hits miss :: Fr) := by
  refine Ctr.ex Ext.here t_open ?_
  rintro ⟨⟨b, o⟩, c⟩ -
  refine Ctr.imp star_open ?_
  dsimp only [TO]
  refine Ctr.of_body Try.func42 rfl Try.ntmps42 rfl ?_
  refine CG.seq ?_
  refine CG.region ?_
  refine OG.yield (Yield.move rfl) rfl ?_
  refine OG.yield (Yield.nilCheck rfl) rfl ?_
  refine OG.yield (Yield.fieldAddr fa98_0 rfl) rfl ?_
  refine OG.yield (Yield.load ti96 rfl (by first | exact Cel.of_blk (by repeat (first | exact Ext.here | apply Ext.there)) rfl | exact (hrow (by repeat (first | exact Ext.here | apply Ext.there))) _ _ rfl)) rfl ?_
  refine OG.eff (Eff.clear (zs := ((List.replicate l.length Slot.zero).map Slot.cells).flatten) rfl rfl Try.underlying96 ti102 hl0 (zeros_eq _ _ rfl) (zeros_len _) (zeros_ones _) (by repeat (first | exact Foc.here | apply Foc.there))) rfl ?_
  rintro ⟨⟩ -
  refine OG.nil ?_
  refine QG.then ?_
  refine CG.region ?_
  refine OG.yield (Yield.move rfl) rfl ?_
  refine OG.yield (Yield.nilCheck rfl) rfl ?_
  refine OG.yield (Yield.fieldAddr fa98_1 rfl) rfl ?_
  refine OG.eff (Eff.store1 ti3 rfl rfl (by repeat (first | exact Foc.here | apply Foc.there)) rfl (by simp)) rfl ?_
  rintro ⟨⟩ -
  refine OG.nil ?_
  refine QG.end0 rfl () trivial rfl (Imp.trans ?_ (t_close (l := List.replicate l.length Slot.zero) ((b, o), c)))
  dsimp only [TO]
  rw [List.length_replicate]
  exact (by repeat (first | exact Imp.refl _ | exact Imp.none _ | apply Imp.pull (by repeat (first | exact Ext.here | apply Ext.there)) | apply Imp.trans Imp.drop))
theorem slots_ones (l : List Slot) : ∀ v ∈ (l.map Slot.cells).flatten, one v = true := by
  intro v hv
  simp only [List.mem_flatten, List.mem_map] at hv
  obtain ⟨q, ⟨s, _, rfl⟩, hv⟩ := hv
  exact Slot.ones s v hv
theorem clone_spec {t hand hits miss : Nat} {l : List Slot} (hl : l.length ≤ 64) (hl0 : 0 < l.length) : Ctr Try.prog W0 58 [.pointer (some ⟨t, 0, none⟩)] (T t l hand hits miss :: Fr) (fun _ : Nat => True) (fun u => .pointer (some ⟨u, 0, none⟩)) (fun u => T u l hand hits miss :: T t l hand hits miss :: Fr) := by
  refine Ctr.ex Ext.here t_open ?_
  rintro ⟨⟨b, o⟩, c⟩ -
  refine Ctr.imp star_open ?_
  dsimp only [TO]
  refine Ctr.of_body Try.func58 rfl Try.ntmps58 rfl ?_
  refine CG.seq ?_
  refine CG.region ?_
  refine OG.yield (Yield.assign rfl) rfl ?_
  refine OG.nil ?_
  refine QG.then ?_
  refine CG.seq ?_
  refine CG.region ?_
  refine OG.yield (Yield.move rfl) rfl ?_
  refine OG.yield (Yield.nilCheck rfl) rfl ?_
  refine OG.yield (Yield.load_agg (vs := [.slice (some ⟨b, o, none⟩) l.length c, .int .i64 hand, .int .i64 hits, .int .i64 miss]) ti98 rfl rfl (Row.of_blk (b := t) (by repeat (first | exact Ext.here | apply Ext.there)) rfl)) rfl ?_
  refine OG.effd (Eff.alloc ti98) rfl ?_
  rintro b3 -
  refine OG.eff (Eff.storeAll ti98 rfl rfl (by repeat (first | exact Foc.here | apply Foc.there)) rfl (by simp [one]) (by first | rfl | simp)) rfl ?_
  rintro ⟨⟩ -
  refine OG.nil ?_
  refine QG.then ?_
  refine CG.seq ?_
  refine CG.region ?_
  refine OG.effd (Eff.lit0 Try.underlying96 ti102 rfl) rfl ?_
  rintro b7 -
  refine OG.yield (Yield.move rfl) rfl ?_
  refine OG.yield (Yield.nilCheck rfl) rfl ?_
  refine OG.yield (Yield.fieldAddr fa98_0 rfl) rfl ?_
  refine OG.yield (Yield.load ti96 rfl (by first | exact Cel.of_blk (by repeat (first | exact Ext.here | apply Ext.there)) rfl | exact (hrow (by repeat (first | exact Ext.here | apply Ext.there))) _ _ rfl)) rfl ?_
  refine OG.effd (Eff.append0 (k := l.length) (ys := (l.map Slot.cells).flatten) rfl rfl rfl Try.underlying96 Try.underlying96 ti102 rfl (by decide) (by repeat (first | exact Foc.here | apply Foc.there)) (SlR.of_osl (a := some ⟨b, o, none⟩) (by repeat (first | exact Ext.here | apply Ext.there))) (slots_ones l) (by omega)) rfl ?_
  rintro ⟨a12, c12⟩ -
  refine OG.pure (fun w hw => SlR.shape (SlR.of_osl (W0 := W0) (E := 102) (sz := 5) (a := a12) (c := c12) (m := l.length) (xs := (l.map Slot.cells).flatten) (by repeat (first | exact Ext.here | apply Ext.there))) ?_ w hw) ?_
  · intro h
    have := flat_len (f := Slot.cells) Slot.len l
    rw [h] at this; simp only [List.length_nil] at this; omega
  rintro ⟨b2, o2, rfl⟩
  refine OG.yield (Yield.fieldAddr fa98_0 rfl) rfl ?_
  refine OG.eff (Eff.store1 ti96 rfl rfl (by repeat (first | exact Foc.here | apply Foc.there)) rfl (by simp)) rfl ?_
  rintro ⟨⟩ -
  refine OG.nil ?_
  refine QG.then ?_
  refine CG.seq ?_
  refine CG.region ?_
  refine OG.yield (Yield.assign rfl) rfl ?_
  refine OG.nil ?_
  refine QG.then ?_
  refine CG.ret ?_
  exact QG.ret1 rfl rfl b3 trivial rfl (Imp.trans (by repeat (first | exact Imp.refl _ | exact Imp.none _ | apply Imp.pull (by repeat (first | exact Ext.here | apply Ext.there)) | apply Imp.trans Imp.drop)) (Imp.trans (t_close (l := l) (hand := hand) (hits := hits) (miss := miss) (t := b3) ((b2, o2), c12)) (Imp.cons (t_close ((b, o), c)))))
theorem find_cases (l : List Slot) (tag page : Int) : (∃ i s, l.findIdx? (hitB tag page) = some i ∧ l[i]? = some s ∧ s.used = true) ∨ l.findIdx? (hitB tag page) = none := by
  cases h : l.findIdx? (hitB tag page) with
  | none => exact .inr rfl
  | some i =>
    obtain ⟨h1, h2, _⟩ := List.findIdx?_eq_some_iff_getElem.1 h
    simp only [hitB, Bool.and_eq_true, beq_iff_eq] at h2
    exact .inl ⟨i, l[i], rfl, by simp [h1], h2.1⟩
/-- A question whose answer does not matter. -/
theorem look_any {t hand hits miss : Nat} {l : List Slot} (tag page : Int) (hl : l.length ≤ 64) (hb : hits < 2 ^ 60) (hb2 : miss < 2 ^ 60) :
    Ctr Try.prog W0 17 [.pointer (some ⟨t, 0, none⟩), .int .i64 tag, .int .i64 page] (T t l hand hits miss :: Fr) (fun _ : Value × Nat × Nat => True) (fun x => x.1) (fun x => T t l hand x.2.1 x.2.2 :: Fr) := by
  rcases find_cases l tag page with ⟨i, s, hf, hs, _⟩ | hf
  · exact Ctr.to (look_hit W0 Fr tag page hl hb hf hs) (fun _ => (_, hits + 1, miss)) (fun _ _ => trivial) (fun _ => rfl) (fun _ => Imp.refl _)
  · exact Ctr.to (look_miss W0 Fr tag page hl hb2 hf) (fun _ => (_, hits, miss + 1)) (fun _ _ => trivial) (fun _ => rfl) (fun _ => Imp.refl _)
/-- The line that is laid over what Held told. -/
def nine : Slot := ⟨false, -9, 0, 0, 0⟩
def lst (ws : List Slot) (i : Nat) : List Slot := List.replicate i nine ++ ws.drop i
theorem lst_len (ws : List Slot) {i : Nat} (h : i ≤ ws.length) : (lst ws i).length = ws.length := by simp [lst]; omega
theorem lst_get {ws : List Slot} {i : Nat} {s : Slot} (h : ws[i]? = some s) : (lst ws i)[i]? = some s := by
  obtain ⟨hi, rfl⟩ := List.getElem?_eq_some_iff.1 h
  unfold lst; rw [List.getElem?_append_right (by simp), List.length_replicate, Nat.sub_self]; simp [hi]
theorem lst_step {ws : List Slot} {i : Nat} (h : i < ws.length) : (lst ws i).set i nine = lst ws (i + 1) := by
  unfold lst
  rw [List.set_append_right _ _ (by simp), List.length_replicate, Nat.sub_self, List.drop_eq_getElem_cons h, List.set_cons_zero, List.replicate_succ', List.append_assoc]; rfl
set_option maxHeartbeats 1000000 in
theorem alike_spec {t r hand hits miss : Nat} {l : List Slot} (hl : l.length ≤ 64) : Ctr Try.prog W0 59 [.pointer (some ⟨t, 0, none⟩), .pointer (some ⟨r, 0, none⟩)] (T t (l.map norm) hand hits miss :: RT r l hand hits miss :: Fr) (fun _ : Unit => True) (fun _ => .bool true) (fun _ => T t (l.map norm) hand hits miss :: RT r l hand hits miss :: Fr) := by
  have hlw : (heldL l).length ≤ 64 := Nat.le_trans (List.length_filter_le _ _) (by omega)
  refine Ctr.of_body Try.func59 rfl Try.ntmps59 rfl ?_
  refine CG.seq ?_
  refine CG.region ?_
  refine OG.yield (Yield.assign rfl) rfl ?_
  refine OG.nil ?_
  refine QG.then ?_
  refine CG.seq ?_
  refine CG.region ?_
  refine OG.yield (Yield.move rfl) rfl ?_
  refine OG.callo call43 rfl ((by repeat (first | exact Imp.refl _ | exact Imp.none _ | apply Imp.pull (by repeat (first | exact Ext.here | apply Ext.there)) | apply Imp.trans Imp.drop))) (held_spec W0 _ (l := l.map norm) (by rw [List.length_map]; omega)) rfl ?_
  rintro ⟨a5, c5⟩ -
  rw [held_norm]
  refine OG.yield (Yield.assign rfl) rfl ?_
  refine OG.nil ?_
  refine QG.then ?_
  refine CG.seq ?_
  refine CG.region ?_
  refine OG.yield (Yield.move rfl) rfl ?_
  refine OG.callo call78 rfl ((by repeat (first | exact Imp.refl _ | exact Imp.none _ | apply Imp.pull (by repeat (first | exact Ext.here | apply Ext.there)) | apply Imp.trans Imp.drop))) (rheld_spec W0 _ (l := l) hl) rfl ?_
  rintro ⟨a6, c6⟩ -
  generalize heldL l = ws at hlw ⊢
  refine OG.yield (Yield.assign rfl) rfl ?_
  refine OG.nil ?_
  refine QG.then ?_
  refine CG.seq ?_
  refine CG.region ?_
  refine OG.yield (Yield.move rfl) rfl ?_
  refine OG.callo call79 rfl ((by repeat (first | exact Imp.refl _ | exact Imp.none _ | apply Imp.pull (by repeat (first | exact Ext.here | apply Ext.there)) | apply Imp.trans Imp.drop))) (hits_spec W0 _ (l := l.map norm)) rfl ?_
  rintro ⟨⟩ -
  refine OG.yield (Yield.move rfl) rfl ?_
  refine OG.yield (Yield.extract rfl rfl) rfl ?_
  refine OG.yield (Yield.extract rfl rfl) rfl ?_
  refine OG.yield (Yield.assign rfl) rfl ?_
  refine OG.yield (Yield.assign rfl) rfl ?_
  refine OG.nil ?_
  refine QG.then ?_
  refine CG.ex (A := RT r l hand hits miss) (by repeat (first | exact Ext.here | apply Ext.there)) r_open ?_
  rintro ⟨⟨b, o⟩, c⟩ -
  refine CG.imp star_open ?_
  dsimp only [RO, List.cons_append, List.nil_append]
  refine CG.seq ?_
  refine CG.seq ?_
  refine CG.region ?_
  refine OG.yield (Yield.move rfl) rfl ?_
  refine OG.yield (Yield.len_slice Try.underlying79 rfl rfl) rfl ?_
  refine OG.yield (Yield.move rfl) rfl ?_
  refine OG.yield (Yield.len_slice Try.underlying119 rfl rfl) rfl ?_
  refine OG.yield (by first | exact Yield.as (Yield.neq rfl rfl) (bT (by omega)) | exact Yield.as (Yield.neq rfl rfl) (bF (by omega)) | exact Yield.neq rfl rfl) rfl ?_
  refine OG.yield (Yield.move rfl) rfl ?_
  refine OG.guard_yes rfl rfl rfl (by decide) ?_
  refine OG.yield (Yield.move rfl) rfl ?_
  refine OG.guard_yes rfl rfl rfl (by decide) ?_
  refine OG.yield (Yield.move rfl) rfl ?_
  refine OG.guard_yes rfl rfl rfl (by decide) ?_
  refine OG.yield (Yield.nilCheck rfl) rfl ?_
  refine OG.guard_yes rfl rfl rfl (by decide) ?_
  refine OG.yield (Yield.fieldAddr fa121_2 rfl) rfl ?_
  refine OG.guard_yes rfl rfl rfl (by decide) ?_
  refine OG.yield (Yield.load ti3 rfl (by first | exact Cel.of_blk (by repeat (first | exact Ext.here | apply Ext.there)) rfl | exact (hrow (by repeat (first | exact Ext.here | apply Ext.there))) _ _ rfl)) rfl ?_
  refine OG.guard_yes rfl rfl rfl (by decide) ?_
  refine OG.yield (by first | exact Yield.as (Yield.neq rfl rfl) (bT (by omega)) | exact Yield.as (Yield.neq rfl rfl) (bF (by omega)) | exact Yield.neq rfl rfl) rfl ?_
  refine OG.yield (by first | exact Yield.pick_t rfl rfl | exact Yield.pick_f rfl rfl | exact Yield.pick rfl (fun _ => rfl) (fun _ => rfl)) rfl ?_
  refine OG.yield (Yield.move rfl) rfl ?_
  refine OG.guard_yes rfl rfl rfl (by decide) ?_
  refine OG.yield (Yield.move rfl) rfl ?_
  refine OG.guard_yes rfl rfl rfl (by decide) ?_
  refine OG.yield (Yield.move rfl) rfl ?_
  refine OG.guard_yes rfl rfl rfl (by decide) ?_
  refine OG.yield (Yield.nilCheck rfl) rfl ?_
  refine OG.guard_yes rfl rfl rfl (by decide) ?_
  refine OG.yield (Yield.fieldAddr fa121_3 rfl) rfl ?_
  refine OG.guard_yes rfl rfl rfl (by decide) ?_
  refine OG.yield (Yield.load ti3 rfl (by first | exact Cel.of_blk (by repeat (first | exact Ext.here | apply Ext.there)) rfl | exact (hrow (by repeat (first | exact Ext.here | apply Ext.there))) _ _ rfl)) rfl ?_
  refine OG.guard_yes rfl rfl rfl (by decide) ?_
  refine OG.yield (by first | exact Yield.as (Yield.neq rfl rfl) (bT (by omega)) | exact Yield.as (Yield.neq rfl rfl) (bF (by omega)) | exact Yield.neq rfl rfl) rfl ?_
  refine OG.yield (by first | exact Yield.pick_t rfl rfl | exact Yield.pick_f rfl rfl | exact Yield.pick rfl (fun _ => rfl) (fun _ => rfl)) rfl ?_
  refine OG.nil ?_
  refine QG.then ?_
  refine CG.cond_f rfl ?_
  refine CG.skip ?_
  refine QG.then ?_
  refine CG.seq ?_
  refine CG.seq ?_
  refine CG.region ?_
  refine OG.yield (Yield.assign rfl) rfl ?_
  refine OG.nil ?_
  refine QG.then ?_
  refine CG.block ?_
  refine CG.loop (fun i : Nat => i ≤ ws.length) (fun i => [(5, .slice a5 ws.length c5), (6, .slice a6 ws.length c6), (9, .int .i64 i)]) (fun i => oln a5 c5 (lst ws i) :: oln5 a6 c6 ws :: T t (l.map norm) hand hits miss :: (RO r l hand hits miss ((b, o), c) ++ Fr)) (fun i => ws.length - i) 0 (Nat.zero_le _) (by repeat (first | exact Env.sub_nil _ | refine Env.sub_cons rfl ?_)) (by repeat (first | exact Imp.refl _ | exact Imp.none _ | apply Imp.pull (by repeat (first | exact Ext.here | apply Ext.there)) | apply Imp.trans Imp.drop)) ?_
  intro i hi
  have hln := lst_len ws hi
  dsimp only [RO, List.cons_append, List.nil_append]
  refine CG.seq ?_
  refine CG.seq ?_
  refine CG.region ?_
  refine OG.yield (Yield.move rfl) rfl ?_
  refine OG.yield (Yield.move rfl) rfl ?_
  refine OG.yield (Yield.len_slice Try.underlying79 rfl rfl) rfl ?_
  refine OG.yield (by first | exact Yield.as (Yield.lss rfl rfl) (bT (by omega)) | exact Yield.as (Yield.lss rfl rfl) (bF (by omega)) | exact Yield.lss rfl rfl) rfl ?_
  refine OG.nil ?_
  refine QG.then ?_
  refine CG.cond rfl (fun hc => ?_) (fun hc => ?_)
  · try replace hc := of_decide_eq_true hc
    have hi' : i < ws.length := by omega
    have hget : ws[i]? = some ws[i] := by simp [hi']
    generalize ws[i] = s at hget
    have hg2 := lst_get hget
    have hi2 : i < (lst ws i).length := by omega
    refine CG.pure (fun w hw => (SlR.of_osl (W0 := W0) (E := 123) (sz := 5) (a := a6) (c := c6) (m := ws.length) (xs := (ws.map Slot.cells).flatten) (by repeat (first | exact Ext.here | apply Ext.there))).elem_shape Slot.len (by decide) hi' w hw) ?_
    rintro ⟨b6, o6, rfl⟩
    refine CG.pure (fun w hw => (SlR.of_osl (W0 := W0) (E := 82) (sz := 4) (a := a5) (c := c5) (m := (lst ws i).length) (xs := ((lst ws i).map Slot.lcells).flatten) (by repeat (first | exact Ext.here | apply Ext.there))).elem_shape Slot.llen (by decide) hi2 w hw) ?_
    rintro ⟨b5, o5, rfl⟩
    refine CG.skip ?_
    refine QG.then ?_
    refine CG.seq ?_
    refine CG.block ?_
    refine CG.seq ?_
    refine CG.region ?_
    refine OG.yield (Yield.move rfl) rfl ?_
    refine OG.yield (Yield.move rfl) rfl ?_
    refine OG.yield (Yield.index_slice Try.underlying119 ti123 rfl rfl (by omega) (by omega)) rfl ?_
    refine OG.yield (Yield.load_agg (vs := s.cells) ti123 rfl (Slot.len s) ((SlR.of_osl (a := some ⟨b6, o6, none⟩) (by repeat (first | exact Ext.here | apply Ext.there))).elem (f := Slot.cells) Slot.len hget)) rfl ?_
    refine OG.effd (Eff.alloc ti123) rfl ?_
    rintro b10 -
    refine OG.eff (Eff.storeAll ti123 rfl rfl (by repeat (first | exact Foc.here | apply Foc.there)) (Slot.len s) (Slot.ones s) rfl) rfl ?_
    rintro ⟨⟩ -
    refine OG.nil ?_
    refine QG.then ?_
    refine CG.seq ?_
    refine CG.seq ?_
    refine CG.draw (.look 0 1 (.look 1 1 (.look 2 1 (.look 3 1 (.look 4 1 (.look 5 1 (.look 6 1 (.look 7 1 (.look 8 1 (.look 9 1 (.look 10 1 (.look 11 1 (.look 12 1 (.look 13 1 (.done))))))))))))))) [] [] ([]) ([]) mixed (by kernel_rfl) (Imp.none _) (Imp.none _) ?_
    refine DG.look rfl rfl (Yield.move rfl) rfl ?_
    refine DG.look rfl rfl (Yield.move rfl) rfl ?_
    refine DG.look rfl rfl (Yield.index_slice Try.underlying79 ti82 rfl rfl (by omega) (by omega)) rfl ?_
    refine DG.look rfl rfl (Yield.load_agg (vs := s.lcells) ti82 rfl (Slot.llen s) ((SlR.of_osl (a := some ⟨b5, o5, none⟩) (by repeat (first | exact Ext.here | apply Ext.there))).elem (f := Slot.lcells) Slot.llen hg2)) rfl ?_
    refine DG.look rfl rfl (Yield.fieldAddr fa123_1 rfl) rfl ?_
    refine DG.look rfl rfl (Yield.load (v := .int .i64 s.tag) ti3 rfl (Cel.of_blk (b := b10) (by repeat (first | exact Ext.here | apply Ext.there)) rfl)) rfl ?_
    refine DG.look rfl rfl (Yield.fieldAddr fa123_2 rfl) rfl ?_
    refine DG.look rfl rfl (Yield.load (v := .int .i64 s.page) ti3 rfl (Cel.of_blk (b := b10) (by repeat (first | exact Ext.here | apply Ext.there)) rfl)) rfl ?_
    refine DG.look rfl rfl (Yield.fieldAddr fa123_3 rfl) rfl ?_
    refine DG.look rfl rfl (Yield.load (v := .int .i64 s.frame) ti3 rfl (Cel.of_blk (b := b10) (by repeat (first | exact Ext.here | apply Ext.there)) rfl)) rfl ?_
    refine DG.look rfl rfl (Yield.fieldAddr fa123_4 rfl) rfl ?_
    refine DG.look rfl rfl (Yield.load (v := .int .i64 s.perm) ti3 rfl (Cel.of_blk (b := b10) (by repeat (first | exact Ext.here | apply Ext.there)) rfl)) rfl ?_
    refine DG.look rfl rfl (Yield.build bu82 ti82 rfl (cells := [_, _, _, _]) rfl) rfl ?_
    refine DG.look rfl rfl (Yield.agg_neq 6 (xs := s.lcells) (ys := s.lcells) rfl rfl (by decide) flat82 guard82 rfl rfl (b := false) (by simp [Slot.lcells, eqCells, cellEq])) rfl ?_
    refine DG.done ?_
    refine QG.then ?_
    refine CG.cond_f rfl ?_
    refine CG.skip ?_
    refine QG.then ?_
    refine CG.region ?_
    refine OG.yield (Yield.move rfl) rfl ?_
    refine OG.yield (Yield.move rfl) rfl ?_
    refine OG.yield (Yield.build bu82 ti82 rfl (cells := [_, _, _, _]) rfl) rfl ?_
    refine OG.yield (Yield.index_slice Try.underlying79 ti82 rfl rfl (by omega) (by omega)) rfl ?_
    refine OG.eff (Eff.storeRec (i := i) (r := nine) (rs := lst ws i) Slot.llen Slot.lones ti82 rfl rfl (by repeat (first | exact Foc.here | apply Foc.there)) rfl hi2) rfl ?_
    rintro ⟨⟩ -
    refine OG.nil ?_
    refine QG.block_normal ?_
    refine QG.then ?_
    refine CG.region ?_
    refine OG.yield (Yield.move rfl) rfl ?_
    refine OG.yield (Yield.add rfl rfl (w64 (by omega) (by omega))) rfl ?_
    refine OG.yield (Yield.assign rfl) rfl ?_
    refine OG.nil ?_
    refine QG.next (i + 1) (show i + 1 ≤ ws.length by omega) (show ws.length - (i + 1) < ws.length - i by omega) (by repeat (first | exact Env.sub_nil _ | refine Env.sub_cons rfl ?_)) ?_
    rw [← lst_step hi']
    unfold oln
    rw [List.length_set]
    exact (by repeat (first | exact Imp.refl _ | exact Imp.none _ | apply Imp.pull (by repeat (first | exact Ext.here | apply Ext.there)) | apply Imp.trans Imp.drop))
  · try replace hc := of_decide_eq_false hc
    refine CG.exit ?_
    refine QG.pass_exit ?_
    refine QG.pass_exit ?_
    refine QG.block_exit ?_
    refine QG.then ?_
    refine CG.seq ?_
    refine CG.region ?_
    refine OG.yield (Yield.assign rfl) rfl ?_
    refine OG.nil ?_
    refine QG.then ?_
    refine CG.ret ?_
    exact QG.ret1 rfl rfl () trivial rfl (Imp.trans (by repeat (first | exact Imp.refl _ | exact Imp.none _ | apply Imp.pull (by repeat (first | exact Ext.here | apply Ext.there)) | apply Imp.trans Imp.drop)) (Imp.cons (r_close ((b, o), c))))
end
end Go.Proofs.Ytjdaglakhiifjaa.Tl
