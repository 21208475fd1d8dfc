/- TlbTruth: what the table tells for a tag and page is what was put last for just these and was not flushed since: the law returns true and changes nothing that was there. -/
import Derived.Test.YtjdaglakhiifjaaTref
import Derived.Test.YtjdaglakhiifjaaTflush
namespace Go.Proofs.Ytjdaglakhiifjaa.tlbTruth
open Go Go.Sl Go.RowKit Go.Proofs Go.Proofs.Ytjdaglakhiifjaa.T Go.Proofs.Ytjdaglakhiifjaa.Tl Go.Proofs.Ytjdaglakhiifjaa.tlbFlushes
set_option linter.unusedVariables false
set_option linter.unusedSimpArgs false
set_option maxRecDepth 100000
abbrev K := Int × Int
def kc (k : K) : List Value := [.int .i64 k.1, .int .i64 k.2]
def kf (k : K) : Value := .agg (kc k).toArray
def vf (a : TAct) : Value := .agg a.cells.toArray
def zA : TAct := ⟨0, 0, 0, 0, 0⟩
theorem kc_eq (a b : K) : eqCells (kc a) (kc b) = decide (b = a) := by
  obtain ⟨a1, a2⟩ := a; obtain ⟨b1, b2⟩ := b
  simp only [kc, eqCells, cellEq, Bool.and_true]
  rw [Bool.eq_iff_iff]
  simp only [Bool.and_eq_true, beq_iff_eq, decide_eq_true_eq, Prod.mk.injEq]
  exact ⟨fun h => ⟨h.1.symm, h.2.symm⟩, fun h => ⟨h.1.symm, h.2.symm⟩⟩
theorem keyOK : KeyOK Try.prog 74 kf := by
  refine KeyOK.flat (kc := kc) (d := 6) ?_ flat74 Try.underlying74 (fun k => rfl) kc_eq ?_
  · decide
  intro f hf
  simp only [List.mem_cons, List.not_mem_nil, or_false] at hf
  rcases hf with rfl | rfl
  · exact ⟨.i64, _, _, Try.underlying3, ti3, by decide⟩
  · exact ⟨.i64, _, _, Try.underlying3, ti3, by decide⟩
/-- At most one slot is used for a page. -/
def Uniq (l : List Slot) : Prop := ∀ (i j : Nat) (s s' : Slot), l[i]? = some s → l[j]? = some s' → s.used = true → s'.used = true → s.tag = s'.tag → s.page = s'.page → i = j
/-- What the table knows the map knows. -/
structure Inv (l : List Slot) (M : List (K × TAct)) : Prop where
  un : Uniq l
  known : ∀ s ∈ l, s.used = true → ∃ a, mget M (s.tag, s.page) = some a ∧ a.Frame = s.frame ∧ a.Perm = s.perm
  nd : (M.map (·.1)).Nodup
theorem hit_iff {tag page : Int} {s : Slot} : hitB tag page s = true ↔ s.used = true ∧ s.tag = tag ∧ s.page = page := by simp [hitB]
/-- Where Put puts. -/
theorem put_at {l : List Slot} {hand : Nat} {s : Slot} (hu : Uniq l) (hh : hand < l.length) : ∃ i, i < l.length ∧ (putL l hand s).1 = l.set i s ∧ ∀ j s', l[j]? = some s' → hitB s.tag s.page s' = true → j = i := by
  rcases put_cases l s.tag s.page with ⟨i, h1, h2⟩ | ⟨h1, i, h2, h3⟩ | ⟨h1, h2⟩
  · refine ⟨i, h2, by simp [putL, h1], fun j s' hj hs => ?_⟩
    obtain ⟨_, h4, _⟩ := List.findIdx?_eq_some_iff_getElem.1 h1
    have a := hit_iff.1 h4
    have b := hit_iff.1 hs
    exact hu j i s' l[i] hj (by simp [h2]) b.1 a.1 (by rw [a.2.1, b.2.1]) (by rw [a.2.2, b.2.2])
  · refine ⟨i, h3, by simp [putL, h1, h2], fun j s' hj hs => ?_⟩
    have := List.findIdx?_eq_none_iff.1 h1 s' (List.mem_of_getElem? hj)
    rw [this] at hs; cases hs
  · refine ⟨hand, hh, by simp [putL, h1, h2], fun j s' hj hs => ?_⟩
    have := List.findIdx?_eq_none_iff.1 h1 s' (List.mem_of_getElem? hj)
    rw [this] at hs; cases hs
theorem inv_put {l : List Slot} {M : List (K × TAct)} (h : Inv l M) {hand : Nat} (hh : hand < l.length) {s : Slot} (hs : s.used = true) {a : TAct} (ha : a.Frame = s.frame ∧ a.Perm = s.perm) : Inv (putL l hand s).1 (mset M (s.tag, s.page) a) := by
  obtain ⟨i, hi, e, hall⟩ := put_at (hand := hand) (s := s) h.un hh
  have hkey : ∀ j s', l[j]? = some s' → j ≠ i → s'.used = true → (s.tag, s.page) ≠ (s'.tag, s'.page) := fun j s' hj hne hu q => by
    simp only [Prod.mk.injEq] at q
    exact hne (hall j s' hj (hit_iff.2 ⟨hu, q.1.symm, q.2.symm⟩))
  rw [e]
  refine ⟨fun j k s1 s2 h1 h2 u1 u2 t p => ?_, fun s' hm hu => ?_, mset_nodup h.nd _ _⟩
  · rw [List.getElem?_set] at h1 h2
    by_cases hj : i = j <;> by_cases hk : i = k
    · omega
    · subst hj; rw [if_pos rfl, if_pos hi] at h1; rw [if_neg hk] at h2; cases h1
      exact absurd (by rw [t, p]) (hkey k s2 h2 (fun q => hk q.symm) u2)
    · subst hk; rw [if_pos rfl, if_pos hi] at h2; rw [if_neg hj] at h1; cases h2
      exact absurd (by rw [t, p]) (hkey j s1 h1 (fun q => hj q.symm) u1)
    · rw [if_neg hj] at h1; rw [if_neg hk] at h2; exact h.un j k s1 s2 h1 h2 u1 u2 t p
  · obtain ⟨j, hj⟩ := List.getElem?_of_mem hm
    rw [List.getElem?_set] at hj
    by_cases hij : i = j
    · subst hij; rw [if_pos rfl, if_pos hi] at hj; cases hj
      exact ⟨a, by rw [mget_mset, if_pos rfl], ha⟩
    · rw [if_neg hij] at hj
      obtain ⟨b, h1, h2⟩ := h.known s' (List.mem_of_getElem? hj) hu
      exact ⟨b, by rw [mget_mset, if_neg (hkey j s' hj (fun q => hij q.symm) hu)]; exact h1, h2⟩
theorem put_found {l : List Slot} {M : List (K × TAct)} (h : Inv l M) {hand : Nat} (hh : hand < l.length) {s : Slot} (hs : s.used = true) : ∃ i, (putL l hand s).1.findIdx? (hitB s.tag s.page) = some i ∧ (putL l hand s).1[i]? = some s := by
  obtain ⟨i, hi, e, hall⟩ := put_at (hand := hand) (s := s) h.un hh
  refine ⟨i, ?_, by rw [e]; simp [hi]⟩
  rw [e, List.findIdx?_eq_some_iff_getElem]
  refine ⟨by simp [hi], by simp [hit_iff, hs], fun j hj => ?_⟩
  rw [List.getElem_set_ne (by omega)]
  intro q
  exact absurd (hall j _ (by simp) q) (by omega)
theorem inv_flush {l : List Slot} {M : List (K × TAct)} (h : Inv l M) (tag : Int) : Inv (flushL l tag) M := by
  refine ⟨fun i j s s' h1 h2 u1 u2 t p => ?_, fun s hm hu => ?_, h.nd⟩
  · unfold flushL at h1 h2
    rw [List.getElem?_map] at h1 h2
    cases q1 : l[i]? with
    | none => rw [q1] at h1; cases h1
    | some a => cases q2 : l[j]? with
      | none => rw [q2] at h2; cases h2
      | some b =>
        rw [q1] at h1; rw [q2] at h2
        simp only [Option.map_some, Option.some.injEq] at h1 h2
        split at h1
        · subst h1; cases u1
        · split at h2
          · subst h2; cases u2
          · subst h1 h2; exact h.un i j a b q1 q2 u1 u2 t p
  · unfold flushL at hm
    rw [List.mem_map] at hm
    obtain ⟨a, ha, q⟩ := hm
    split at q
    · subst q; cases hu
    · subst q; exact h.known a ha hu
theorem flush_no {l : List Slot} {tag : Int} : ∀ s ∈ flushL l tag, s.used = true → s.tag ≠ tag := by
  intro s hm hu
  unfold flushL at hm
  rw [List.mem_map] at hm
  obtain ⟨a, ha, q⟩ := hm
  split at q
  · subst q; cases hu
  · subst q; assumption
theorem inv_del {l : List Slot} {M : List (K × TAct)} (h : Inv l M) (k : K) (hk : ∀ s ∈ l, s.used = true → k ≠ (s.tag, s.page)) : Inv l (mdel M k) :=
  ⟨h.un, fun s hm hu => by
    obtain ⟨a, h1, h2⟩ := h.known s hm hu
    exact ⟨a, by rw [mget_mdel h.nd, if_neg (hk s hm hu)]; exact h1, h2⟩, mdel_nodup h.nd _⟩
theorem inv_flushP {l : List Slot} {M : List (K × TAct)} (h : Inv l M) (tag page : Int) : Inv (flushPL l tag page) (mdel M (tag, page)) := by
  have key : ∀ (s : Slot), (tag, page) = (s.tag, s.page) → s.used = true → hitB tag page s = true := fun s q u => by
    simp only [Prod.mk.injEq] at q; exact hit_iff.2 ⟨u, q.1.symm, q.2.symm⟩
  unfold flushPL
  cases hf : l.findIdx? (hitB tag page) with
  | none =>
    refine inv_del h _ fun s hm hu q => ?_
    have := List.findIdx?_eq_none_iff.1 hf s hm
    rw [key s q hu] at this; cases this
  | some i =>
    obtain ⟨hi, h4, _⟩ := List.findIdx?_eq_some_iff_getElem.1 hf
    have a := hit_iff.1 h4
    have h' : Inv (l.set i Slot.zero) M := by
      refine ⟨fun j k s1 s2 h1 h2 u1 u2 t p => ?_, fun s' hm hu => ?_, h.nd⟩
      · rw [List.getElem?_set] at h1 h2
        by_cases hj : i = j
        · rw [if_pos hj, if_pos hi] at h1; cases h1; cases u1
        · by_cases hk : i = k
          · rw [if_pos hk, if_pos hi] at h2; cases h2; cases u2
          · rw [if_neg hj] at h1; rw [if_neg hk] at h2; exact h.un j k s1 s2 h1 h2 u1 u2 t p
      · rcases List.mem_or_eq_of_mem_set hm with hm | rfl
        · exact h.known s' hm hu
        · cases hu
    refine inv_del h' _ fun s hm hu q => ?_
    obtain ⟨j, hj⟩ := List.getElem?_of_mem hm
    rw [List.getElem?_set] at hj
    by_cases hij : i = j
    · rw [if_pos hij, if_pos hi] at hj; cases hj; cases hu
    · rw [if_neg hij] at hj
      simp only [Prod.mk.injEq] at q
      exact hij (h.un i j l[i] s (by simp [hi]) hj a.1 hu (by rw [a.2.1, q.1]) (by rw [a.2.2, q.2]))
theorem inv_zero (n : Nat) : Inv (List.replicate n Slot.zero) [] := by
  refine ⟨fun i j s s' h1 h2 u1 u2 t p => ?_, fun s hm hu => ?_, by simp⟩
  · have := List.eq_of_mem_replicate (List.mem_of_getElem? h1); subst this; cases u1
  · have := List.eq_of_mem_replicate hm; subst this; cases hu
theorem flushP_len (l : List Slot) (tag page : Int) : (flushPL l tag page).length = l.length := by unfold flushPL; split <;> simp
structure St where
  i : Nat
  l : List Slot
  hand : Nat
  hits : Nat
  miss : Nat
  r : Nat
  M : List (K × TAct)
def St.env (a1 : Option Addr) (m c1 t : Nat) (s : St) : Env := [(1, .slice a1 m c1), (5, .pointer (some ⟨t, 0, none⟩)), (7, .map (some s.r)), (8, .int .i64 s.i)]
abbrev St.G (W : World) (t : Nat) (s : St) : List HProp := [T t s.l s.hand s.hits s.miss, hmap kf vf s.r s.M, old W]
structure St.OK (n m : Nat) (s : St) : Prop where
  hl : s.l.length = n
  hh : s.hand < n
  hits : s.hits ≤ s.i * 1000
  miss : s.miss ≤ s.i * 1000
  im : s.i ≤ m
  inv : Inv s.l s.M
set_option maxHeartbeats 4000000 in
theorem walk (W : World) {n0 : Int} {a1 : Option Addr} {c1 : Nat} {ops : List TAct} (hops : SlAt W 5 a1 ops.length ((ops.map TAct.cells).flatten)) :
    Ctr Try.prog W 9 [.int .i64 n0, .slice a1 ops.length c1] [old W] (fun _ : Unit => True) (fun _ => .bool true) (fun _ => [old W]) := by
  have hw := wrap_u64_range n0
  refine Ctr.of_body Try.func9 rfl Try.ntmps9 rfl ?_
  refine CG.seq ?_
  refine CG.region ?_
  refine OG.yield (Yield.assign rfl) rfl ?_
  refine OG.nil ?_
  refine QG.then ?_
  refine CG.seq ?_
  refine CG.seq ?_
  refine CG.region ?_
  refine OG.callo call13 rfl (Imp.refl _) (works_spec W _) rfl ?_
  rintro ⟨⟩ -
  refine OG.yield (Yield.not rfl) rfl ?_
  refine OG.nil ?_
  refine QG.then ?_
  refine CG.cond_f rfl ?_
  refine CG.skip ?_
  refine QG.then ?_
  refine CG.seq ?_
  refine CG.seq ?_
  rcases (show ops.length ≤ 500 ∨ 500 < ops.length by omega) with hp | hp
  · skip
    refine CG.region ?_
    refine OG.yield (Yield.move rfl) rfl ?_
    refine OG.yield (Yield.len_slice Try.underlying69 rfl rfl) rfl ?_
    refine OG.yield (by first | exact Yield.as (Yield.gtr rfl rfl) (bT (by omega)) | exact Yield.as (Yield.gtr rfl rfl) (bF (by omega)) | exact Yield.gtr rfl rfl) rfl ?_
    refine OG.nil ?_
    refine QG.then ?_
    refine CG.cond_f rfl ?_
    refine CG.skip ?_
    refine QG.then ?_
    refine CG.seq ?_
    refine CG.region ?_
    refine OG.yield (Yield.move rfl) rfl ?_
    refine OG.yield (Yield.conv Try.underlying24 rfl rfl rfl) rfl ?_
    generalize IntKind.u64.wrap n0 = wr at hw ⊢
    refine OG.yield (Yield.rem rfl rfl (by omega) (tmod_pos (by omega) (by omega))) rfl ?_
    refine OG.yield (Yield.conv (c := wr % 64) Try.underlying3 rfl rfl (w64 (by omega) (by omega))) rfl ?_
    refine OG.yield (Yield.add rfl rfl (w64 (by omega) (by omega))) rfl ?_
    obtain ⟨n, hn⟩ : ∃ n : Nat, 1 + wr % 64 = (n : Int) := ⟨(1 + wr % 64).toNat, by omega⟩
    rw [hn]
    have hn1 : 1 ≤ n ∧ n ≤ 64 := by omega
    refine OG.callo call14 rfl ((by repeat (first | exact Imp.refl _ | exact Imp.none _ | apply Imp.pull (by repeat (first | exact Ext.here | apply Ext.there)) | apply Imp.trans Imp.drop))) (new_spec W _ hn1.1 (by omega)) rfl ?_
    rintro t -
    refine OG.yield (Yield.move rfl) rfl ?_
    refine OG.yield (Yield.extract rfl rfl) rfl ?_
    refine OG.yield (Yield.extract rfl rfl) rfl ?_
    refine OG.yield (Yield.assign rfl) rfl ?_
    refine OG.yield (Yield.assign rfl) rfl ?_
    refine OG.nil ?_
    refine QG.then ?_
    refine CG.seq ?_
    refine CG.seq ?_
    refine CG.region ?_
    refine OG.yield (Yield.move rfl) rfl ?_
    refine OG.callo call15 rfl (Imp.refl _) (num_spec W _ _) rfl ?_
    rintro ⟨⟩ -
    refine OG.yield (by first | exact Yield.as (Yield.neq rfl rfl) (bT (by omega)) | exact Yield.as (Yield.neq rfl rfl) (bF (by omega)) | exact Yield.neq rfl rfl) rfl ?_
    refine OG.yield (Yield.move rfl) rfl ?_
    refine OG.guard_yes rfl rfl rfl (by decide) ?_
    refine OG.yield (Yield.move rfl) rfl ?_
    refine OG.guard_yes rfl rfl rfl (by decide) ?_
    refine OG.yield (by first | exact Yield.ptr_nil Try.underlying25 rfl rfl | exact Yield.nil_nil Try.underlying25 rfl rfl) rfl ?_
    refine OG.yield (by first | exact Yield.pick_t rfl rfl | exact Yield.pick_f rfl rfl | exact Yield.pick rfl (fun _ => rfl) (fun _ => rfl)) rfl ?_
    refine OG.nil ?_
    refine QG.then ?_
    refine CG.cond_f rfl ?_
    refine CG.skip ?_
    refine QG.then ?_
    refine CG.seq ?_
    refine CG.region ?_
    refine OG.effd (Eff.makeMap kf vf) rfl ?_
    rintro r41 -
    refine OG.yield (Yield.assign rfl) rfl ?_
    refine OG.nil ?_
    refine QG.then ?_
    refine CG.seq ?_
    refine CG.seq ?_
    refine CG.region ?_
    refine OG.yield (Yield.assign rfl) rfl ?_
    refine OG.nil ?_
    refine QG.then ?_
    refine CG.block ?_
    refine CG.loop (fun s : St => s.OK n ops.length) (St.env a1 ops.length c1 t) (St.G W t) (fun s => ops.length - s.i) ⟨0, List.replicate n Slot.zero, 0, 0, 0, r41, []⟩ ⟨by simp, by simp only; omega, Nat.le_refl _, Nat.le_refl _, Nat.zero_le _, inv_zero n⟩ (by repeat (first | exact Env.sub_nil _ | refine Env.sub_cons rfl ?_)) (by repeat (first | exact Imp.refl _ | exact Imp.none _ | apply Imp.pull (by repeat (first | exact Ext.here | apply Ext.there)) | apply Imp.trans Imp.drop)) ?_
    rintro ⟨i, l, hand, hits, miss, r, M⟩ ⟨hl, hh, hi1, hi2, im, inv⟩
    unfold St.env
    dsimp only at hl hh hi1 hi2 im inv ⊢
    refine CG.seq ?_
    refine CG.seq ?_
    refine CG.region ?_
    refine OG.yield (Yield.move rfl) rfl ?_
    refine OG.yield (Yield.move rfl) rfl ?_
    refine OG.yield (Yield.len_slice Try.underlying69 rfl rfl) rfl ?_
    refine OG.yield (by first | exact Yield.as (Yield.lss rfl rfl) (bT (by omega)) | exact Yield.as (Yield.lss rfl rfl) (bF (by omega)) | exact Yield.lss rfl rfl) rfl ?_
    refine OG.nil ?_
    refine QG.then ?_
    refine CG.cond rfl (fun hc => ?_) (fun hc => ?_)
    · try replace hc := of_decide_eq_true hc
      refine CG.skip ?_
      refine QG.then ?_
      refine CG.seq ?_
      refine CG.block ?_
      refine CG.seq ?_
      have h1 : i < ops.length := by omega
      have hget : ops[i]? = some ops[i] := by simp [h1]
      generalize ops[i] = op at hget
      refine CG.pure (fun w hw => (hops.old (G := St.G W t ⟨i, l, hand, hits, miss, r, M⟩) (by repeat (first | exact Ext.here | apply Ext.there))).elem_shape TAct.len (by decide) h1 w hw) ?_
      rintro ⟨b, o, rfl⟩
      have hrow : ∀ {G R : List HProp}, Ext G (old W) R → Row W G b (o + i * 5) op.cells := fun x => (hops.old x).elem TAct.len hget
      refine CG.region ?_
      refine OG.yield (Yield.move rfl) rfl ?_
      refine OG.yield (Yield.move rfl) rfl ?_
      refine OG.yield (Yield.index_slice Try.underlying69 ti72 rfl rfl (by omega) (by omega)) rfl ?_
      refine OG.yield (Yield.load_agg (vs := op.cells) ti72 rfl (TAct.len op) (hrow (by repeat (first | exact Ext.here | apply Ext.there)))) rfl ?_
      refine OG.effd (Eff.alloc ti72) rfl ?_
      rintro b9 -
      refine OG.eff (Eff.storeAll ti72 rfl rfl (by repeat (first | exact Foc.here | apply Foc.there)) (TAct.len op) (TAct.ones op) rfl) rfl ?_
      rintro ⟨⟩ -
      refine OG.nil ?_
      refine QG.then ?_
      refine CG.cut (fun s' : St => s'.i = i ∧ s'.l.length = n ∧ s'.hand < n ∧ s'.hits ≤ i * 1000 + 1 ∧ s'.miss ≤ i * 1000 + 1 ∧ Inv s'.l s'.M) (fun s' => [(1, .slice (some ⟨b, o, none⟩) ops.length c1), (5, .pointer (some ⟨t, 0, none⟩)), (7, .map (some s'.r)), (8, .int .i64 i)]) (St.G W t) ?_ ?_
      · skip
        refine CG.seq ?_
        refine CG.region ?_
        refine OG.yield (Yield.fieldAddr fa72_0 rfl) rfl ?_
        refine OG.yield (Yield.load (v := .int .i64 op.Kind) ti3 rfl (Cel.of_blk (b := b9) (by repeat (first | exact Ext.here | apply Ext.there)) rfl)) rfl ?_
        refine OG.nil ?_
        refine QG.then ?_
        refine CG.block ?_
        refine CG.seq ?_
        refine CG.region ?_
        refine OG.yield (Yield.eql rfl rfl) rfl ?_
        refine OG.yield (Yield.assign rfl) rfl ?_
        refine OG.nil ?_
        refine QG.then ?_
        refine CG.cond rfl (fun hc => ?_) (fun hc => ?_)
        · try replace hc := of_decide_eq_true hc
          refine CG.seq ?_
          refine CG.region ?_
          refine OG.yield (Yield.move rfl) rfl ?_
          refine OG.yield (Yield.fieldAddr fa72_1 rfl) rfl ?_
          refine OG.yield (Yield.load ti3 rfl (by first | exact Cel.of_blk (by repeat (first | exact Ext.here | apply Ext.there)) rfl | exact (hrow (by repeat (first | exact Ext.here | apply Ext.there))) _ _ rfl)) rfl ?_
          refine OG.yield (Yield.fieldAddr fa72_2 rfl) rfl ?_
          refine OG.yield (Yield.load ti3 rfl (by first | exact Cel.of_blk (by repeat (first | exact Ext.here | apply Ext.there)) rfl | exact (hrow (by repeat (first | exact Ext.here | apply Ext.there))) _ _ rfl)) rfl ?_
          refine OG.yield (Yield.fieldAddr fa72_3 rfl) rfl ?_
          refine OG.yield (Yield.load ti3 rfl (by first | exact Cel.of_blk (by repeat (first | exact Ext.here | apply Ext.there)) rfl | exact (hrow (by repeat (first | exact Ext.here | apply Ext.there))) _ _ rfl)) rfl ?_
          refine OG.yield (Yield.fieldAddr fa72_4 rfl) rfl ?_
          refine OG.yield (Yield.load ti3 rfl (by first | exact Cel.of_blk (by repeat (first | exact Ext.here | apply Ext.there)) rfl | exact (hrow (by repeat (first | exact Ext.here | apply Ext.there))) _ _ rfl)) rfl ?_
          refine OG.callo call16 rfl ((by repeat (first | exact Imp.refl _ | exact Imp.none _ | apply Imp.pull (by repeat (first | exact Ext.here | apply Ext.there)) | apply Imp.trans Imp.drop))) (put_spec W _ (l := l) (hand := hand) op.Tag op.Page op.Frame op.Perm (by omega) (by omega)) rfl ?_
          rintro ⟨⟩ -
          have hpl := put_len l hand ⟨true, op.Tag, op.Page, op.Frame, op.Perm⟩
          have hph := put_hand (l := l) (hand := hand) ⟨true, op.Tag, op.Page, op.Frame, op.Perm⟩ (by omega)
          have hpi := inv_put inv (hand := hand) (by omega) (s := ⟨true, op.Tag, op.Page, op.Frame, op.Perm⟩) rfl (a := op) ⟨rfl, rfl⟩
          obtain ⟨jf, hjf, hjs⟩ := put_found inv (hand := hand) (by omega) (s := ⟨true, op.Tag, op.Page, op.Frame, op.Perm⟩) rfl
          generalize putL l hand ⟨true, op.Tag, op.Page, op.Frame, op.Perm⟩ = q at hpl hph hpi hjf hjs ⊢
          refine OG.nil ?_
          refine QG.then ?_
          refine CG.seq ?_
          refine CG.region ?_
          refine OG.yield (Yield.move rfl) rfl ?_
          refine OG.yield (Yield.fieldAddr fa72_1 rfl) rfl ?_
          refine OG.yield (Yield.load ti3 rfl (by first | exact Cel.of_blk (by repeat (first | exact Ext.here | apply Ext.there)) rfl | exact (hrow (by repeat (first | exact Ext.here | apply Ext.there))) _ _ rfl)) rfl ?_
          refine OG.yield (Yield.fieldAddr fa72_2 rfl) rfl ?_
          refine OG.yield (Yield.load ti3 rfl (by first | exact Cel.of_blk (by repeat (first | exact Ext.here | apply Ext.there)) rfl | exact (hrow (by repeat (first | exact Ext.here | apply Ext.there))) _ _ rfl)) rfl ?_
          refine OG.yield (Yield.build bu74 ti74 rfl (cells := [_, _]) rfl) rfl ?_
          refine OG.yield (Yield.load_agg (vs := op.cells) ti72 rfl (TAct.len op) (Row.of_blk (b := b9) (by repeat (first | exact Ext.here | apply Ext.there)) rfl)) rfl ?_
          refine OG.eff (Eff.mapUpdate kf vf Try.underlying70 keyOK (op.Tag, op.Page) op rfl rfl rfl (by repeat (first | exact Foc.here | apply Foc.there))) rfl ?_
          rintro ⟨⟩ -
          refine OG.nil ?_
          refine QG.then ?_
          refine CG.seq ?_
          refine CG.region ?_
          refine OG.yield (Yield.move rfl) rfl ?_
          refine OG.yield (Yield.fieldAddr fa72_1 rfl) rfl ?_
          refine OG.yield (Yield.load ti3 rfl (by first | exact Cel.of_blk (by repeat (first | exact Ext.here | apply Ext.there)) rfl | exact (hrow (by repeat (first | exact Ext.here | apply Ext.there))) _ _ rfl)) rfl ?_
          refine OG.yield (Yield.fieldAddr fa72_2 rfl) rfl ?_
          refine OG.yield (Yield.load ti3 rfl (by first | exact Cel.of_blk (by repeat (first | exact Ext.here | apply Ext.there)) rfl | exact (hrow (by repeat (first | exact Ext.here | apply Ext.there))) _ _ rfl)) rfl ?_
          refine OG.callo call17 rfl ((by repeat (first | exact Imp.refl _ | exact Imp.none _ | apply Imp.pull (by repeat (first | exact Ext.here | apply Ext.there)) | apply Imp.trans Imp.drop))) (look_hit W _ (hits := hits) (miss := miss) op.Tag op.Page (by omega) (by omega) hjf hjs) rfl ?_
          rintro ⟨⟩ -
          dsimp only
          refine OG.yield (Yield.move rfl) rfl ?_
          refine OG.yield (Yield.extract rfl rfl) rfl ?_
          refine OG.yield (Yield.extract rfl rfl) rfl ?_
          refine OG.yield (Yield.extract rfl rfl) rfl ?_
          refine OG.yield (Yield.assign rfl) rfl ?_
          refine OG.yield (Yield.assign rfl) rfl ?_
          refine OG.yield (Yield.assign rfl) rfl ?_
          refine OG.nil ?_
          refine QG.then ?_
          refine CG.seq ?_
          refine CG.region ?_
          refine OG.yield (Yield.move rfl) rfl ?_
          refine OG.yield (Yield.not rfl) rfl ?_
          refine OG.yield (Yield.move rfl) rfl ?_
          refine OG.guard_yes rfl rfl rfl (by decide) ?_
          refine OG.yield (Yield.move rfl) rfl ?_
          refine OG.guard_yes rfl rfl rfl (by decide) ?_
          refine OG.yield (Yield.fieldAddr fa72_3 rfl) rfl ?_
          refine OG.guard_yes rfl rfl rfl (by decide) ?_
          refine OG.yield (Yield.load ti3 rfl (by first | exact Cel.of_blk (by repeat (first | exact Ext.here | apply Ext.there)) rfl | exact (hrow (by repeat (first | exact Ext.here | apply Ext.there))) _ _ rfl)) rfl ?_
          refine OG.guard_yes rfl rfl rfl (by decide) ?_
          refine OG.yield (by first | exact Yield.as (Yield.neq rfl rfl) (bT (by omega)) | exact Yield.as (Yield.neq rfl rfl) (bF (by omega)) | exact Yield.neq rfl rfl) rfl ?_
          refine OG.yield (by first | exact Yield.pick_t rfl rfl | exact Yield.pick_f rfl rfl | exact Yield.pick rfl (fun _ => rfl) (fun _ => rfl)) rfl ?_
          refine OG.yield (Yield.move rfl) rfl ?_
          refine OG.guard_yes rfl rfl rfl (by decide) ?_
          refine OG.yield (Yield.move rfl) rfl ?_
          refine OG.guard_yes rfl rfl rfl (by decide) ?_
          refine OG.yield (Yield.fieldAddr fa72_4 rfl) rfl ?_
          refine OG.guard_yes rfl rfl rfl (by decide) ?_
          refine OG.yield (Yield.load ti3 rfl (by first | exact Cel.of_blk (by repeat (first | exact Ext.here | apply Ext.there)) rfl | exact (hrow (by repeat (first | exact Ext.here | apply Ext.there))) _ _ rfl)) rfl ?_
          refine OG.guard_yes rfl rfl rfl (by decide) ?_
          refine OG.yield (by first | exact Yield.as (Yield.neq rfl rfl) (bT (by omega)) | exact Yield.as (Yield.neq rfl rfl) (bF (by omega)) | exact Yield.neq rfl rfl) rfl ?_
          refine OG.yield (by first | exact Yield.pick_t rfl rfl | exact Yield.pick_f rfl rfl | exact Yield.pick rfl (fun _ => rfl) (fun _ => rfl)) rfl ?_
          refine OG.nil ?_
          refine QG.then ?_
          refine CG.cond_f rfl ?_
          refine CG.skip ?_
          refine QG.block_normal ?_
          exact QG.mid ⟨i, q.1, q.2, hits + 1, miss, r, mset M (op.Tag, op.Page) op⟩ ⟨rfl, by simp only; omega, by simp only; omega, by simp only; omega, by simp only; omega, hpi⟩ (by repeat (first | exact Env.sub_nil _ | refine Env.sub_cons rfl ?_)) (by repeat (first | exact Imp.refl _ | exact Imp.none _ | apply Imp.pull (by repeat (first | exact Ext.here | apply Ext.there)) | apply Imp.trans Imp.drop))
        · try replace hc := of_decide_eq_false hc
          refine CG.seq ?_
          refine CG.region ?_
          refine OG.yield (Yield.eql rfl rfl) rfl ?_
          refine OG.yield (Yield.assign rfl) rfl ?_
          refine OG.nil ?_
          refine QG.then ?_
          refine CG.cond rfl (fun hc => ?_) (fun hc => ?_)
          · try replace hc := of_decide_eq_true hc
            refine CG.seq ?_
            refine CG.region ?_
            refine OG.yield (Yield.move rfl) rfl ?_
            refine OG.yield (Yield.fieldAddr fa72_1 rfl) rfl ?_
            refine OG.yield (Yield.load ti3 rfl (by first | exact Cel.of_blk (by repeat (first | exact Ext.here | apply Ext.there)) rfl | exact (hrow (by repeat (first | exact Ext.here | apply Ext.there))) _ _ rfl)) rfl ?_
            refine OG.callo call40 rfl ((by repeat (first | exact Imp.refl _ | exact Imp.none _ | apply Imp.pull (by repeat (first | exact Ext.here | apply Ext.there)) | apply Imp.trans Imp.drop))) (flushTag_spec W _ (l := l) op.Tag (by omega)) rfl ?_
            rintro ⟨⟩ -
            refine OG.nil ?_
            refine QG.then ?_
            have hfl : (flushL l op.Tag).length = n := by simp [flushL]; omega
            have hfi := inv_flush inv op.Tag
            have hfn := flush_no (l := l) (tag := op.Tag)
            generalize flushL l op.Tag = lf at hfl hfi hfn ⊢
            refine CG.seq ?_
            refine CG.region ?_
            refine OG.yield (Yield.assign rfl) rfl ?_
            refine OG.nil ?_
            refine QG.then ?_
            refine CG.block ?_
            refine CG.loop (fun s : Nat × List (K × TAct) => s.1 ≤ i ∧ Inv lf s.2) (fun s => [(1, .slice (some ⟨b, o, none⟩) ops.length c1), (5, .pointer (some ⟨t, 0, none⟩)), (7, .map (some r)), (8, .int .i64 i), (9, .pointer (some ⟨b9, 0, none⟩)), (13, .int .i64 s.1)]) (fun s => [blk b9 op.cells 72, T t lf hand hits miss, hmap kf vf r s.2, old W]) (fun s => i - s.1) (0, M) ⟨Nat.zero_le _, hfi⟩ (by repeat (first | exact Env.sub_nil _ | refine Env.sub_cons rfl ?_)) (by repeat (first | exact Imp.refl _ | exact Imp.none _ | apply Imp.pull (by repeat (first | exact Ext.here | apply Ext.there)) | apply Imp.trans Imp.drop)) ?_
            rintro ⟨k, M⟩ ⟨hk, inv2⟩
            dsimp only at hk inv2 ⊢
            refine CG.seq ?_
            refine CG.seq ?_
            refine CG.region ?_
            refine OG.yield (Yield.move rfl) rfl ?_
            refine OG.yield (Yield.move rfl) rfl ?_
            refine OG.yield (by first | exact Yield.as (Yield.lss rfl rfl) (bT (by omega)) | exact Yield.as (Yield.lss rfl rfl) (bF (by omega)) | exact Yield.lss rfl rfl) rfl ?_
            refine OG.nil ?_
            refine QG.then ?_
            refine CG.cond rfl (fun hc => ?_) (fun hc => ?_)
            · try replace hc := of_decide_eq_true hc
              have hk1 : k < ops.length := by omega
              have hgk : ops[k]? = some ops[k] := by simp [hk1]
              generalize ops[k] = ok at hgk
              have hrow : ∀ {G R : List HProp}, Ext G (old W) R → Row W G b (o + k * 5) ok.cells := fun x => (hops.old x).elem TAct.len hgk
              refine CG.skip ?_
              refine QG.then ?_
              refine CG.seq ?_
              refine CG.block ?_
              refine CG.seq ?_
              refine CG.draw (.look 0 1 (.look 1 1 (.look 2 1 (.look 3 1 (.look 4 1 (.look 5 1 (.look 6 1 (.look 7 1 (.done))))))))) [] [] ([]) ([]) mixed (by kernel_rfl) (Imp.none _) (Imp.none _) ?_
              refine DG.look rfl rfl (Yield.move rfl) rfl ?_
              refine DG.look rfl rfl (Yield.move rfl) rfl ?_
              refine DG.look rfl rfl (Yield.index_slice Try.underlying69 ti72 rfl rfl (by omega) (by omega)) rfl ?_
              refine DG.look rfl rfl (Yield.fieldAddr fa72_1 rfl) rfl ?_
              refine DG.look rfl rfl (Yield.load ti3 rfl (by first | exact Cel.of_blk (by repeat (first | exact Ext.here | apply Ext.there)) rfl | exact (hrow (by repeat (first | exact Ext.here | apply Ext.there))) _ _ rfl)) rfl ?_
              refine DG.look rfl rfl (Yield.fieldAddr fa72_1 rfl) rfl ?_
              refine DG.look rfl rfl (Yield.load (v := .int .i64 op.Tag) ti3 rfl (Cel.of_blk (b := b9) (by repeat (first | exact Ext.here | apply Ext.there)) rfl)) rfl ?_
              refine DG.look rfl rfl (Yield.eql rfl rfl) rfl ?_
              refine DG.done ?_
              refine QG.then ?_
              refine CG.cond rfl (fun hc => ?_) (fun hc => ?_)
              · try replace hc := of_decide_eq_true hc
                refine CG.draw (.look 0 1 (.look 1 1 (.look 2 1 (.look 3 1 (.look 4 1 (.look 5 1 (.look 6 1 (.look 7 1 (.look 8 1 (.look 9 1 (.look 10 1 (.look 11 1 (.eff1 12 false (.done)))))))))))))) [12] [] ([]) ([]) mixed (by kernel_rfl) (Imp.none _) (Imp.none _) ?_
                refine DG.look rfl rfl (Yield.move rfl) rfl ?_
                refine DG.look rfl rfl (Yield.move rfl) rfl ?_
                refine DG.look rfl rfl (Yield.move rfl) rfl ?_
                refine DG.look rfl rfl (Yield.index_slice Try.underlying69 ti72 rfl rfl (by omega) (by omega)) rfl ?_
                refine DG.look rfl rfl (Yield.fieldAddr fa72_1 rfl) rfl ?_
                refine DG.look rfl rfl (Yield.load ti3 rfl (by first | exact Cel.of_blk (by repeat (first | exact Ext.here | apply Ext.there)) rfl | exact (hrow (by repeat (first | exact Ext.here | apply Ext.there))) _ _ rfl)) rfl ?_
                refine DG.look rfl rfl (Yield.move rfl) rfl ?_
                refine DG.look rfl rfl (Yield.move rfl) rfl ?_
                refine DG.look rfl rfl (Yield.index_slice Try.underlying69 ti72 rfl rfl (by omega) (by omega)) rfl ?_
                refine DG.look rfl rfl (Yield.fieldAddr fa72_2 rfl) rfl ?_
                refine DG.look rfl rfl (Yield.load ti3 rfl (by first | exact Cel.of_blk (by repeat (first | exact Ext.here | apply Ext.there)) rfl | exact (hrow (by repeat (first | exact Ext.here | apply Ext.there))) _ _ rfl)) rfl ?_
                refine DG.look rfl rfl (Yield.build bu74 ti74 rfl (cells := [_, _]) rfl) rfl ?_
                refine DG.eff1 ?_
                refine Chg.eff rfl rfl (Eff.mapDelete kf vf rfl Try.underlying70 keyOK (ok.Tag, ok.Page) rfl rfl (by repeat (first | exact Foc.here | apply Foc.there))) rfl (fun _ => (by repeat (first | exact Imp.refl _ | exact Imp.none _ | apply Imp.pull (by repeat (first | exact Ext.here | apply Ext.there)) | apply Imp.trans Imp.drop))) (fun _ => Imp.refl _) (fun _ => (by repeat (first | exact Imp.refl _ | exact Imp.none _ | apply Imp.pull (by repeat (first | exact Ext.here | apply Ext.there)) | apply Imp.trans Imp.drop))) ?_
                rintro ⟨⟩ -
                refine DG.done ?_
                refine QG.block_normal ?_
                refine QG.then ?_
                refine CG.region ?_
                refine OG.yield (Yield.move rfl) rfl ?_
                refine OG.yield (Yield.add rfl rfl (w64 (by omega) (by omega))) rfl ?_
                refine OG.yield (Yield.assign rfl) rfl ?_
                refine OG.nil ?_
                refine QG.next (k + 1, mdel M (ok.Tag, ok.Page)) ⟨by simp only; omega, inv_del inv2 _ fun s hm hu q => ?_⟩ (by simp only; omega) (by repeat (first | exact Env.sub_nil _ | refine Env.sub_cons rfl ?_)) (by repeat (first | exact Imp.refl _ | exact Imp.none _ | apply Imp.pull (by repeat (first | exact Ext.here | apply Ext.there)) | apply Imp.trans Imp.drop))
                simp only [Prod.mk.injEq] at q
                exact hfn s hm hu (by rw [← q.1]; exact hc)
              · try replace hc := of_decide_eq_false hc
                refine CG.skip ?_
                refine QG.block_normal ?_
                refine QG.then ?_
                refine CG.region ?_
                refine OG.yield (Yield.move rfl) rfl ?_
                refine OG.yield (Yield.add rfl rfl (w64 (by omega) (by omega))) rfl ?_
                refine OG.yield (Yield.assign rfl) rfl ?_
                refine OG.nil ?_
                exact QG.next (k + 1, M) ⟨by simp only; omega, inv2⟩ (by simp only; omega) (by repeat (first | exact Env.sub_nil _ | refine Env.sub_cons rfl ?_)) (by repeat (first | exact Imp.refl _ | exact Imp.none _ | apply Imp.pull (by repeat (first | exact Ext.here | apply Ext.there)) | apply Imp.trans Imp.drop))
            · try replace hc := of_decide_eq_false hc
              refine CG.exit ?_
              refine QG.pass_exit ?_
              refine QG.pass_exit ?_
              refine QG.block_exit ?_
              refine QG.block_normal ?_
              exact QG.mid ⟨i, lf, hand, hits, miss, r, M⟩ ⟨rfl, hfl, hh, by simp only; omega, by simp only; omega, inv2⟩ (by repeat (first | exact Env.sub_nil _ | refine Env.sub_cons rfl ?_)) (by repeat (first | exact Imp.refl _ | exact Imp.none _ | apply Imp.pull (by repeat (first | exact Ext.here | apply Ext.there)) | apply Imp.trans Imp.drop))
          · try replace hc := of_decide_eq_false hc
            refine CG.seq ?_
            refine CG.region ?_
            refine OG.yield (Yield.eql rfl rfl) rfl ?_
            refine OG.yield (Yield.assign rfl) rfl ?_
            refine OG.nil ?_
            refine QG.then ?_
            refine CG.cond rfl (fun hc => ?_) (fun hc => ?_)
            · try replace hc := of_decide_eq_true hc
              refine CG.seq ?_
              refine CG.region ?_
              refine OG.yield (Yield.move rfl) rfl ?_
              refine OG.yield (Yield.fieldAddr fa72_1 rfl) rfl ?_
              refine OG.yield (Yield.load ti3 rfl (by first | exact Cel.of_blk (by repeat (first | exact Ext.here | apply Ext.there)) rfl | exact (hrow (by repeat (first | exact Ext.here | apply Ext.there))) _ _ rfl)) rfl ?_
              refine OG.yield (Yield.fieldAddr fa72_2 rfl) rfl ?_
              refine OG.yield (Yield.load ti3 rfl (by first | exact Cel.of_blk (by repeat (first | exact Ext.here | apply Ext.there)) rfl | exact (hrow (by repeat (first | exact Ext.here | apply Ext.there))) _ _ rfl)) rfl ?_
              refine OG.callo call41 rfl ((by repeat (first | exact Imp.refl _ | exact Imp.none _ | apply Imp.pull (by repeat (first | exact Ext.here | apply Ext.there)) | apply Imp.trans Imp.drop))) (flushPage_spec W _ (l := l) op.Tag op.Page (by omega)) rfl ?_
              rintro ⟨⟩ -
              refine OG.nil ?_
              refine QG.then ?_
              refine CG.region ?_
              refine OG.yield (Yield.move rfl) rfl ?_
              refine OG.yield (Yield.fieldAddr fa72_1 rfl) rfl ?_
              refine OG.yield (Yield.load ti3 rfl (by first | exact Cel.of_blk (by repeat (first | exact Ext.here | apply Ext.there)) rfl | exact (hrow (by repeat (first | exact Ext.here | apply Ext.there))) _ _ rfl)) rfl ?_
              refine OG.yield (Yield.fieldAddr fa72_2 rfl) rfl ?_
              refine OG.yield (Yield.load ti3 rfl (by first | exact Cel.of_blk (by repeat (first | exact Ext.here | apply Ext.there)) rfl | exact (hrow (by repeat (first | exact Ext.here | apply Ext.there))) _ _ rfl)) rfl ?_
              refine OG.yield (Yield.build bu74 ti74 rfl (cells := [_, _]) rfl) rfl ?_
              refine OG.eff (Eff.mapDelete kf vf rfl Try.underlying70 keyOK (op.Tag, op.Page) rfl rfl (by repeat (first | exact Foc.here | apply Foc.there))) rfl ?_
              rintro ⟨⟩ -
              refine OG.nil ?_
              refine QG.block_normal ?_
              exact QG.mid ⟨i, flushPL l op.Tag op.Page, hand, hits, miss, r, mdel M (op.Tag, op.Page)⟩ ⟨rfl, by simp only; rw [flushP_len]; exact hl, hh, by simp only; omega, by simp only; omega, inv_flushP inv _ _⟩ (by repeat (first | exact Env.sub_nil _ | refine Env.sub_cons rfl ?_)) (by repeat (first | exact Imp.refl _ | exact Imp.none _ | apply Imp.pull (by repeat (first | exact Ext.here | apply Ext.there)) | apply Imp.trans Imp.drop))
            · try replace hc := of_decide_eq_false hc
              refine CG.seq ?_
              refine CG.region ?_
              refine OG.yield (Yield.eql rfl rfl) rfl ?_
              refine OG.yield (Yield.assign rfl) rfl ?_
              refine OG.nil ?_
              refine QG.then ?_
              refine CG.cond rfl (fun hc => ?_) (fun hc => ?_)
              · try replace hc := of_decide_eq_true hc
                refine CG.seq ?_
                refine CG.region ?_
                refine OG.yield (Yield.move rfl) rfl ?_
                refine OG.callo call42 rfl ((by repeat (first | exact Imp.refl _ | exact Imp.none _ | apply Imp.pull (by repeat (first | exact Ext.here | apply Ext.there)) | apply Imp.trans Imp.drop))) (flush_spec W _ (l := l) (by omega) (by omega)) rfl ?_
                rintro ⟨⟩ -
                refine OG.nil ?_
                refine QG.then ?_
                refine CG.region ?_
                refine OG.effd (Eff.makeMap kf vf) rfl ?_
                rintro r146 -
                refine OG.yield (Yield.assign rfl) rfl ?_
                refine OG.nil ?_
                refine QG.block_normal ?_
                exact QG.mid ⟨i, List.replicate l.length Slot.zero, 0, hits, miss, r146, []⟩ ⟨rfl, by simp only; rw [List.length_replicate]; exact hl, by simp only; omega, by simp only; omega, by simp only; omega, inv_zero _⟩ (by repeat (first | exact Env.sub_nil _ | refine Env.sub_cons rfl ?_)) (by repeat (first | exact Imp.refl _ | exact Imp.none _ | apply Imp.pull (by repeat (first | exact Ext.here | apply Ext.there)) | apply Imp.trans Imp.drop))
              · try replace hc := of_decide_eq_false hc
                refine CG.skip ?_
                refine QG.block_normal ?_
                exact QG.mid ⟨i, l, hand, hits, miss, r, M⟩ ⟨rfl, hl, hh, by simp only; omega, by simp only; omega, inv⟩ (by repeat (first | exact Env.sub_nil _ | refine Env.sub_cons rfl ?_)) (by repeat (first | exact Imp.refl _ | exact Imp.none _ | apply Imp.pull (by repeat (first | exact Ext.here | apply Ext.there)) | apply Imp.trans Imp.drop))
      clear hl hh hi1 hi2 im inv hrow
      rintro ⟨i', l, hand, hits, miss, r, M⟩ ⟨hi', hl, hh, hi1, hi2, inv⟩
      dsimp only at hl hh hi1 hi2 hi' inv
      subst hi'
      dsimp only
      refine CG.seq ?_
      refine CG.region ?_
      refine OG.yield (Yield.assign rfl) rfl ?_
      refine OG.nil ?_
      refine QG.then ?_
      refine CG.block ?_
      refine CG.loop (fun s : Nat × Nat × Nat => s.1 ≤ i' + 1 ∧ s.2.1 ≤ i' * 1000 + 1 + s.1 ∧ s.2.2 ≤ i' * 1000 + 1 + s.1) (fun s => [(1, .slice (some ⟨b, o, none⟩) ops.length c1), (5, .pointer (some ⟨t, 0, none⟩)), (7, .map (some r)), (8, .int .i64 i'), (14, .int .i64 s.1)]) (fun s => [T t l hand s.2.1 s.2.2, hmap kf vf r M, old W]) (fun s => i' + 1 - s.1) (0, hits, miss) ⟨Nat.zero_le _, by simp only; omega, by simp only; omega⟩ (by repeat (first | exact Env.sub_nil _ | refine Env.sub_cons rfl ?_)) (by repeat (first | exact Imp.refl _ | exact Imp.none _ | apply Imp.pull (by repeat (first | exact Ext.here | apply Ext.there)) | apply Imp.trans Imp.drop)) ?_
      rintro ⟨k, hits, miss⟩ ⟨hk, hb1, hb2⟩
      dsimp only at hk hb1 hb2 ⊢
      refine CG.seq ?_
      refine CG.seq ?_
      refine CG.region ?_
      refine OG.yield (Yield.move rfl) rfl ?_
      refine OG.yield (Yield.move rfl) rfl ?_
      refine OG.yield (by first | exact Yield.as (Yield.leq rfl rfl) (bT (by omega)) | exact Yield.as (Yield.leq rfl rfl) (bF (by omega)) | exact Yield.leq rfl rfl) rfl ?_
      refine OG.nil ?_
      refine QG.then ?_
      refine CG.cond rfl (fun hc => ?_) (fun hc => ?_)
      · try replace hc := of_decide_eq_true hc
        have hk1 : k < ops.length := by omega
        have hgk : ops[k]? = some ops[k] := by simp [hk1]
        generalize ops[k] = ok at hgk
        have hrow : ∀ {G R : List HProp}, Ext G (old W) R → Row W G b (o + k * 5) ok.cells := fun x => (hops.old x).elem TAct.len hgk
        refine CG.skip ?_
        refine QG.then ?_
        refine CG.seq ?_
        refine CG.block ?_
        refine CG.seq ?_
        rcases find_cases l ok.Tag ok.Page with hx | hf
        · skip
          obtain ⟨j, s, hf, hs, hu⟩ := hx
          have hkn : ∃ a, mget M (ok.Tag, ok.Page) = some a ∧ a.Frame = s.frame ∧ a.Perm = s.perm := by
            obtain ⟨h1, h2, _⟩ := List.findIdx?_eq_some_iff_getElem.1 hf
            have hsj : l[j] = s := by have := hs; rw [List.getElem?_eq_getElem h1] at this; exact Option.some.inj this
            rw [hsj] at h2
            have a := hit_iff.1 h2
            rw [← a.2.1, ← a.2.2]
            exact inv.known s (List.mem_of_getElem? hs) hu
          obtain ⟨wa, hwa, hwf, hwp⟩ := hkn
          refine CG.draw (.look 0 1 (.look 1 1 (.look 2 1 (.look 3 1 (.look 4 1 (.look 5 1 (.look 6 1 (.look 7 1 (.look 8 1 (.look 9 1 (.look 10 1 (.eff1 11 false (.look 12 1 (.look 13 1 (.look 14 1 (.look 15 1 (.look 16 1 (.look 17 1 (.look 18 1 (.done)))))))))))))))))))) [11] [] ([]) ([]) mixed (by kernel_rfl) (Imp.none _) (Imp.none _) ?_
          refine DG.look rfl rfl (Yield.move rfl) rfl ?_
          refine DG.look rfl rfl (Yield.move rfl) rfl ?_
          refine DG.look rfl rfl (Yield.move rfl) rfl ?_
          refine DG.look rfl rfl (Yield.index_slice Try.underlying69 ti72 rfl rfl (by omega) (by omega)) rfl ?_
          refine DG.look rfl rfl (Yield.fieldAddr fa72_1 rfl) rfl ?_
          refine DG.look rfl rfl (Yield.load ti3 rfl (by first | exact Cel.of_blk (by repeat (first | exact Ext.here | apply Ext.there)) rfl | exact (hrow (by repeat (first | exact Ext.here | apply Ext.there))) _ _ rfl)) rfl ?_
          refine DG.look rfl rfl (Yield.move rfl) rfl ?_
          refine DG.look rfl rfl (Yield.move rfl) rfl ?_
          refine DG.look rfl rfl (Yield.index_slice Try.underlying69 ti72 rfl rfl (by omega) (by omega)) rfl ?_
          refine DG.look rfl rfl (Yield.fieldAddr fa72_2 rfl) rfl ?_
          refine DG.look rfl rfl (Yield.load ti3 rfl (by first | exact Cel.of_blk (by repeat (first | exact Ext.here | apply Ext.there)) rfl | exact (hrow (by repeat (first | exact Ext.here | apply Ext.there))) _ _ rfl)) rfl ?_
          refine DG.eff1 ?_
          refine Chg.callo rfl rfl call17 rfl ((by repeat (first | exact Imp.refl _ | exact Imp.none _ | apply Imp.pull (by repeat (first | exact Ext.here | apply Ext.there)) | apply Imp.trans Imp.drop))) (look_hit W _ (hits := hits) (miss := miss) ok.Tag ok.Page (by omega) (by omega) hf hs) rfl (fun _ => (by repeat (first | exact Imp.refl _ | exact Imp.none _ | apply Imp.pull (by repeat (first | exact Ext.here | apply Ext.there)) | apply Imp.trans Imp.drop))) (fun _ => Imp.refl _) (fun _ => (by repeat (first | exact Imp.refl _ | exact Imp.none _ | apply Imp.pull (by repeat (first | exact Ext.here | apply Ext.there)) | apply Imp.trans Imp.drop))) ?_
          rintro ⟨⟩ -
          refine DG.look rfl rfl (Yield.move rfl) rfl ?_
          refine DG.look rfl rfl (Yield.extract rfl rfl) rfl ?_
          refine DG.look rfl rfl (Yield.extract rfl rfl) rfl ?_
          refine DG.look rfl rfl (Yield.extract rfl rfl) rfl ?_
          refine DG.look rfl rfl (Yield.assign rfl) rfl ?_
          refine DG.look rfl rfl (Yield.assign rfl) rfl ?_
          refine DG.look rfl rfl (Yield.assign rfl) rfl ?_
          refine DG.done ?_
          refine QG.then ?_
          refine CG.seq ?_
          refine CG.draw (.look 0 0 (.look 1 0 (.look 2 0 (.look 3 0 (.look 4 0 (.look 5 0 (.look 6 0 (.look 7 0 (.look 8 0 (.look 9 0 (.look 10 0 (.look 11 0 (.look 12 0 (.look 13 0 (.look 14 0 (.look 15 0 (.eff1 16 false (.eff1 17 false (.look 18 1 (.done)))))))))))))))))))) [16, 17] [] ([hmap kf vf r M, old W]) ([]) mixed (by kernel_rfl) ((by repeat (first | exact Imp.refl _ | exact Imp.none _ | apply Imp.pull (by repeat (first | exact Ext.here | apply Ext.there)) | apply Imp.trans Imp.drop))) (Imp.none _) ?_
          refine DG.look rfl rfl (Yield.move rfl) rfl ?_
          refine DG.look rfl rfl (Yield.move rfl) rfl ?_
          refine DG.look rfl rfl (Yield.move rfl) rfl ?_
          refine DG.look rfl rfl (Yield.index_slice Try.underlying69 ti72 rfl rfl (by omega) (by omega)) rfl ?_
          refine DG.look rfl rfl (Yield.fieldAddr fa72_1 rfl) rfl ?_
          refine DG.look rfl rfl (Yield.load (v := .int .i64 ok.Tag) ti3 rfl ((hrow (G := [hmap kf vf r M, old W]) (Ext.there Ext.here)) 1 _ rfl)) rfl ?_
          refine DG.look rfl rfl (Yield.move rfl) rfl ?_
          refine DG.look rfl rfl (Yield.move rfl) rfl ?_
          refine DG.look rfl rfl (Yield.index_slice Try.underlying69 ti72 rfl rfl (by omega) (by omega)) rfl ?_
          refine DG.look rfl rfl (Yield.fieldAddr fa72_2 rfl) rfl ?_
          refine DG.look rfl rfl (Yield.load (v := .int .i64 ok.Page) ti3 rfl ((hrow (G := [hmap kf vf r M, old W]) (Ext.there Ext.here)) 2 _ rfl)) rfl ?_
          refine DG.look rfl rfl (Yield.build bu74 ti74 rfl (cells := [_, _]) rfl) rfl ?_
          refine DG.look rfl rfl (Yield.as (Yield.lookup kf vf (l := M) Try.underlying70 ti72 keyOK (ok.Tag, ok.Page) rfl rfl Ext.here) (v' := .tuple #[.agg ((mget M (ok.Tag, ok.Page)).getD zA).cells.toArray, .bool (mget M (ok.Tag, ok.Page)).isSome]) (by cases mget M (ok.Tag, ok.Page) <;> rfl)) rfl ?_
          refine DG.look rfl rfl (Yield.move rfl) rfl ?_
          refine DG.look rfl rfl (Yield.extract rfl rfl) rfl ?_
          refine DG.look rfl rfl (Yield.extract rfl rfl) rfl ?_
          refine DG.eff1 ?_
          refine Chg.eff rfl rfl (Eff.alloc ti72) rfl (fun _ => (by repeat (first | exact Imp.refl _ | exact Imp.none _ | apply Imp.pull (by repeat (first | exact Ext.here | apply Ext.there)) | apply Imp.trans Imp.drop))) (fun _ => Imp.refl _) (fun _ => (by repeat (first | exact Imp.refl _ | exact Imp.none _ | apply Imp.pull (by repeat (first | exact Ext.here | apply Ext.there)) | apply Imp.trans Imp.drop))) ?_
          rintro b18 -
          refine DG.eff1 ?_
          refine Chg.eff rfl rfl (Eff.storeAll ti72 rfl rfl (by repeat (first | exact Foc.here | apply Foc.there)) (TAct.len _) (TAct.ones _) rfl) rfl (fun _ => (by repeat (first | exact Imp.refl _ | exact Imp.none _ | apply Imp.pull (by repeat (first | exact Ext.here | apply Ext.there)) | apply Imp.trans Imp.drop))) (fun _ => Imp.refl _) (fun _ => (by repeat (first | exact Imp.refl _ | exact Imp.none _ | apply Imp.pull (by repeat (first | exact Ext.here | apply Ext.there)) | apply Imp.trans Imp.drop))) ?_
          rintro ⟨⟩ -
          refine DG.look rfl rfl (Yield.assign rfl) rfl ?_
          refine DG.done ?_
          refine QG.then ?_
          refine CG.seq ?_
          rw [hwa, Option.getD_some, Option.isSome_some]
          refine CG.region ?_
          refine OG.yield (Yield.move rfl) rfl ?_
          refine OG.yield (Yield.move rfl) rfl ?_
          refine OG.guard_yes rfl rfl rfl (by decide) ?_
          refine OG.yield (Yield.move rfl) rfl ?_
          refine OG.guard_yes rfl rfl rfl (by decide) ?_
          refine OG.yield (Yield.not rfl) rfl ?_
          refine OG.guard_yes rfl rfl rfl (by decide) ?_
          refine OG.yield (Yield.move rfl) rfl ?_
          refine OG.guard_yes rfl rfl rfl (by decide) ?_
          refine OG.yield (Yield.fieldAddr fa72_3 rfl) rfl ?_
          refine OG.guard_yes rfl rfl rfl (by decide) ?_
          refine OG.yield (Yield.load (v := .int .i64 wa.Frame) ti3 rfl (Cel.of_blk (b := b18) (by repeat (first | exact Ext.here | apply Ext.there)) rfl)) rfl ?_
          refine OG.guard_yes rfl rfl rfl (by decide) ?_
          refine OG.yield (Yield.move rfl) rfl ?_
          refine OG.guard_yes rfl rfl rfl (by decide) ?_
          refine OG.yield (by first | exact Yield.as (Yield.neq rfl rfl) (bT (by omega)) | exact Yield.as (Yield.neq rfl rfl) (bF (by omega)) | exact Yield.neq rfl rfl) rfl ?_
          refine OG.guard_yes rfl rfl rfl (by decide) ?_
          refine OG.yield (by first | exact Yield.pick_t rfl rfl | exact Yield.pick_f rfl rfl | exact Yield.pick rfl (fun _ => rfl) (fun _ => rfl)) rfl ?_
          refine OG.guard_yes rfl rfl rfl (by decide) ?_
          refine OG.yield (Yield.move rfl) rfl ?_
          refine OG.guard_yes rfl rfl rfl (by decide) ?_
          refine OG.yield (Yield.fieldAddr fa72_4 rfl) rfl ?_
          refine OG.guard_yes rfl rfl rfl (by decide) ?_
          refine OG.yield (Yield.load (v := .int .i64 wa.Perm) ti3 rfl (Cel.of_blk (b := b18) (by repeat (first | exact Ext.here | apply Ext.there)) rfl)) rfl ?_
          refine OG.guard_yes rfl rfl rfl (by decide) ?_
          refine OG.yield (Yield.move rfl) rfl ?_
          refine OG.guard_yes rfl rfl rfl (by decide) ?_
          refine OG.yield (by first | exact Yield.as (Yield.neq rfl rfl) (bT (by omega)) | exact Yield.as (Yield.neq rfl rfl) (bF (by omega)) | exact Yield.neq rfl rfl) rfl ?_
          refine OG.guard_yes rfl rfl rfl (by decide) ?_
          refine OG.yield (by first | exact Yield.pick_t rfl rfl | exact Yield.pick_f rfl rfl | exact Yield.pick rfl (fun _ => rfl) (fun _ => rfl)) rfl ?_
          refine OG.yield (by first | exact Yield.pick_t rfl rfl | exact Yield.pick_f rfl rfl | exact Yield.pick rfl (fun _ => rfl) (fun _ => rfl)) rfl ?_
          refine OG.nil ?_
          refine QG.then ?_
          refine CG.cond_f rfl ?_
          refine CG.skip ?_
          refine QG.block_normal ?_
          refine QG.then ?_
          refine CG.region ?_
          refine OG.yield (Yield.move rfl) rfl ?_
          refine OG.yield (Yield.add rfl rfl (w64 (by omega) (by omega))) rfl ?_
          refine OG.yield (Yield.assign rfl) rfl ?_
          refine OG.nil ?_
          exact QG.next (k + 1, hits + 1, miss) ⟨by simp only; omega, by simp only; omega, by simp only; omega⟩ (by simp only; omega) (by repeat (first | exact Env.sub_nil _ | refine Env.sub_cons rfl ?_)) (by repeat (first | exact Imp.refl _ | exact Imp.none _ | apply Imp.pull (by repeat (first | exact Ext.here | apply Ext.there)) | apply Imp.trans Imp.drop))
        · skip
          skip
          refine CG.draw (.look 0 1 (.look 1 1 (.look 2 1 (.look 3 1 (.look 4 1 (.look 5 1 (.look 6 1 (.look 7 1 (.look 8 1 (.look 9 1 (.look 10 1 (.eff1 11 false (.look 12 1 (.look 13 1 (.look 14 1 (.look 15 1 (.look 16 1 (.look 17 1 (.look 18 1 (.done)))))))))))))))))))) [11] [] ([]) ([]) mixed (by kernel_rfl) (Imp.none _) (Imp.none _) ?_
          refine DG.look rfl rfl (Yield.move rfl) rfl ?_
          refine DG.look rfl rfl (Yield.move rfl) rfl ?_
          refine DG.look rfl rfl (Yield.move rfl) rfl ?_
          refine DG.look rfl rfl (Yield.index_slice Try.underlying69 ti72 rfl rfl (by omega) (by omega)) rfl ?_
          refine DG.look rfl rfl (Yield.fieldAddr fa72_1 rfl) rfl ?_
          refine DG.look rfl rfl (Yield.load ti3 rfl (by first | exact Cel.of_blk (by repeat (first | exact Ext.here | apply Ext.there)) rfl | exact (hrow (by repeat (first | exact Ext.here | apply Ext.there))) _ _ rfl)) rfl ?_
          refine DG.look rfl rfl (Yield.move rfl) rfl ?_
          refine DG.look rfl rfl (Yield.move rfl) rfl ?_
          refine DG.look rfl rfl (Yield.index_slice Try.underlying69 ti72 rfl rfl (by omega) (by omega)) rfl ?_
          refine DG.look rfl rfl (Yield.fieldAddr fa72_2 rfl) rfl ?_
          refine DG.look rfl rfl (Yield.load ti3 rfl (by first | exact Cel.of_blk (by repeat (first | exact Ext.here | apply Ext.there)) rfl | exact (hrow (by repeat (first | exact Ext.here | apply Ext.there))) _ _ rfl)) rfl ?_
          refine DG.eff1 ?_
          refine Chg.callo rfl rfl call17 rfl ((by repeat (first | exact Imp.refl _ | exact Imp.none _ | apply Imp.pull (by repeat (first | exact Ext.here | apply Ext.there)) | apply Imp.trans Imp.drop))) (look_miss W _ (hits := hits) (miss := miss) ok.Tag ok.Page (by omega) (by omega) hf) rfl (fun _ => (by repeat (first | exact Imp.refl _ | exact Imp.none _ | apply Imp.pull (by repeat (first | exact Ext.here | apply Ext.there)) | apply Imp.trans Imp.drop))) (fun _ => Imp.refl _) (fun _ => (by repeat (first | exact Imp.refl _ | exact Imp.none _ | apply Imp.pull (by repeat (first | exact Ext.here | apply Ext.there)) | apply Imp.trans Imp.drop))) ?_
          rintro ⟨⟩ -
          refine DG.look rfl rfl (Yield.move rfl) rfl ?_
          refine DG.look rfl rfl (Yield.extract rfl rfl) rfl ?_
          refine DG.look rfl rfl (Yield.extract rfl rfl) rfl ?_
          refine DG.look rfl rfl (Yield.extract rfl rfl) rfl ?_
          refine DG.look rfl rfl (Yield.assign rfl) rfl ?_
          refine DG.look rfl rfl (Yield.assign rfl) rfl ?_
          refine DG.look rfl rfl (Yield.assign rfl) rfl ?_
          refine DG.done ?_
          refine QG.then ?_
          refine CG.seq ?_
          refine CG.draw (.look 0 0 (.look 1 0 (.look 2 0 (.look 3 0 (.look 4 0 (.look 5 0 (.look 6 0 (.look 7 0 (.look 8 0 (.look 9 0 (.look 10 0 (.look 11 0 (.look 12 0 (.look 13 0 (.look 14 0 (.look 15 0 (.eff1 16 false (.eff1 17 false (.look 18 1 (.done)))))))))))))))))))) [16, 17] [] ([hmap kf vf r M, old W]) ([]) mixed (by kernel_rfl) ((by repeat (first | exact Imp.refl _ | exact Imp.none _ | apply Imp.pull (by repeat (first | exact Ext.here | apply Ext.there)) | apply Imp.trans Imp.drop))) (Imp.none _) ?_
          refine DG.look rfl rfl (Yield.move rfl) rfl ?_
          refine DG.look rfl rfl (Yield.move rfl) rfl ?_
          refine DG.look rfl rfl (Yield.move rfl) rfl ?_
          refine DG.look rfl rfl (Yield.index_slice Try.underlying69 ti72 rfl rfl (by omega) (by omega)) rfl ?_
          refine DG.look rfl rfl (Yield.fieldAddr fa72_1 rfl) rfl ?_
          refine DG.look rfl rfl (Yield.load (v := .int .i64 ok.Tag) ti3 rfl ((hrow (G := [hmap kf vf r M, old W]) (Ext.there Ext.here)) 1 _ rfl)) rfl ?_
          refine DG.look rfl rfl (Yield.move rfl) rfl ?_
          refine DG.look rfl rfl (Yield.move rfl) rfl ?_
          refine DG.look rfl rfl (Yield.index_slice Try.underlying69 ti72 rfl rfl (by omega) (by omega)) rfl ?_
          refine DG.look rfl rfl (Yield.fieldAddr fa72_2 rfl) rfl ?_
          refine DG.look rfl rfl (Yield.load (v := .int .i64 ok.Page) ti3 rfl ((hrow (G := [hmap kf vf r M, old W]) (Ext.there Ext.here)) 2 _ rfl)) rfl ?_
          refine DG.look rfl rfl (Yield.build bu74 ti74 rfl (cells := [_, _]) rfl) rfl ?_
          refine DG.look rfl rfl (Yield.as (Yield.lookup kf vf (l := M) Try.underlying70 ti72 keyOK (ok.Tag, ok.Page) rfl rfl Ext.here) (v' := .tuple #[.agg ((mget M (ok.Tag, ok.Page)).getD zA).cells.toArray, .bool (mget M (ok.Tag, ok.Page)).isSome]) (by cases mget M (ok.Tag, ok.Page) <;> rfl)) rfl ?_
          refine DG.look rfl rfl (Yield.move rfl) rfl ?_
          refine DG.look rfl rfl (Yield.extract rfl rfl) rfl ?_
          refine DG.look rfl rfl (Yield.extract rfl rfl) rfl ?_
          refine DG.eff1 ?_
          refine Chg.eff rfl rfl (Eff.alloc ti72) rfl (fun _ => (by repeat (first | exact Imp.refl _ | exact Imp.none _ | apply Imp.pull (by repeat (first | exact Ext.here | apply Ext.there)) | apply Imp.trans Imp.drop))) (fun _ => Imp.refl _) (fun _ => (by repeat (first | exact Imp.refl _ | exact Imp.none _ | apply Imp.pull (by repeat (first | exact Ext.here | apply Ext.there)) | apply Imp.trans Imp.drop))) ?_
          rintro b18 -
          refine DG.eff1 ?_
          refine Chg.eff rfl rfl (Eff.storeAll ti72 rfl rfl (by repeat (first | exact Foc.here | apply Foc.there)) (TAct.len _) (TAct.ones _) rfl) rfl (fun _ => (by repeat (first | exact Imp.refl _ | exact Imp.none _ | apply Imp.pull (by repeat (first | exact Ext.here | apply Ext.there)) | apply Imp.trans Imp.drop))) (fun _ => Imp.refl _) (fun _ => (by repeat (first | exact Imp.refl _ | exact Imp.none _ | apply Imp.pull (by repeat (first | exact Ext.here | apply Ext.there)) | apply Imp.trans Imp.drop))) ?_
          rintro ⟨⟩ -
          refine DG.look rfl rfl (Yield.assign rfl) rfl ?_
          refine DG.done ?_
          refine QG.then ?_
          refine CG.seq ?_
          skip
          refine CG.region ?_
          refine OG.yield (Yield.move rfl) rfl ?_
          refine OG.yield (Yield.move rfl) rfl ?_
          refine OG.guard_no rfl rfl rfl rfl rfl (by decide) (by decide) ?_
          refine OG.guard_no rfl rfl rfl rfl rfl (by decide) (by decide) ?_
          refine OG.guard_no rfl rfl rfl rfl rfl (by decide) (by decide) ?_
          refine OG.guard_un rfl rfl rfl rfl (by decide) (by decide) ?_
          refine OG.guard_un rfl rfl rfl rfl (by decide) (by decide) ?_
          refine OG.guard_un rfl rfl rfl rfl (by decide) (by decide) ?_
          refine OG.guard_un rfl rfl rfl rfl (by decide) (by decide) ?_
          refine OG.guard_no rfl rfl rfl rfl rfl (by decide) (by decide) ?_
          refine OG.guard_no rfl rfl rfl rfl rfl (by decide) (by decide) ?_
          refine OG.guard_un rfl rfl rfl rfl (by decide) (by decide) ?_
          refine OG.guard_un rfl rfl rfl rfl (by decide) (by decide) ?_
          refine OG.guard_un rfl rfl rfl rfl (by decide) (by decide) ?_
          refine OG.guard_un rfl rfl rfl rfl (by decide) (by decide) ?_
          refine OG.guard_no rfl rfl rfl rfl rfl (by decide) (by decide) ?_
          refine OG.yield (by first | exact Yield.pick_t rfl rfl | exact Yield.pick_f rfl rfl | exact Yield.pick rfl (fun _ => rfl) (fun _ => rfl)) rfl ?_
          refine OG.nil ?_
          refine QG.then ?_
          refine CG.cond_f rfl ?_
          refine CG.skip ?_
          refine QG.block_normal ?_
          refine QG.then ?_
          refine CG.region ?_
          refine OG.yield (Yield.move rfl) rfl ?_
          refine OG.yield (Yield.add rfl rfl (w64 (by omega) (by omega))) rfl ?_
          refine OG.yield (Yield.assign rfl) rfl ?_
          refine OG.nil ?_
          exact QG.next (k + 1, hits, miss + 1) ⟨by simp only; omega, by simp only; omega, by simp only; omega⟩ (by simp only; omega) (by repeat (first | exact Env.sub_nil _ | refine Env.sub_cons rfl ?_)) (by repeat (first | exact Imp.refl _ | exact Imp.none _ | apply Imp.pull (by repeat (first | exact Ext.here | apply Ext.there)) | apply Imp.trans Imp.drop))
      · try replace hc := of_decide_eq_false hc
        refine CG.exit ?_
        refine QG.pass_exit ?_
        refine QG.pass_exit ?_
        refine QG.block_exit ?_
        refine QG.block_normal ?_
        refine QG.then ?_
        refine CG.region ?_
        refine OG.yield (Yield.move rfl) rfl ?_
        refine OG.yield (Yield.add rfl rfl (w64 (by omega) (by omega))) rfl ?_
        refine OG.yield (Yield.assign rfl) rfl ?_
        refine OG.nil ?_
        exact QG.next ⟨i' + 1, l, hand, hits, miss, r, M⟩ ⟨hl, hh, by simp only; omega, by simp only; omega, by simp only; omega, inv⟩ (by simp only; omega) (by repeat (first | exact Env.sub_nil _ | refine Env.sub_cons rfl ?_)) (by repeat (first | exact Imp.refl _ | exact Imp.none _ | apply Imp.pull (by repeat (first | exact Ext.here | apply Ext.there)) | apply Imp.trans Imp.drop))
    · try replace hc := of_decide_eq_false hc
      refine CG.exit ?_
      refine QG.pass_exit ?_
      refine QG.pass_exit ?_
      refine QG.block_exit ?_
      refine QG.then ?_
      refine CG.seq ?_
      refine CG.region ?_
      refine OG.yield (Yield.assign rfl) rfl ?_
      refine OG.nil ?_
      refine QG.then ?_
      refine CG.ret ?_
      exact QG.ret1 rfl rfl () trivial rfl (by repeat (first | exact Imp.refl _ | exact Imp.none _ | apply Imp.pull (by repeat (first | exact Ext.here | apply Ext.there)) | apply Imp.trans Imp.drop))
  · skip
    refine CG.region ?_
    refine OG.yield (Yield.move rfl) rfl ?_
    refine OG.yield (Yield.len_slice Try.underlying69 rfl rfl) rfl ?_
    refine OG.yield (by first | exact Yield.as (Yield.gtr rfl rfl) (bT (by omega)) | exact Yield.as (Yield.gtr rfl rfl) (bF (by omega)) | exact Yield.gtr rfl rfl) rfl ?_
    refine OG.nil ?_
    refine QG.then ?_
    refine CG.cond_t rfl ?_
    refine CG.seq ?_
    refine CG.region ?_
    refine OG.yield (Yield.assign rfl) rfl ?_
    refine OG.nil ?_
    refine QG.then ?_
    refine CG.ret ?_
    refine QG.pass_ret ?_
    exact QG.ret1 rfl rfl () trivial rfl (by repeat (first | exact Imp.refl _ | exact Imp.none _ | apply Imp.pull (by repeat (first | exact Ext.here | apply Ext.there)) | apply Imp.trans Imp.drop))
open Go.ChangeShapes Go.WideShapes Go.ChangeAt
theorem own : ownKnob Try.prog.godebug = none := by kernel_rfl
theorem laid : laidOutB Try.prog = true := by kernel_rfl
set_option maxRecDepth 100000 in
theorem lifted (os : Os) (started : os.Started) (H : Type) (enc : TypeId × Value → H) :
    ReturnsInHanded {} Try.checked os 9 .any (Rows.tlbTruthSpec.pre6 enc Try.prog Try.f9 Rows.tlbTruthRow.domain false) (Rows.tlbTruthSpec.post enc Try.prog Try.f9 false true false false) := by
  refine returnsInHanded_of_change_sized (C := Try.checked) own started (by kernel_rfl) Try.func9
    (ChangeSpec.witness6 (enc := enc) (C := Try.checked) false ⟨#[], #[.int .i64 0, .slice none 0 0], []⟩ 8 (by kernel_rfl) (by kernel_rfl) (by kernel_rfl) (by kernel_rfl)) ?_
  intro W base args ds gs before hval0 hW hcnd hsz0 _
  have hsz : (DataW.weightsEach Try.prog (Try.f9.params.toList ++ Rows.tlbTruthSpec.plain.varTypes Try.prog) (ds ++ gs)).all (· ≤ reachBytes) = true := hsz0
  have hval : ∀ (j : Nat) t v, Try.f9.params[j]? = some t → args[j]? = some v → Value.okWide Try.prog W .any base t v := hval0
  have hW' := hW
  obtain ⟨p, q, hA0, hV, rfl, hfz, hnd⟩ := hW
  have hA : DataW.TrodAll enc Try.prog W 0 (fun _ => true) true Try.f9.params.toList args.toList ds p := hA0
  rw [Try.params9] at hA hval hsz
  obtain ⟨v0, vs0, d0, ds0, p0, q0, hargs, rfl, rfl, h0, r0⟩ := trodAll_cons hA
  obtain ⟨v1, vs1, d1, ds1, p1, q1, rfl, rfl, rfl, h1, r1⟩ := trodAll_cons r0
  obtain ⟨rfl, rfl, rfl⟩ := trodAll_nil r1
  obtain rfl : args = #[v0, v1] := by cases args; simp_all
  obtain ⟨rfl, rfl⟩ := trodVars_none hV
  obtain ⟨a0, rfl, rfl, rfl, w0⟩ := open_int Try.underlying3 (hval 0 3 v0 rfl rfl) h0
  have k1 := weights_le hsz 1 (t := 69) (d := d1) rfl rfl
  have s1 := Opn.param Try.underlying69 (TAct.list W) (hval 1 69 v1 rfl rfl) h1 k1
  obtain ⟨x1, c1, ops, e1, l1, ok1, s1, m1⟩ := s1
  cases e1
  clear hA0 hval0 hsz0 hsz
  refine ((walk W s1) W (Sat.start W)).mono fun e W' he => ?_
  obtain ⟨_, _, he, hs⟩ := he
  subst he
  exact ⟨_, rfl, law_post laid (params_ok (by kernel_rfl)) rfl Try.underlying4 hW' rfl rfl (Sat.below (by repeat (first | exact Ext.here | apply Ext.there)) hs)⟩
theorem over : Rows.tlbTruthRow.holds Try.pinned (OpenSpec.ofChange Rows.tlbTruthSpec) :=
  OpenClaim.holds_of_wide 9 Try.f9 rfl rfl rfl rfl rfl rfl rfl ⟨rfl, rfl, rfl, rfl, rfl⟩ rfl rfl rfl rfl rfl (by kernel_rfl) Try.func9 (by kernel_rfl)
    (of_decide_eq_true (by kernel_rfl)) (by unfold Func.isWrapper; first | (rw [if_pos (by decide +kernel)]; kernel_rfl) | (rw [if_neg (by decide +kernel)]; exact ⟨rfl, rfl⟩))
    (fun os started H enc _ => lifted os started H enc)
theorem proved : Rows.TlbTruthSaid := over
#print axioms proved
end Go.Proofs.Ytjdaglakhiifjaa.tlbTruth
