/- package page: tables as maps from groups to frames, and from pages to frames and rights: what stores do to them. Plain law. -/
import Derived.Test.YtmlfcfbblfcpdaaPgs
namespace Go.Proofs.Ytmlfcfbblfcpdaa.Pg
open Go Go.Sl Go.RowKit Go.Proofs Go.Proofs.Ytmlfcfbblfcpdaa.T Go.Proofs.Ytmlfcfbblfcpdaa.Me Go.Proofs.Ytmlfcfbblfcpdaa.Pe
set_option linter.unusedVariables false
set_option linter.unusedSimpArgs false
set_option maxRecDepth 100000
/-- What an entry's word says: the frame and the rights. -/
def ent (w : Nat) : Option (Nat × Nat) := if (sp w).2.2 = true then some ((sp w).1.toNat, (sp w).2.1.toNat) else none
theorem sp_ent (w : Nat) : sp w = match ent w with | some x => ((x.1 : Int), (x.2 : Int), true) | none => (0, 0, false) := by
  unfold ent sp
  split
  · simp; omega
  · simp
theorem ent_zero : ent 0 = none := by unfold ent; rw [sp_zero]; rfl
theorem ent_entry {f p : Nat} (hf : f < 1024) (hp : p ≤ 7) : ent (entryOf f p).toNat = some (f, p) := by
  obtain ⟨h1, h2⟩ := sp_entry hf hp
  rw [h1, Int.toNat_natCast]; unfold ent; rw [h2]; simp
theorem entry_mod (f p : Int) : (entryOf f p).toNat % 4294967296 = (entryOf f p).toNat := Nat.mod_eq_of_lt (by have := entryOf_range f p; omega)
/-- The second table of a group of 64 pages. -/
def tab (n : Nat) (bs : List UInt8) (root g : Nat) : Option Nat := (ent (word bs root g)).bind fun x => if x.1 < n then some x.1 else none
/-- A page's frame and rights. -/
def wk (n : Nat) (bs : List UInt8) (root p : Nat) : Option (Nat × Nat) := (tab n bs root (p / 64)).bind fun q => ent (word bs q (p % 64))
theorem secR_tab {n : Nat} {bs : List UInt8} {root p : Nat} : (secR n bs root p).2 = (tab n bs root (p / 64)).isSome ∧ ∀ q, tab n bs root (p / 64) = some q → (secR n bs root p).1 = q := by
  unfold secR tab
  rw [sp_ent]
  cases ent (word bs root (p / 64)) with
  | none => exact ⟨rfl, fun q h => (by cases h)⟩
  | some x =>
    simp only [Option.bind_some, Bool.true_and]
    by_cases hx : x.1 < n
    · rw [if_pos hx]; exact ⟨by simp [hx], fun q h => (by cases h; rfl)⟩
    · rw [if_neg hx]; exact ⟨by simp [hx], fun q h => (by cases h)⟩
theorem tab_lt {n : Nat} {bs : List UInt8} {root g q : Nat} (h : tab n bs root g = some q) : q < n := by
  unfold tab at h
  cases hx : ent (word bs root g) with
  | none => rw [hx] at h; cases h
  | some x =>
    rw [hx] at h
    simp only [Option.bind_some] at h
    split at h
    · cases h; assumption
    · cases h
theorem walkR_wk {n : Nat} {bs : List UInt8} {root p : Nat} : walkR n bs root p = match wk n bs root p with | some x => ((x.1 : Int), (x.2 : Int), 0) | none => (0, 0, 90) := by
  obtain ⟨h1, h2⟩ := secR_tab (n := n) (bs := bs) (root := root) (p := p)
  unfold walkR wk
  cases ht : tab n bs root (p / 64) with
  | none => rw [ht] at h1; rw [h1]; simp
  | some q =>
    rw [ht] at h1
    rw [h1, h2 q ht, Int.toNat_natCast, sp_ent]
    simp only [Option.bind_some]
    cases ent (word bs q (p % 64)) <;> simp
theorem walkR_some {n : Nat} {bs : List UInt8} {root p : Nat} {x : Nat × Nat} (h : wk n bs root p = some x) : walkR n bs root p = ((x.1 : Int), (x.2 : Int), 0) := by rw [walkR_wk, h]
theorem walkR_none {n : Nat} {bs : List UInt8} {root p : Nat} (h : wk n bs root p = none) : walkR n bs root p = (0, 0, 90) := by rw [walkR_wk, h]
theorem setR_tab {n : Nat} {bs : List UInt8} {root p e q : Nat} {spare : Int} (h : tab n bs root (p / 64) = some q) : setR n bs root p e spare = (false, 0, stW bs q (p % 64) e) := by
  obtain ⟨h1, h2⟩ := secR_tab (n := n) (bs := bs) (root := root) (p := p)
  unfold setR; rw [h1, h2 q h, h]; simp
theorem setR_new {n : Nat} {bs : List UInt8} {root p e q : Nat} (h : tab n bs root (p / 64) = none) (hq : q < n) : setR n bs root p e q = (true, 0, stW (stW (overB bs (q * 256) (fillB [])) root (p / 64) (entryOf q 0).toNat) q (p % 64) e) := by
  obtain ⟨h1, h2⟩ := secR_tab (n := n) (bs := bs) (root := root) (p := p)
  unfold setR; rw [h1, h, if_neg (by decide), if_pos (by omega), Int.toNat_natCast]
theorem setR_full {n : Nat} {bs : List UInt8} {root p e : Nat} {spare : Int} (h : tab n bs root (p / 64) = none) (hq : ¬(0 ≤ spare ∧ spare < n)) : setR n bs root p e spare = (false, 4, bs) := by
  obtain ⟨h1, h2⟩ := secR_tab (n := n) (bs := bs) (root := root) (p := p)
  unfold setR; rw [h1, h, if_neg (by decide), if_neg hq]
theorem clearR_some {n : Nat} {bs : List UInt8} {root p q : Nat} {x : Nat × Nat} (hx : wk n bs root p = some x) (h : tab n bs root (p / 64) = some q) : clearR n bs root p = stW bs q (p % 64) 0 := by
  obtain ⟨h1, h2⟩ := secR_tab (n := n) (bs := bs) (root := root) (p := p)
  unfold clearR; rw [walkR_wk, hx, h2 q h]; simp
theorem clearR_none {n : Nat} {bs : List UInt8} {root p : Nat} (hx : wk n bs root p = none) : clearR n bs root p = bs := by
  unfold clearR; rw [walkR_wk, hx]; simp
theorem wk_tab {n : Nat} {bs : List UInt8} {root p : Nat} {x : Nat × Nat} (hx : wk n bs root p = some x) : ∃ q, tab n bs root (p / 64) = some q := by
  unfold wk at hx
  cases ht : tab n bs root (p / 64) with
  | none => rw [ht] at hx; cases hx
  | some q => exact ⟨q, rfl⟩
/-- The tables of a root are frames of their own. -/
structure Tree (n : Nat) (bs : List UInt8) (root : Nat) : Prop where
  len : bs.length = n * 256
  rt : root < n
  nr : ∀ g, g < 64 → tab n bs root g ≠ some root
  inj : ∀ g g' q, g < 64 → g' < 64 → tab n bs root g = some q → tab n bs root g' = some q → g = g'
/-- The frame t has the same words in both. -/
def same (bs cs : List UInt8) (t : Nat) : Prop := ∀ i, i < 64 → word cs t i = word bs t i
theorem tab_same {n : Nat} {bs cs : List UInt8} {root g : Nat} (h : same bs cs root) (hg : g < 64) : tab n cs root g = tab n bs root g := by unfold tab; rw [h g hg]
theorem wk_same {n : Nat} {bs cs : List UInt8} {root p : Nat} (h : same bs cs root) (hp : p < 4096) (hs : ∀ q, tab n bs root (p / 64) = some q → same bs cs q) : wk n cs root p = wk n bs root p := by
  unfold wk
  rw [tab_same h (by omega)]
  cases ht : tab n bs root (p / 64) with
  | none => rfl
  | some q => simp only [Option.bind_some]; rw [hs q ht _ (by omega)]
theorem Tree.other {n : Nat} {bs cs : List UInt8} {root : Nat} (T : Tree n bs root) (hl : cs.length = n * 256) (h : same bs cs root) (hs : ∀ g q, g < 64 → tab n bs root g = some q → same bs cs q) :
    Tree n cs root ∧ (∀ g, g < 64 → tab n cs root g = tab n bs root g) ∧ ∀ p, p < 4096 → wk n cs root p = wk n bs root p :=
  ⟨⟨hl, T.rt, fun g hg => by rw [tab_same h hg]; exact T.nr g hg, fun g g' q hg hg' => by rw [tab_same h hg, tab_same h hg']; exact T.inj g g' q hg hg'⟩, fun g hg => tab_same h hg, fun p hp => wk_same h hp fun q hq => hs _ q (by omega) hq⟩
theorem same_st {n : Nat} {bs : List UInt8} {t i v t' : Nat} (hl : bs.length = n * 256) (ht : t < n) (hi : i < 64) (ht' : t' < n) (hne : t' ≠ t) : same bs (stW bs t i v) t' := fun i' hi' => by
  rw [word_st hl ht hi ht' hi', if_neg (by omega)]
theorem same_fill {n : Nat} {bs : List UInt8} {q t' : Nat} (hl : bs.length = n * 256) (hq : q < n) (ht' : t' < n) (hne : t' ≠ q) : same bs (overB bs (q * 256) (fillB [])) t' := fun i' hi' => by
  rw [word_fill hl hq ht' hi', if_neg hne]
/-- Bytes are written into a frame. -/
theorem same_over {n : Nat} {bs ys : List UInt8} {q a t' : Nat} (hl : bs.length = n * 256) (hq : q < n) (ha : q * 256 ≤ a ∧ a + ys.length ≤ q * 256 + 256) (ht' : t' < n) (hne : t' ≠ q) : same bs (overB bs a ys) t' := fun i' hi' => by
  unfold word
  refine word_ext fun j hj => ?_
  rcases (show t' * 256 + i' * 4 + j < a ∨ a + ys.length ≤ t' * 256 + i' * 4 + j by rcases Nat.lt_or_gt_of_ne hne with h | h <;> omega) with r | r
  · exact overB_lo r (by omega)
  · exact overB_hi (by omega) (by omega)
theorem same_trans {bs cs ds : List UInt8} {t : Nat} (h : same bs cs t) (k : same cs ds t) : same bs ds t := fun i hi => (k i hi).trans (h i hi)
/-- A word is stored into a second table. -/
theorem Tree.st {n : Nat} {bs : List UInt8} {root p q : Nat} (T : Tree n bs root) (hp : p < 4096) (hq : tab n bs root (p / 64) = some q) (v : Nat) :
    Tree n (stW bs q (p % 64) v) root ∧ (∀ g, g < 64 → tab n (stW bs q (p % 64) v) root g = tab n bs root g) ∧ ∀ p', p' < 4096 → wk n (stW bs q (p % 64) v) root p' = if p' = p then ent (v % 4294967296) else wk n bs root p' := by
  have hi : p % 64 < 64 := Nat.mod_lt _ (by decide)
  have hqn := tab_lt hq
  have hne : root ≠ q := fun h => T.nr (p / 64) (by omega) (by rw [hq, h])
  have hr := same_st (v := v) T.len hqn hi T.rt hne
  refine ⟨⟨stW_len T.len hqn hi, T.rt, fun g hg => by rw [tab_same hr hg]; exact T.nr g hg, fun g g' q' hg hg' => by rw [tab_same hr hg, tab_same hr hg']; exact T.inj g g' q' hg hg'⟩, fun g hg => tab_same hr hg, fun p' hp' => ?_⟩
  unfold wk
  rw [tab_same hr (by omega)]
  cases ht : tab n bs root (p' / 64) with
  | none => rw [if_neg (by rintro rfl; rw [hq] at ht; cases ht)]; rfl
  | some q' =>
    simp only [Option.bind_some]
    rw [word_st T.len hqn hi (tab_lt ht) (by omega)]
    by_cases h : p' = p
    · subst h
      rw [hq] at ht; cases ht
      rw [if_pos ⟨rfl, rfl⟩, if_pos rfl]
    · rw [if_neg h, if_neg]
      rintro ⟨rfl, h2⟩
      have := T.inj _ _ _ (by omega) (by omega) hq ht
      omega
/-- A second table is laid. -/
theorem Tree.new {n : Nat} {bs : List UInt8} {root p q : Nat} (T : Tree n bs root) (hn : n ≤ 1024) (hp : p < 4096) (hq : tab n bs root (p / 64) = none) (hqn : q < n) (hqr : q ≠ root) (hfr : ∀ g, g < 64 → tab n bs root g ≠ some q) (v : Nat) :
    Tree n (stW (stW (overB bs (q * 256) (fillB [])) root (p / 64) (entryOf q 0).toNat) q (p % 64) v) root ∧
    (∀ g, g < 64 → tab n (stW (stW (overB bs (q * 256) (fillB [])) root (p / 64) (entryOf q 0).toNat) q (p % 64) v) root g = if g = p / 64 then some q else tab n bs root g) ∧
    ∀ p', p' < 4096 → wk n (stW (stW (overB bs (q * 256) (fillB [])) root (p / 64) (entryOf q 0).toNat) q (p % 64) v) root p' = if p' = p then ent (v % 4294967296) else wk n bs root p' := by
  have hi : p / 64 < 64 := by omega
  have hl1 := fill_len T.len hqn
  have hl2 := stW_len (v := (entryOf q 0).toNat) hl1 T.rt hi
  have w1 : ∀ t i, t < n → i < 64 → word (stW (overB bs (q * 256) (fillB [])) root (p / 64) (entryOf q 0).toNat) t i = if t = root ∧ i = p / 64 then (entryOf q 0).toNat else if t = q then 0 else word bs t i := fun t i ht hi' => by
    rw [word_st hl1 T.rt hi ht hi', entry_mod, word_fill T.len hqn ht hi']
  generalize hB : stW (overB bs (q * 256) (fillB [])) root (p / 64) (entryOf q 0).toNat = B at w1 hl2 ⊢
  have ht : ∀ g, g < 64 → tab n B root g = if g = p / 64 then some q else tab n bs root g := fun g hg => by
    unfold tab
    rw [w1 root g T.rt hg]
    by_cases h : g = p / 64
    · rw [if_pos ⟨rfl, h⟩, if_pos h, show (entryOf (q : Int) 0) = entryOf (q : Int) ((0 : Nat) : Int) from rfl, ent_entry (by omega) (by decide)]
      simp [hqn]
    · rw [if_neg (by omega), if_neg (Ne.symm hqr), if_neg h]
  have T2 : Tree n B root := by
    refine ⟨hl2, T.rt, fun g hg => ?_, fun g g' q' hg hg' h1 h2 => ?_⟩
    · rw [ht g hg]; split
      · exact fun h => hqr (Option.some.inj h)
      · exact T.nr g hg
    · rw [ht g hg] at h1; rw [ht g' hg'] at h2
      split at h1 <;> split at h2
      · omega
      · cases h1; exact absurd h2 (hfr g' hg')
      · cases h2; exact absurd h1 (hfr g hg)
      · exact T.inj g g' q' hg hg' h1 h2
  have hw : ∀ p', p' < 4096 → wk n B root p' = wk n bs root p' := fun p' hp' => by
    unfold wk
    rw [ht (p' / 64) (by omega)]
    by_cases h : p' / 64 = p / 64
    · rw [if_pos h, h, hq]
      simp only [Option.bind_some, Option.bind_none]
      rw [w1 q _ hqn (by omega), if_neg (by omega), if_pos rfl, ent_zero]
    · rw [if_neg h]
      cases hq' : tab n bs root (p' / 64) with
      | none => rfl
      | some q' =>
        simp only [Option.bind_some]
        rw [w1 q' _ (tab_lt hq') (by omega), if_neg (fun h => T.nr (p' / 64) (by omega) (by rw [hq', h.1])), if_neg (fun h => hfr (p' / 64) (by omega) (by rw [hq', h]))]
  obtain ⟨a1, a2, a3⟩ := T2.st hp (by rw [ht _ hi, if_pos rfl]) v
  exact ⟨a1, fun g hg => by rw [a2 g hg, ht g hg], fun p' hp' => by rw [a3 p' hp', hw p' hp']⟩
/-- Memory that holds noughts has no tables. -/
theorem word_zeros {k t i : Nat} : word (List.replicate k 0) t i = 0 := by
  unfold word; rw [List.drop_replicate, List.take_replicate, leN_zeros]
theorem tab_zeros {n k root g : Nat} : tab n (List.replicate k 0) root g = none := by unfold tab; rw [word_zeros, ent_zero]; rfl
theorem wk_zeros {n k root p : Nat} : wk n (List.replicate k 0) root p = none := by unfold wk; rw [tab_zeros]; rfl
theorem Tree.zeros {n root : Nat} (h : root < n) : Tree n (List.replicate (n * 256) 0) root := ⟨by simp, h, fun g _ q => (by rw [tab_zeros] at q; cases q), fun g g' q _ _ h1 _ => (by rw [tab_zeros] at h1; cases h1)⟩
/-- The pages, by the map. -/
theorem pl_wk {n : Nat} {bs : List UInt8} {root p : Nat} : pl n bs root p = match wk n bs root p with | some x => [(p, (x.1 : Int))] | none => [] := by
  unfold pl; rw [walkR_wk]
  cases wk n bs root p <;> rfl
end Go.Proofs.Ytmlfcfbblfcpdaa.Pg
