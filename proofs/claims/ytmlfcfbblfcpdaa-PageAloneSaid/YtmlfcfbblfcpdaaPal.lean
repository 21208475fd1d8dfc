/- Tables of one root among others: what laying and clearing do to the pages that a law keeps in a map. Plain law. -/
import Derived.Test.YtmlfcfbblfcpdaaPkw
namespace Go.Proofs.Ytmlfcfbblfcpdaa.Pg
open Go Go.Sl Go.RowKit Go.Proofs Go.Proofs.Ytmlfcfbblfcpdaa.T Go.Proofs.Ytmlfcfbblfcpdaa.Me Go.Proofs.Ytmlfcfbblfcpdaa.Pe
set_option linter.unusedVariables false
set_option linter.unusedSimpArgs false
set_option maxRecDepth 100000
theorem len_wk {n : Nat} {bs : List UInt8} {root p : Nat} : (pagesTo n bs root (p + 1)).length = (pagesTo n bs root p).length + if (wk n bs root p).isSome then 1 else 0 := by
  rw [pagesTo, pl_wk]; cases wk n bs root p <;> simp
theorem pages_le {n : Nat} {bs : List UInt8} {root : Nat} : ∀ p, (pagesTo n bs root p).length ≤ p
  | 0 => Nat.le_refl _
  | p + 1 => by rw [len_wk]; have := pages_le (n := n) (bs := bs) (root := root) p; split <;> omega
/-- How many pages there are, where one page has changed. -/
theorem len_upd {n n' : Nat} {bs cs : List UInt8} {root root' p : Nat} (h : ∀ q, q < 4096 → q ≠ p → wk n' cs root' q = wk n bs root q) : ∀ q, q ≤ 4096 → (pagesTo n' cs root' q).length + (if p < q ∧ (wk n bs root p).isSome then 1 else 0) = (pagesTo n bs root q).length + (if p < q ∧ (wk n' cs root' p).isSome then 1 else 0)
  | 0, _ => by simp [pagesTo]
  | q + 1, hq => by
    have ih := len_upd h q (by omega)
    rw [len_wk, len_wk]
    by_cases hp : q = p
    · subst hp
      have e : ¬ q < q := by omega
      simp only [e, false_and, if_false] at ih
      simp only [Nat.lt_succ_self, true_and]
      omega
    · rw [h q (by omega) hp]
      by_cases h2 : p < q
      · simp only [h2, true_and, show p < q + 1 by omega] at ih ⊢; omega
      · simp only [h2, false_and, if_false, show ¬ p < q + 1 by omega] at ih ⊢; omega
theorem pages_mem {n : Nat} {bs : List UInt8} {root k : Nat} (hk : k < (pages n bs root).length) : ∃ p x, p < 4096 ∧ wk n bs root p = some x ∧ (pages n bs root)[k]? = some (p, (x.1 : Int)) := by
  have key : ∀ q y, y ∈ pagesTo n bs root q → ∃ p x, p < q ∧ wk n bs root p = some x ∧ y = (p, (x.1 : Int)) := by
    intro q
    induction q with
    | zero => intro y hy; cases hy
    | succ q ih =>
      intro y hy
      rw [pagesTo, List.mem_append] at hy
      rcases hy with hy | hy
      · obtain ⟨p, x, h1, h2, h3⟩ := ih y hy
        exact ⟨p, x, by omega, h2, h3⟩
      · rw [pl_wk] at hy
        cases hw : wk n bs root q with
        | none => rw [hw] at hy; cases hy
        | some x => rw [hw] at hy; simp at hy; exact ⟨q, x, by omega, hw, hy⟩
  obtain ⟨p, x, h1, h2, h3⟩ := key 4096 _ (List.getElem_mem hk)
  exact ⟨p, x, h1, h2, by rw [List.getElem?_eq_getElem hk, h3]⟩
/-- The root k with tables among the frames lo .. sp - 1, as a law keeps it in a map. -/
structure R1 (n k lo : Nat) (vf : Nat × Nat → Int) (bs : List UInt8) (l : List (Int × Int)) (sp : Nat) : Prop where
  tree : Tree n bs k
  tabs : ∀ g, g < 64 → ∀ q, tab n bs k g = some q → lo ≤ q ∧ q < sp
  nd : (l.map (·.1)).Nodup
  has : ∀ p, p < 4096 → mget l ((p : Nat) : Int) = (wk n bs k p).map vf
  len : l.length = (pages n bs k).length
theorem R1.upd {n k lo : Nat} {vf : Nat × Nat → Int} {bs cs : List UInt8} {l : List (Int × Int)} {sp sp' p : Nat} {x : Nat × Nat} (K : R1 n k lo vf bs l sp) (hp : p < 4096) (T : Tree n cs k) (ht : ∀ g, g < 64 → ∀ q, tab n cs k g = some q → lo ≤ q ∧ q < sp')
    (hw : ∀ p', p' < 4096 → wk n cs k p' = if p' = p then some x else wk n bs k p') : R1 n k lo vf cs (mset l (p : Int) (vf x)) sp' := by
  refine ⟨T, ht, mset_nodup K.nd _ _, fun p' hp' => ?_, ?_⟩
  · rw [mget_mset, hw p' hp']
    by_cases h : p' = p
    · subst h; rw [if_pos rfl, if_pos rfl]; rfl
    · rw [if_neg (by omega), if_neg h]; exact K.has p' hp'
  · have h1 := len_upd (n := n) (n' := n) (bs := bs) (cs := cs) (root := k) (root' := k) (p := p) (fun q hq hne => by rw [hw q hq, if_neg hne]) 4096 (Nat.le_refl _)
    rw [mset_length, K.has p hp]
    have h2 := K.len
    simp only [hp, true_and, hw p hp, if_true, Option.isSome_some, Option.isSome_map] at h1 ⊢
    unfold pages at h2 ⊢
    split at h1 <;> rename_i h3
    · rw [if_pos h3]; omega
    · rw [if_neg h3]; omega
theorem R1.del {n k lo : Nat} {vf : Nat × Nat → Int} {bs cs : List UInt8} {l : List (Int × Int)} {sp p : Nat} (K : R1 n k lo vf bs l sp) (hp : p < 4096) (T : Tree n cs k) (ht : ∀ g, g < 64 → ∀ q, tab n cs k g = some q → lo ≤ q ∧ q < sp)
    (hw : ∀ p', p' < 4096 → wk n cs k p' = if p' = p then none else wk n bs k p') : R1 n k lo vf cs (mdel l (p : Int)) sp := by
  refine ⟨T, ht, mdel_nodup K.nd _, fun p' hp' => ?_, ?_⟩
  · rw [mget_mdel K.nd, hw p' hp']
    by_cases h : p' = p
    · subst h; rw [if_pos rfl, if_pos rfl]; rfl
    · rw [if_neg (by omega), if_neg h]; exact K.has p' hp'
  · have h1 := len_upd (n := n) (n' := n) (bs := bs) (cs := cs) (root := k) (root' := k) (p := p) (fun q hq hne => by rw [hw q hq, if_neg hne]) 4096 (Nat.le_refl _)
    rw [mdel_length, K.has p hp]
    have h2 := K.len
    simp only [hp, true_and, hw p hp, if_true, Option.isSome_none, Option.isSome_map, Bool.false_eq_true, if_false] at h1 ⊢
    unfold pages at h2 ⊢
    split at h1 <;> rename_i h3
    · rw [if_pos h3]; omega
    · rw [if_neg h3]; omega
theorem R1.clear {n k lo : Nat} {vf : Nat × Nat → Int} {bs : List UInt8} {l : List (Int × Int)} {sp p : Nat} (K : R1 n k lo vf bs l sp) (hp : p < 4096) : R1 n k lo vf (clearR n bs k p) (mdel l (p : Int)) sp ∧
    (clearR n bs k p).length = n * 256 ∧ ∀ t, t < n → t ≠ k → ¬(lo ≤ t ∧ t < sp) → same bs (clearR n bs k p) t := by
  cases hx : wk n bs k p with
  | none =>
    rw [clearR_none hx]
    exact ⟨K.del hp K.tree K.tabs fun p' hp' => (by by_cases h : p' = p <;> simp [h, hx]), K.tree.len, fun _ _ _ _ _ _ => rfl⟩
  | some x =>
    obtain ⟨q, hq⟩ := wk_tab hx
    rw [clearR_some hx hq]
    obtain ⟨a1, a2, a3⟩ := K.tree.st hp hq 0
    have hb := K.tabs (p / 64) (by omega) q hq
    refine ⟨K.del hp a1 (fun g hg q' h => K.tabs g hg q' (by rw [← a2 g hg]; exact h)) fun p' hp' => ?_, a1.len, fun t ht hk hr => same_st K.tree.len (tab_lt hq) (Nat.mod_lt _ (by decide)) ht (fun h => hr (h ▸ hb))⟩
    rw [a3 p' hp', show (0 : Nat) % 4294967296 = 0 from rfl, ent_zero]
theorem R1.set {n k lo : Nat} {vf : Nat × Nat → Int} {bs : List UInt8} {l : List (Int × Int)} {sp p f pm : Nat} (K : R1 n k lo vf bs l sp) (hn : n ≤ 1024) (hsp : sp < n) (hk : k < lo) (hls : lo ≤ sp) (hp : p < 4096) (hf : f < n) (hpm : pm < 8) : ∃ u cs, setR n bs k p (entryOf f pm).toNat (sp : Nat) = (u, 0, cs) ∧ R1 n k lo vf cs (mset l (p : Int) (vf (f, pm))) (if u then sp + 1 else sp) ∧
    cs.length = n * 256 ∧ ∀ t, t < n → t ≠ k → ¬(lo ≤ t ∧ t < sp + 1) → same bs cs t := by
  have hent : ent ((entryOf f pm).toNat % 4294967296) = some (f, pm) := by rw [entry_mod]; exact ent_entry (by omega) (by omega)
  have hi : p % 64 < 64 := Nat.mod_lt _ (by decide)
  cases hq : tab n bs k (p / 64) with
  | some q =>
    obtain ⟨a1, a2, a3⟩ := K.tree.st hp hq (entryOf f pm).toNat
    have hb := K.tabs (p / 64) (by omega) q hq
    rw [hent] at a3
    exact ⟨false, _, setR_tab hq, K.upd hp a1 (fun g hg q' h => by simpa using K.tabs g hg q' (by rw [← a2 g hg]; exact h)) a3, a1.len, fun t ht hk hr => same_st K.tree.len (tab_lt hq) hi ht (fun h => hr (by omega))⟩
  | none =>
    obtain ⟨a1, a2, a3⟩ := K.tree.new hn hp hq hsp (by omega) (fun g hg h => by have := K.tabs g hg _ h; omega) (entryOf f pm).toNat
    rw [hent] at a3
    refine ⟨true, _, setR_new hq hsp, K.upd hp a1 (fun g hg q' h => ?_) a3, a1.len, fun t ht hk hr => ?_⟩
    · rw [a2 g hg] at h
      split at h
      · cases h; simp; omega
      · have := K.tabs g hg q' h; simp; omega
    · have l1 := fill_len K.tree.len hsp
      have l2 := stW_len (v := (entryOf sp 0).toNat) l1 K.tree.rt (show p / 64 < 64 by omega)
      exact same_trans (same_trans (same_fill K.tree.len hsp ht (by omega)) (same_st l1 K.tree.rt (by omega) ht hk)) (same_st l2 hsp hi ht (by omega))
theorem pages_same {n : Nat} {bs cs : List UInt8} {k : Nat} (h : ∀ p, p < 4096 → wk n cs k p = wk n bs k p) : ∀ q, q ≤ 4096 → pagesTo n cs k q = pagesTo n bs k q
  | 0, _ => rfl
  | q + 1, hq => by rw [pagesTo, pagesTo, pages_same h q (by omega), pl_wk, pl_wk, h q (by omega)]
theorem R1.other {n k lo : Nat} {vf : Nat × Nat → Int} {bs cs : List UInt8} {l : List (Int × Int)} {sp : Nat} (K : R1 n k lo vf bs l sp) (hl : cs.length = n * 256) (hs : ∀ t, t < n → (t = k ∨ (lo ≤ t ∧ t < sp)) → same bs cs t) : R1 n k lo vf cs l sp := by
  obtain ⟨a1, a2, a3⟩ := K.tree.other hl (hs k K.tree.rt (.inl rfl)) (fun g q hg hq => hs q (tab_lt hq) (.inr (K.tabs g hg q hq)))
  exact ⟨a1, fun g hg q h => K.tabs g hg q (by rw [← a2 g hg]; exact h), K.nd, fun p hp => by rw [a3 p hp]; exact K.has p hp, by rw [K.len]; unfold pages; rw [pages_same a3 4096 (Nat.le_refl _)]⟩
theorem R1.start {n k lo : Nat} {vf : Nat × Nat → Int} {sp : Nat} (h : k < n) : R1 n k lo vf (List.replicate (n * 256) 0) [] sp := by
  have hz : ∀ q, pagesTo n (List.replicate (n * 256) 0) k q = [] := fun q => by
    induction q with
    | zero => rfl
    | succ q ih => rw [pagesTo, ih, pl_wk, wk_zeros]; rfl
  exact ⟨Tree.zeros h, fun g _ q h => (by rw [tab_zeros] at h; cases h), by simp, fun p _ => (by rw [wk_zeros]; rfl), by unfold pages; rw [hz]; rfl⟩
theorem walk_0 {n : Nat} {bs : List UInt8} {root p : Nat} : decide ((walkR n bs root p).2.2 = 0) = (wk n bs root p).isSome := by
  rw [walkR_wk]; cases wk n bs root p <;> rfl
end Go.Proofs.Ytmlfcfbblfcpdaa.Pg
