/- Spaces of several partitions in one memory: what the machine's parts hold of them; each operation as a step. Plain law, no program in sight. -/
import Derived.Test.YtmlfcfbblfcpdaaSpl
namespace Go.Proofs.Ytmlfcfbblfcpdaa.Sp
open Go Go.Sl Go.RowKit Go.Proofs Go.Proofs.Ytmlfcfbblfcpdaa.T Go.Proofs.Ytmlfcfbblfcpdaa.Me Go.Proofs.Ytmlfcfbblfcpdaa.Pe Go.Proofs.Ytmlfcfbblfcpdaa.Pg
open Go.Proofs.Ytmlfcfbblfcpdaa.Fz (cnt cnt_set inv_take inv_give)
open Go.Proofs.Ytmlfcfbblfcpdaa.Tl (Slot hitB putL flushPL put_cases)
set_option linter.unusedVariables false
set_option linter.unusedSimpArgs false
set_option maxRecDepth 100000
section
variable {n : Nat} {bs cs : List UInt8} {A : Ab} {own : List Int}
theorem Rep.rlt (R : Rep n bs A) {k r : Nat} (h : A.rt k = some r) : r < n := (R.tree k r h).1.rt
theorem Rep.tlt (R : Rep n bs A) {k g q : Nat} (h : A.tb k g = some q) : q < n := by
  obtain ⟨hg, r, hr⟩ := R.tb0 k g q h
  have := (R.tree k r hr).2.1 g hg
  rw [h] at this; exact tab_lt this
/-- Bytes are written into a frame that is no table. -/
theorem Rep.only (R : Rep n bs A) {q : Nat} (h : Only n bs cs q) (h1 : ∀ k, A.rt k ≠ some q) (h2 : ∀ k g, A.tb k g ≠ some q) : Rep n cs A := by
  refine ⟨h.len, fun k r hk => ?_, fun k r g hk hg => by rw [(same_of_fr (h.oth r (R.rlt hk) fun e => h1 k (by rw [hk, e]))) g hg]; exact R.rw k r g hk hg, R.tb0, R.pg0⟩
  obtain ⟨t1, t2, t3⟩ := R.tree k r hk
  obtain ⟨a1, a2, a3⟩ := t1.other h.len (same_of_fr (h.oth r t1.rt fun e => h1 k (by rw [hk, e]))) (fun g q' hg hq => same_of_fr (h.oth q' (tab_lt hq) fun e => h2 k g (by rw [← t2 g hg, hq, e])))
  exact ⟨a1, fun g hg => by rw [a2 g hg, t2 g hg], fun p hp => by rw [a3 p hp, t3 p hp]⟩
theorem Rep.entry (R : Rep n bs A) (O : Own own A) {k r p q : Nat} (hk : A.rt k = some r) (hp : p < 4096) (hq : A.tb k (p / 64) = some q) (v : Nat) : Rep n (stW bs q (p % 64) v) { A with pg := up2 A.pg k p (ent (v % 4294967296)) } := by
  have hi : p % 64 < 64 := Nat.mod_lt _ (by decide)
  have hqn := R.tlt hq
  have ho := only_st (v := v) R.len hqn hi
  have hrq : ∀ k' r', A.rt k' = some r' → r' ≠ q := fun k' r' hk' e => by
    have := O.inj (.root k') (.tab k (p / 64)) q (by simp only [Ab.fr]; rw [hk', e]) hq
    cases this
  refine ⟨ho.len, fun k' r' hk' => ?_, fun k' r' g hk' hg => by rw [(same_of_fr (ho.oth r' (R.rlt hk') (hrq k' r' hk'))) g hg]; exact R.rw k' r' g hk' hg, R.tb0, fun k' p' x hx => ?_⟩
  · obtain ⟨t1, t2, t3⟩ := R.tree k' r' hk'
    by_cases hkk : k' = k
    · subst hkk
      rw [hk] at hk'; cases hk'
      obtain ⟨a1, a2, a3⟩ := t1.st hp (by rw [t2 _ (by omega), hq]) v
      refine ⟨a1, fun g hg => by rw [a2 g hg, t2 g hg], fun p' hp' => ?_⟩
      rw [a3 p' hp', t3 p' hp']
      dsimp only
      by_cases h : p' = p
      · subst h; rw [if_pos rfl, up2_at]
      · rw [if_neg h, up2_ne (by omega)]
    · have hne1 : r' ≠ q := fun e => by
        have := O.inj (.root k') (.tab k (p / 64)) q (by simp only [Ab.fr]; rw [hk', e]) hq
        cases this
      obtain ⟨a1, a2, a3⟩ := t1.other ho.len (same_of_fr (ho.oth r' t1.rt hne1)) (fun g q' hg hq' => same_of_fr (ho.oth q' (tab_lt hq') fun e => by
        have := O.inj (.tab k' g) (.tab k (p / 64)) q (by simp only [Ab.fr]; rw [← t2 g hg, hq', e]) hq
        cases this; exact hkk rfl))
      exact ⟨a1, fun g hg => by rw [a2 g hg, t2 g hg], fun p' hp' => by rw [a3 p' hp', t3 p' hp']; exact (up2_ne (fun q => hkk q.1)).symm⟩
  · by_cases h : k' = k ∧ p' = p
    · obtain ⟨rfl, rfl⟩ := h; exact ⟨hp, r, hk⟩
    · dsimp only at hx; rw [up2_ne h] at hx; exact R.pg0 k' p' x hx
theorem only_new {q r i j e v : Nat} (hl : bs.length = n * 256) (hq : q < n) (hr : r < n) (hi : i < 64) (hj : j < 64) : (stW (stW (overB bs (q * 256) (fillB [])) r i e) q j v).length = n * 256 ∧ ∀ t, t < n → t ≠ q → t ≠ r → frB (stW (stW (overB bs (q * 256) (fillB [])) r i e) q j v) t = frB bs t := by
  have o1 := only_fill (bs := bs) (ws := []) hl hq (by decide)
  have o2 := only_st (v := e) o1.len hr hi
  have o3 := only_st (v := v) o2.len hq hj
  exact ⟨o3.len, fun t ht h1 h2 => by rw [o3.oth t ht h1, o2.oth t ht h2, o1.oth t ht h1]⟩
theorem Rep.newTab (R : Rep n bs A) (O : Own own A) (hn : n ≤ 1024) {k r p q : Nat} (hk : A.rt k = some r) (hp : p < 4096) (h0 : A.tb k (p / 64) = none) (hqn : q < n) (h1 : ∀ k, A.rt k ≠ some q) (h2 : ∀ k g, A.tb k g ≠ some q) (v : Nat) :
    Rep n (stW (stW (overB bs (q * 256) (fillB [])) r (p / 64) (entryOf q 0).toNat) q (p % 64) v) { A with tb := up2 A.tb k (p / 64) (some q), pg := up2 A.pg k p (ent (v % 4294967296)) } := by
  have hi : p % 64 < 64 := Nat.mod_lt _ (by decide)
  have hi2 : p / 64 < 64 := by omega
  obtain ⟨ol, oo⟩ := only_new (e := (entryOf q 0).toNat) (v := v) R.len hqn (R.rlt hk) hi2 hi
  refine ⟨ol, fun k' r' hk' => ?_, fun k' r' g hk' hg => ?_, fun k' g q' hx => ?_, fun k' p' x hx => ?_⟩
  · obtain ⟨t1, t2, t3⟩ := R.tree k' r' hk'
    by_cases hkk : k' = k
    · subst hkk
      rw [hk] at hk'; cases hk'
      obtain ⟨a1, a2, a3⟩ := t1.new hn hp (by rw [t2 _ hi2, h0]) hqn (fun e => h1 k' (by rw [hk, e])) (fun g hg e => h2 k' g (by rw [← t2 g hg, e])) v
      refine ⟨a1, fun g hg => ?_, fun p' hp' => ?_⟩
      · rw [a2 g hg, t2 g hg]
        dsimp only
        by_cases h : g = p / 64
        · subst h; rw [if_pos rfl, up2_at]
        · rw [if_neg h, up2_ne (by omega)]
      · rw [a3 p' hp', t3 p' hp']
        dsimp only
        by_cases h : p' = p
        · subst h; rw [if_pos rfl, up2_at]
        · rw [if_neg h, up2_ne (by omega)]
    · have hne1 : r' ≠ r := fun e => by
        have := O.inj (.root k') (.root k) r (by simp only [Ab.fr]; rw [hk', e]) hk
        cases this; exact hkk rfl
      obtain ⟨a1, a2, a3⟩ := t1.other ol (same_of_fr (oo r' t1.rt (fun e => h1 k' (by rw [hk', e])) hne1)) (fun g q' hg hq' => same_of_fr (oo q' (tab_lt hq') (fun e => h2 k' g (by rw [← t2 g hg, hq', e])) fun e => by
        have := O.inj (.tab k' g) (.root k) r (by simp only [Ab.fr]; rw [← t2 g hg, hq', e]) hk
        cases this))
      exact ⟨a1, fun g hg => by rw [a2 g hg, t2 g hg]; exact (up2_ne (fun q => hkk q.1)).symm, fun p' hp' => by rw [a3 p' hp', t3 p' hp']; exact (up2_ne (fun q => hkk q.1)).symm⟩
  · have hq' : r' ≠ q := fun e => h1 k' (by rw [hk', e])
    by_cases hkk : k' = k
    · subst hkk
      rw [hk] at hk'; cases hk'
      have l1 := fill_len R.len hqn
      have l2 := stW_len (v := (entryOf q 0).toNat) l1 (R.rlt hk) hi2
      have hw : word (stW (stW (overB bs (q * 256) (fillB [])) r (p / 64) (entryOf q 0).toNat) q (p % 64) v) r g = if g = p / 64 then (entryOf q 0).toNat else word bs r g := by
        rw [(same_st l2 hqn hi (R.rlt hk) hq') g hg, word_st l1 (R.rlt hk) hi2 (R.rlt hk) hg, entry_mod, (same_fill R.len hqn (R.rlt hk) hq') g hg]
        by_cases h : g = p / 64 <;> simp [h]
      rw [hw]
      dsimp only
      by_cases h : g = p / 64
      · subst h
        rw [if_pos rfl, up2_at, show (entryOf (q : Int) 0) = entryOf (q : Int) ((0 : Nat) : Int) from rfl, ent_entry (by omega) (by decide)]; rfl
      · rw [if_neg h, up2_ne (by omega)]; exact R.rw k' r g hk hg
    · have hne1 : r' ≠ r := fun e => by
        have := O.inj (.root k') (.root k) r (by simp only [Ab.fr]; rw [hk', e]) hk
        cases this; exact hkk rfl
      rw [(same_of_fr (oo r' (R.rlt hk') hq' hne1)) g hg]
      dsimp only
      rw [up2_ne (fun q => hkk q.1)]; exact R.rw k' r' g hk' hg
  · by_cases h : k' = k ∧ g = p / 64
    · obtain ⟨rfl, rfl⟩ := h; exact ⟨hi2, r, hk⟩
    · dsimp only at hx; rw [up2_ne h] at hx; exact R.tb0 k' g q' hx
  · by_cases h : k' = k ∧ p' = p
    · obtain ⟨rfl, rfl⟩ := h; exact ⟨hp, r, hk⟩
    · dsimp only at hx; rw [up2_ne h] at hx; exact R.pg0 k' p' x hx
theorem Rep.root (R : Rep n bs A) {k f : Nat} (hf : f < n) (hz : frB bs f = List.replicate 256 0) (h0 : A.rt k = none) : Rep n bs { A with rt := fun k' => if k' = k then some f else A.rt k' } := by
  have hw : ∀ i, i < 64 → word bs f i = 0 := fun i hi => by rw [word_fr bs f i hi, hz, List.drop_replicate, List.take_replicate, leN_zeros]
  have ht : ∀ g, g < 64 → tab n bs f g = none := fun g hg => by unfold tab; rw [hw g hg, ent_zero]; rfl
  have e1 : ∀ g, A.tb k g = none := fun g => by
    cases h : A.tb k g with
    | none => rfl
    | some q => obtain ⟨_, r, hr⟩ := R.tb0 k g q h; rw [h0] at hr; cases hr
  have e2 : ∀ p, A.pg k p = none := fun p => by
    cases h : A.pg k p with
    | none => rfl
    | some q => obtain ⟨_, r, hr⟩ := R.pg0 k p q h; rw [h0] at hr; cases hr
  refine ⟨R.len, fun k' r' hk' => ?_, fun k' r' g hk' hg => ?_, fun k' g q h => ?_, fun k' p x h => ?_⟩
  · dsimp only at hk'
    split at hk'
    · rename_i hkk; subst hkk; cases hk'
      refine ⟨⟨R.len, hf, fun g hg => by rw [ht g hg]; simp, fun g g' q hg _ h1 _ => by rw [ht g hg] at h1; cases h1⟩, fun g hg => by rw [ht g hg, e1 g], fun p hp => ?_⟩
      rw [e2 p]; unfold wk; rw [ht _ (by omega)]; rfl
    · exact R.tree k' r' hk'
  · dsimp only at hk'
    split at hk'
    · rename_i hkk; subst hkk; cases hk'
      rw [hw g hg, ent_zero, e1 g]; rfl
    · exact R.rw k' r' g hk' hg
  · obtain ⟨h1, r, hr⟩ := R.tb0 k' g q h
    refine ⟨h1, ?_⟩
    dsimp only
    split
    · exact ⟨f, rfl⟩
    · exact ⟨r, hr⟩
  · obtain ⟨h1, r, hr⟩ := R.pg0 k' p x h
    refine ⟨h1, ?_⟩
    dsimp only
    split
    · exact ⟨f, rfl⟩
    · exact ⟨r, hr⟩
end
/-! ### the table of translations -/
def Uniq (l : List Slot) : Prop := ∀ (i j : Nat) (s s' : Slot), l[i]? = some s → l[j]? = some s' → s.used = true → s'.used = true → s.tag = s'.tag → s.page = s'.page → i = j
theorem hit_iff {tag page : Int} {s : Slot} : hitB tag page s = true ↔ s.used = true ∧ s.tag = tag ∧ s.page = page := by simp [hitB]
theorem put_at {l : List Slot} {hand : Nat} {s : Slot} (hu : Uniq l) (hh : hand < l.length) : ∃ i, i < l.length ∧ (putL l hand s).1 = l.set i s ∧ ∀ j s', l[j]? = some s' → hitB s.tag s.page s' = true → j = i := by
  rcases put_cases l s.tag s.page with ⟨i, h1, h2⟩ | ⟨h1, i, h2, h3⟩ | ⟨h1, h2⟩
  · refine ⟨i, h2, by simp [putL, h1], fun j s' hj hs => ?_⟩
    obtain ⟨_, h4, _⟩ := List.findIdx?_eq_some_iff_getElem.1 h1
    have a := hit_iff.1 h4
    have b := hit_iff.1 hs
    exact hu j i s' l[i] hj (by simp [h2]) b.1 a.1 (by rw [a.2.1, b.2.1]) (by rw [a.2.2, b.2.2])
  · refine ⟨i, h3, by simp [putL, h1, h2], fun j s' hj hs => ?_⟩
    have := List.findIdx?_eq_none_iff.1 h1 s' (List.mem_of_getElem? hj)
    rw [this] at hs; cases hs
  · refine ⟨hand, hh, by simp [putL, h1, h2], fun j s' hj hs => ?_⟩
    have := List.findIdx?_eq_none_iff.1 h1 s' (List.mem_of_getElem? hj)
    rw [this] at hs; cases hs
/-- What the table says is so. -/
structure Tru (A : Ab) (l : List Slot) (hand : Nat) : Prop where
  un : Uniq l
  tr : ∀ s ∈ l, s.used = true → ∃ (k p : Nat) (x : Nat × Nat), s.tag = k ∧ s.page = p ∧ A.pg k p = some x ∧ s.frame = x.1 ∧ s.perm = x.2
  ll : l.length ≤ 64
  hh : hand < l.length
theorem putL_len {l : List Slot} {hand : Nat} {s : Slot} : (putL l hand s).1.length = l.length := by
  rcases put_cases l s.tag s.page with ⟨i, h1, h2⟩ | ⟨h1, i, h2, h3⟩ | ⟨h1, h2⟩ <;> simp [putL, h1, h2]
theorem putL_hand {l : List Slot} {hand : Nat} {s : Slot} (h : hand < l.length) : (putL l hand s).2 < l.length := by
  rcases put_cases l s.tag s.page with ⟨i, h1, h2⟩ | ⟨h1, i, h2, h3⟩ | ⟨h1, h2⟩ <;> simp [putL, h1, h2, h]
  exact Nat.mod_lt _ (by omega)
theorem Tru.put {A : Ab} {l : List Slot} {hand k p : Nat} {x : Nat × Nat} (T : Tru A l hand) (h : A.pg k p = some x) : Tru A (putL l hand ⟨true, k, p, x.1, x.2⟩).1 (putL l hand ⟨true, k, p, x.1, x.2⟩).2 := by
  refine ⟨?_, ?_, by rw [putL_len]; exact T.ll, by rw [putL_len]; exact putL_hand T.hh⟩
  all_goals obtain ⟨i, hi, e, hall⟩ := put_at (hand := hand) (s := ⟨true, k, p, x.1, x.2⟩) T.un T.hh
  · rw [e]
    intro j j' s1 s2 h1 h2 u1 u2 t q
    rw [List.getElem?_set] at h1 h2
    by_cases hj : i = j <;> by_cases hk : i = j'
    · omega
    · subst hj; rw [if_pos rfl, if_pos hi] at h1; rw [if_neg hk] at h2; cases h1
      exact (hall j' s2 h2 (hit_iff.2 ⟨u2, t.symm, q.symm⟩)).symm
    · subst hk; rw [if_pos rfl, if_pos hi] at h2; rw [if_neg hj] at h1; cases h2
      exact hall j s1 h1 (hit_iff.2 ⟨u1, t, q⟩)
    · rw [if_neg hj] at h1; rw [if_neg hk] at h2; exact T.un j j' s1 s2 h1 h2 u1 u2 t q
  · rw [e]
    intro s hs hu
    obtain ⟨j, hj⟩ := List.getElem?_of_mem hs
    rw [List.getElem?_set] at hj
    by_cases hij : i = j
    · subst hij; rw [if_pos rfl, if_pos hi] at hj; cases hj
      exact ⟨k, p, x, rfl, rfl, h, rfl, rfl⟩
    · rw [if_neg hij] at hj
      exact T.tr s (List.mem_of_getElem? hj) hu
/-- A hit tells the truth. -/
theorem Tru.hit {A : Ab} {l : List Slot} {hand k p i : Nat} {s : Slot} (T : Tru A l hand) (hf : l.findIdx? (hitB k p) = some i) (hs : l[i]? = some s) : ∃ x, A.pg k p = some x ∧ s.frame = (x.1 : Int) ∧ s.perm = (x.2 : Int) := by
  obtain ⟨hi, h4, _⟩ := List.findIdx?_eq_some_iff_getElem.1 hf
  have e : l[i] = s := by simpa [hi] using hs
  rw [e] at h4
  obtain ⟨a1, a2, a3⟩ := hit_iff.1 h4
  obtain ⟨k', p', x, b1, b2, b3, b4, b5⟩ := T.tr s (List.mem_of_getElem? hs) a1
  obtain rfl : k' = k := by omega
  obtain rfl : p' = p := by omega
  exact ⟨x, b3, b4, b5⟩
/-- A page is forgotten: then it may be anything. -/
theorem Tru.flush {A : Ab} {l : List Slot} {hand k p : Nat} (T : Tru A l hand) (v : Option (Nat × Nat)) (A' : Ab) (hA : A'.pg = up2 A.pg k p v) : Tru A' (flushPL l k p) hand := by
  have hsub : ∀ (j : Nat) (s : Slot), (flushPL l k p)[j]? = some s → s.used = true → l[j]? = some s ∧ hitB k p s = false := fun j s hj hu => by
    unfold flushPL at hj
    cases hf : l.findIdx? (hitB k p) with
    | none =>
      rw [hf] at hj
      exact ⟨hj, List.findIdx?_eq_none_iff.1 hf s (List.mem_of_getElem? hj)⟩
    | some i =>
      rw [hf] at hj
      simp only at hj
      rw [List.getElem?_set] at hj
      obtain ⟨hi, h4, _⟩ := List.findIdx?_eq_some_iff_getElem.1 hf
      by_cases hij : i = j
      · subst hij; rw [if_pos rfl, if_pos hi] at hj; cases hj; cases hu
      · rw [if_neg hij] at hj
        refine ⟨hj, ?_⟩
        cases hb : hitB k p s with
        | false => rfl
        | true =>
          have a := hit_iff.1 h4
          have b := hit_iff.1 hb
          exact absurd (T.un i j l[i] s (by simp [hi]) hj a.1 hu (by rw [a.2.1, b.2.1]) (by rw [a.2.2, b.2.2])) hij
  have hlen : (flushPL l k p).length = l.length := by
    unfold flushPL; cases l.findIdx? (hitB k p) <;> simp
  refine ⟨fun i j s s' h1 h2 u1 u2 => T.un i j s s' (hsub i s h1 u1).1 (hsub j s' h2 u2).1 u1 u2, fun s hs hu => ?_, by rw [hlen]; exact T.ll, by rw [hlen]; exact T.hh⟩
  obtain ⟨j, hj⟩ := List.getElem?_of_mem hs
  obtain ⟨h1, h2⟩ := hsub j s hj hu
  obtain ⟨k', p', x, b1, b2, b3, b4⟩ := T.tr s (List.mem_of_getElem? h1) hu
  refine ⟨k', p', x, b1, b2, ?_, b4⟩
  rw [hA, up2_ne]
  · exact b3
  · rintro ⟨rfl, rfl⟩
    rw [hit_iff.2 ⟨hu, b1, b2⟩] at h2; cases h2
/-- A page that was not there is laid: the table knows nothing of it. -/
theorem Tru.lay {A : Ab} {l : List Slot} {hand : Nat} (T : Tru A l hand) (A' : Ab) (h : ∀ k p x, A.pg k p = some x → A'.pg k p = some x) : Tru A' l hand :=
  ⟨T.un, fun s hs hu => by obtain ⟨k, p, x, b1, b2, b3, b4⟩ := T.tr s hs hu; exact ⟨k, p, x, b1, b2, h k p x b3, b4⟩, T.ll, T.hh⟩
end Go.Proofs.Ytmlfcfbblfcpdaa.Sp
