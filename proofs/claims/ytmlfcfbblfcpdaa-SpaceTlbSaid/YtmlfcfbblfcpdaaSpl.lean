/- Spaces of several partitions in one memory: who has which frame, and what stores do. Plain law, no program in sight. -/
import Derived.Test.YtmlfcfbblfcpdaaPgw
import Derived.Test.YtmlfcfbblfcpdaaFheld
import Derived.Test.YtmlfcfbblfcpdaaTlb
namespace Go.Proofs.Ytmlfcfbblfcpdaa.Sp
open Go Go.Sl Go.RowKit Go.Proofs Go.Proofs.Ytmlfcfbblfcpdaa.T Go.Proofs.Ytmlfcfbblfcpdaa.Me Go.Proofs.Ytmlfcfbblfcpdaa.Pe Go.Proofs.Ytmlfcfbblfcpdaa.Pg
open Go.Proofs.Ytmlfcfbblfcpdaa.Fz (cnt cnt_set)
open Go.Proofs.Ytmlfcfbblfcpdaa.Tl (Slot hitB putL flushPL put_cases)
set_option linter.unusedVariables false
set_option linter.unusedSimpArgs false
set_option maxRecDepth 100000
/-! ### frames of bytes -/
theorem frB_get {bs : List UInt8} {k j : Nat} (hj : j < 256) : (frB bs k)[j]? = bs[k * 256 + j]? := by
  unfold frB; rw [List.getElem?_take, if_pos hj, List.getElem?_drop]
theorem fr_ext {bs cs : List UInt8} {t u : Nat} (h : ∀ j, j < 256 → cs[u * 256 + j]? = bs[t * 256 + j]?) : frB cs u = frB bs t := by
  apply List.ext_getElem?
  intro j
  by_cases hj : j < 256
  · rw [frB_get hj, frB_get hj, h j hj]
  · unfold frB; rw [List.getElem?_take, if_neg hj, List.getElem?_take, if_neg hj]
theorem word_fr (bs : List UInt8) (t i : Nat) (hi : i < 64) : word bs t i = leN (((frB bs t).drop (i * 4)).take 4) := by
  unfold word frB
  rw [List.drop_take, List.drop_drop, List.take_take, show min 4 (256 - i * 4) = 4 by omega]
theorem same_of_fr {bs cs : List UInt8} {t : Nat} (h : frB cs t = frB bs t) : same bs cs t := fun i hi => by rw [word_fr cs t i hi, h, word_fr bs t i hi]
/-- Bytes are written within the frame q alone. -/
structure Only (n : Nat) (bs cs : List UInt8) (q : Nat) : Prop where
  len : cs.length = n * 256
  oth : ∀ t, t < n → t ≠ q → frB cs t = frB bs t
theorem only_over {n : Nat} {bs ys : List UInt8} {q a : Nat} (hl : bs.length = n * 256) (hq : q < n) (ha : q * 256 ≤ a ∧ a + ys.length ≤ q * 256 + 256) : Only n bs (overB bs a ys) q := by
  refine ⟨by rw [overB_len (by omega), hl], fun t ht hne => fr_ext fun j hj => ?_⟩
  rcases (show t * 256 + j < a ∨ a + ys.length ≤ t * 256 + j by rcases Nat.lt_or_gt_of_ne hne with h | h <;> omega) with r | r
  · exact overB_lo r (by omega)
  · exact overB_hi r (by omega)
theorem only_st {n : Nat} {bs : List UInt8} {q i v : Nat} (hl : bs.length = n * 256) (hq : q < n) (hi : i < 64) : Only n bs (stW bs q i v) q := by
  have hp := putB_len v 4
  exact only_over hl hq (by omega)
theorem only_fill {n : Nat} {bs ws : List UInt8} {q : Nat} (hl : bs.length = n * 256) (hq : q < n) (hw : ws.length ≤ 256) : Only n bs (overB bs (q * 256) (fillB ws)) q := by
  have := fillB_len hw
  exact only_over hl hq (by omega)
theorem fr_fill {bs ws : List UInt8} {q : Nat} (h : q * 256 ≤ bs.length) (hw : ws.length ≤ 256) : frB (overB bs (q * 256) (fillB ws)) q = fillB ws := by
  have := overB_at (bs := bs) (ys := fillB ws) (a := q * 256) h
  rw [fillB_len hw] at this; exact this
theorem fr_over {n : Nat} {bs ys : List UInt8} {q o : Nat} (hl : bs.length = n * 256) (hq : q < n) (ho : o + ys.length ≤ 256) : frB (overB bs (q * 256 + o) ys) q = overB (frB bs q) o ys := by
  have hfl : (frB bs q).length = 256 := frB_len hl hq
  apply List.ext_getElem?
  intro j
  by_cases hj : j < 256
  · rw [frB_get hj]
    unfold overB
    by_cases h1 : j < o
    · rw [List.append_assoc, List.append_assoc, List.getElem?_append_left (by rw [List.length_take]; omega), List.getElem?_take, if_pos (by omega), List.getElem?_append_left (by rw [List.length_take]; omega), List.getElem?_take, if_pos h1, frB_get hj]
    · have e1 : (bs.take (q * 256 + o)).length = q * 256 + o := by rw [List.length_take]; omega
      have e2 : ((frB bs q).take o).length = o := by rw [List.length_take]; omega
      have eL : (bs.take (q * 256 + o) ++ ys ++ bs.drop (q * 256 + o + ys.length))[q * 256 + j]? = (ys ++ bs.drop (q * 256 + o + ys.length))[j - o]? := by
        rw [List.append_assoc, List.getElem?_append_right (by omega), e1, show q * 256 + j - (q * 256 + o) = j - o by omega]
      have eR : ((frB bs q).take o ++ ys ++ (frB bs q).drop (o + ys.length))[j]? = (ys ++ (frB bs q).drop (o + ys.length))[j - o]? := by
        rw [List.append_assoc, List.getElem?_append_right (by omega), e2]
      rw [eL, eR]
      by_cases h2 : j - o < ys.length
      · rw [List.getElem?_append_left h2, List.getElem?_append_left h2]
      · rw [List.getElem?_append_right (by omega), List.getElem?_append_right (by omega), List.getElem?_drop, List.getElem?_drop, show o + ys.length + (j - o - ys.length) = j by omega, frB_get hj, show q * 256 + o + ys.length + (j - o - ys.length) = q * 256 + j by omega]
  · have e1 : (overB (frB bs q) o ys).length = 256 := by rw [overB_len (by omega), hfl]
    have e0 : (overB (frB bs q) o ys)[j]? = none := List.getElem?_eq_none (by rw [e1]; omega)
    rw [e0]
    unfold frB; rw [List.getElem?_take, if_neg hj]
/-! ### counting -/
def cN (f : Nat → Bool) : Nat → Nat
  | 0 => 0
  | m + 1 => cN f m + if f m then 1 else 0
theorem cN_congr {f g : Nat → Bool} : ∀ m, (∀ q, q < m → f q = g q) → cN f m = cN g m
  | 0, _ => rfl
  | m + 1, h => by unfold cN; rw [cN_congr m fun q hq => h q (by omega), h m (by omega)]
theorem cN_le (f : Nat → Bool) : ∀ m, cN f m ≤ m
  | 0 => Nat.le_refl _
  | m + 1 => by unfold cN; have := cN_le f m; split <;> omega
theorem cN_upd {f g : Nat → Bool} {i : Nat} (h : ∀ q, q ≠ i → g q = f q) : ∀ m, i < m → cN g m + (if f i then 1 else 0) = cN f m + (if g i then 1 else 0)
  | 0, h0 => by omega
  | m + 1, hm => by
    unfold cN
    by_cases hi : i = m
    · subst hi
      rw [cN_congr i fun q hq => h q (by omega)]; omega
    · have := cN_upd h m (by omega)
      rw [h m (fun q => hi q.symm)]; omega
/-! ### who has which frame -/
structure Ab where
  rt : Nat → Option Nat
  tb : Nat → Nat → Option Nat
  pg : Nat → Nat → Option (Nat × Nat)
  hs : List (Nat × Nat)
inductive Role where
  | root (k : Nat)
  | tab (k g : Nat)
  | page (k p : Nat)
  | hand (f k : Nat)
def Ab.fr (A : Ab) : Role → Option Nat
  | .root k => A.rt k
  | .tab k g => A.tb k g
  | .page k p => (A.pg k p).map (·.1)
  | .hand f k => if (f, k) ∈ A.hs then some f else none
def Role.pt : Role → Nat
  | .root k => k
  | .tab k _ => k
  | .page k _ => k
  | .hand _ k => k
def up2 {α : Type} (h : Nat → Nat → α) (k p : Nat) (v : α) : Nat → Nat → α := fun k' p' => if k' = k ∧ p' = p then v else h k' p'
theorem up2_at {α : Type} {h : Nat → Nat → α} {k p : Nat} {v : α} : up2 h k p v k p = v := if_pos ⟨rfl, rfl⟩
theorem up2_ne {α : Type} {h : Nat → Nat → α} {k p k' p' : Nat} {v : α} (hne : ¬(k' = k ∧ p' = p)) : up2 h k p v k' p' = h k' p' := if_neg hne
structure Rep (n : Nat) (bs : List UInt8) (A : Ab) : Prop where
  len : bs.length = n * 256
  tree : ∀ k r, A.rt k = some r → Tree n bs r ∧ (∀ g, g < 64 → tab n bs r g = A.tb k g) ∧ ∀ p, p < 4096 → wk n bs r p = A.pg k p
  rw : ∀ k r g, A.rt k = some r → g < 64 → (ent (word bs r g)).isSome = (A.tb k g).isSome
  tb0 : ∀ k g q, A.tb k g = some q → g < 64 ∧ ∃ r, A.rt k = some r
  pg0 : ∀ k p x, A.pg k p = some x → p < 4096 ∧ ∃ r, A.rt k = some r
structure Own (own : List Int) (A : Ab) : Prop where
  inj : ∀ ρ ρ' f, A.fr ρ = some f → A.fr ρ' = some f → ρ = ρ'
  ow : ∀ ρ f, A.fr ρ = some f → own[f]? = some ((ρ.pt : Nat) : Int)
  nd : (A.hs.map (·.1)).Nodup
  cnt : ∀ k : Nat, cnt own k = (if (A.rt k).isSome then 1 else 0) + cN (fun g => (A.tb k g).isSome) 64 + cN (fun p => (A.pg k p).isSome) 4096 + (A.hs.filter fun h => decide (h.2 = k)).length
theorem Own.free {own : List Int} {A : Ab} (O : Own own A) {f : Nat} (h : own[f]? = some (-1)) (ρ : Role) : A.fr ρ ≠ some f := fun e => by
  have := O.ow ρ f e
  rw [h] at this
  have := Option.some.inj this
  omega
theorem Own.take {own : List Int} {A : Ab} (O : Own own A) {f : Nat} (k : Nat) (h : own[f]? = some (-1)) : Own (own.set f k) { A with hs := (f, k) :: A.hs } := by
  have hlt : f < own.length := (List.getElem?_eq_some_iff.1 h).1
  have old : ∀ ρ x, ({ A with hs := (f, k) :: A.hs } : Ab).fr ρ = some x → A.fr ρ = some x ∧ x ≠ f ∨ ρ = .hand f k ∧ x = f := fun ρ x hx => by
    have keep : A.fr ρ = some x → A.fr ρ = some x ∧ x ≠ f := fun e => ⟨e, fun q => O.free h ρ (by rw [e, q])⟩
    cases ρ with
    | root _ => exact .inl (keep hx)
    | tab _ _ => exact .inl (keep hx)
    | page _ _ => exact .inl (keep hx)
    | hand f' k' =>
      simp only [Ab.fr, List.mem_cons] at hx
      split at hx
      · rename_i hm
        cases hx
        rcases hm with hm | hm
        · simp only [Prod.mk.injEq] at hm; obtain ⟨rfl, rfl⟩ := hm; exact .inr ⟨rfl, rfl⟩
        · exact .inl (keep (by simp only [Ab.fr]; rw [if_pos hm]))
      · cases hx
  refine ⟨fun ρ ρ' x h1 h2 => ?_, fun ρ x h1 => ?_, ?_, fun k' => ?_⟩
  · rcases old ρ x h1 with ⟨a1, a2⟩ | ⟨rfl, a2⟩ <;> rcases old ρ' x h2 with ⟨b1, b2⟩ | ⟨rfl, b2⟩
    · exact O.inj ρ ρ' x a1 b1
    · exact absurd b2 a2
    · exact absurd a2 b2
    · rfl
  · rcases old ρ x h1 with ⟨a1, a2⟩ | ⟨rfl, rfl⟩
    · rw [List.getElem?_set_ne (fun q => a2 q.symm)]; exact O.ow ρ x a1
    · rw [List.getElem?_set_self hlt]; rfl
  · rw [List.map_cons, List.nodup_cons]
    refine ⟨fun hm => ?_, O.nd⟩
    obtain ⟨⟨f', k'⟩, h1, rfl⟩ := List.mem_map.1 hm
    exact O.free h (.hand f' k') (by simp only [Ab.fr]; rw [if_pos h1])
  · have e1 : ¬ (-1 : Int) = (k' : Int) := by omega
    have e2 : ((k : Int) = (k' : Int)) = (k = k') := propext ⟨fun q => by omega, fun q => by omega⟩
    rw [cnt_set h, O.cnt k', List.filter_cons]
    by_cases hk : k = k'
    · subst hk; simp only [decide_true, if_true, List.length_cons, e1, if_false]; omega
    · simp only [e1, e2, hk, if_false, decide_false]; simp
theorem Own.give {own : List Int} {A : Ab} {f k : Nat} {hs : List (Nat × Nat)} (O : Own own A) (hA : A.hs = (f, k) :: hs) : Own (own.set f (-1)) { A with hs := hs } ∧ own[f]? = some (k : Int) := by
  have hf : A.fr (.hand f k) = some f := by simp only [Ab.fr, hA]; rw [if_pos List.mem_cons_self]
  have hk : own[f]? = some ((k : Nat) : Int) := O.ow _ _ hf
  have hnd := O.nd
  rw [hA, List.map_cons, List.nodup_cons] at hnd
  have old : ∀ ρ x, ({ A with hs := hs } : Ab).fr ρ = some x → A.fr ρ = some x ∧ x ≠ f := fun ρ x hx => by
    have e : A.fr ρ = some x ∧ ρ ≠ .hand f k := by
      cases ρ with
      | root _ => exact ⟨hx, by simp⟩
      | tab _ _ => exact ⟨hx, by simp⟩
      | page _ _ => exact ⟨hx, by simp⟩
      | hand f' k' =>
        simp only [Ab.fr] at hx ⊢
        split at hx
        · rename_i hm
          refine ⟨by rw [hA, if_pos (List.mem_cons_of_mem _ hm)]; exact hx, fun q => ?_⟩
          cases q
          exact hnd.1 (List.mem_map.2 ⟨_, hm, rfl⟩)
        · cases hx
    exact ⟨e.1, fun q => e.2 (O.inj _ _ f (by rw [e.1, q]) hf)⟩
  refine ⟨⟨fun ρ ρ' x h1 h2 => O.inj ρ ρ' x (old ρ x h1).1 (old ρ' x h2).1, fun ρ x h1 => ?_, hnd.2, fun k' => ?_⟩, hk⟩
  · rw [List.getElem?_set_ne (fun q => (old ρ x h1).2 q.symm)]; exact O.ow ρ x (old ρ x h1).1
  · rw [cnt_set hk, O.cnt k', hA, List.filter_cons]
    have e1 : ¬ (-1 : Int) = (k' : Int) := by omega
    have e2 : ((k : Int) = (k' : Int)) = (k = k') := propext ⟨fun q => by omega, fun q => by omega⟩
    by_cases hkk : k = k'
    · subst hkk; simp only [decide_true, if_true, List.length_cons, e1, if_false]; omega
    · simp only [e1, e2, hkk, if_false, decide_false]; simp
/-- Roles that are named anew. -/
theorem Own.map {own : List Int} {A A' : Ab} (O : Own own A) (ψ : Role → Role) (h : ∀ ρ x, A'.fr ρ = some x → ∃ ρ0, A.fr ρ0 = some x ∧ ρ0.pt = ρ.pt ∧ ψ ρ0 = ρ) (hn : (A'.hs.map (·.1)).Nodup)
    (hc : ∀ k : Nat, (if (A'.rt k).isSome then 1 else 0) + cN (fun g => (A'.tb k g).isSome) 64 + cN (fun p => (A'.pg k p).isSome) 4096 + (A'.hs.filter fun h => decide (h.2 = k)).length = (if (A.rt k).isSome then 1 else 0) + cN (fun g => (A.tb k g).isSome) 64 + cN (fun p => (A.pg k p).isSome) 4096 + (A.hs.filter fun h => decide (h.2 = k)).length) : Own own A' := by
  refine ⟨fun ρ ρ' f a b => ?_, fun ρ f a => ?_, hn, fun k => by rw [O.cnt k, hc k]⟩
  · obtain ⟨r1, a1, a2, a3⟩ := h ρ f a
    obtain ⟨r2, b1, b2, b3⟩ := h ρ' f b
    rw [← a3, ← b3, O.inj r1 r2 f a1 b1]
  · obtain ⟨r1, a1, a2, a3⟩ := h ρ f a
    rw [← a2]; exact O.ow r1 f a1
theorem mem_ne {hs : List (Nat × Nat)} {f k f' k' : Nat} (h : (((f, k) :: hs).map (·.1)).Nodup) (hm : (f', k') ∈ hs) : f' ≠ f := fun q => by
  rw [List.map_cons, List.nodup_cons] at h
  exact h.1 (q ▸ List.mem_map.2 ⟨_, hm, rfl⟩)
theorem cons_count (hs : List (Nat × Nat)) (f k k' : Nat) : (((f, k) :: hs).filter fun h => decide (h.2 = k')).length = (hs.filter fun h => decide (h.2 = k')).length + if k = k' then 1 else 0 := by
  rw [List.filter_cons]
  by_cases h : k = k' <;> simp [h]
theorem cN_up2 {α : Type} {h : Nat → Nat → Option α} {k p k' m : Nat} {v : Option α} (hp : p < m) : cN (fun q => (up2 h k p v k' q).isSome) m + (if k = k' ∧ (h k p).isSome then 1 else 0) = cN (fun q => (h k' q).isSome) m + (if k = k' ∧ v.isSome then 1 else 0) := by
  by_cases hk : k = k'
  · subst hk
    have := cN_upd (f := fun q => (h k q).isSome) (g := fun q => (up2 h k p v k q).isSome) (i := p) (fun q hq => by show (up2 h k p v k q).isSome = _; rw [up2_ne (by omega)]) m hp
    simp only [up2_at] at this
    simpa using this
  · rw [cN_congr (f := fun q => (up2 h k p v k' q).isSome) (g := fun q => (h k' q).isSome) m fun q _ => by show (up2 h k p v k' q).isSome = _; rw [up2_ne (by omega)]]
    simp [hk]
/-- A frame in hand becomes a page. -/
theorem Own.toPage {own : List Int} {A : Ab} {f k p m : Nat} {hs : List (Nat × Nat)} (O : Own own A) (hA : A.hs = (f, k) :: hs) (hp : p < 4096) (h0 : A.pg k p = none) : Own own { A with pg := up2 A.pg k p (some (f, m)), hs := hs } := by
  have hnd := O.nd
  rw [hA] at hnd
  refine O.map (fun ρ => match ρ with | .hand f' k' => if f' = f then .page k p else .hand f' k' | ρ => ρ) (fun ρ x hx => ?_) (List.nodup_cons.1 hnd).2 fun k' => ?_
  · cases ρ with
    | root k' => exact ⟨.root k', hx, rfl, rfl⟩
    | tab k' g => exact ⟨.tab k' g, hx, rfl, rfl⟩
    | page k' p' =>
      simp only [Ab.fr, up2] at hx
      split at hx
      · rename_i h; obtain ⟨rfl, rfl⟩ := h; cases hx
        exact ⟨.hand f k', by simp only [Ab.fr, hA]; rw [if_pos List.mem_cons_self], rfl, by simp⟩
      · exact ⟨.page k' p', hx, rfl, rfl⟩
    | hand f' k' =>
      simp only [Ab.fr] at hx
      split at hx
      · rename_i h; cases hx
        exact ⟨.hand _ k', by simp only [Ab.fr, hA]; rw [if_pos (List.mem_cons_of_mem _ h)], rfl, by simp [mem_ne hnd h]⟩
      · cases hx
  · have := cN_up2 (h := A.pg) (k := k) (p := p) (k' := k') (v := some (f, m)) hp
    rw [h0] at this
    rw [hA, cons_count]
    simp only [Option.isSome_none, Option.isSome_some, Bool.false_eq_true, and_false, if_false, and_true] at this ⊢
    omega
/-- A page is taken away: its frame is in hand. -/
theorem Own.fromPage {own : List Int} {A : Ab} {k p : Nat} {x : Nat × Nat} (O : Own own A) (hp : p < 4096) (h0 : A.pg k p = some x) : Own own { A with pg := up2 A.pg k p none, hs := (x.1, k) :: A.hs } := by
  have hpf : A.fr (.page k p) = some x.1 := by simp only [Ab.fr, h0]; rfl
  have hne : ∀ f' k', (f', k') ∈ A.hs → f' ≠ x.1 := fun f' k' hm q => by
    have := O.inj (.hand f' k') (.page k p) x.1 (by simp only [Ab.fr]; rw [if_pos hm, q]) hpf
    cases this
  refine O.map (fun ρ => match ρ with | .page k' p' => if k' = k ∧ p' = p then .hand x.1 k else .page k' p' | ρ => ρ) (fun ρ y hx => ?_) ?_ fun k' => ?_
  · cases ρ with
    | root k' => exact ⟨.root k', hx, rfl, rfl⟩
    | tab k' g => exact ⟨.tab k' g, hx, rfl, rfl⟩
    | page k' p' =>
      simp only [Ab.fr, up2] at hx
      split at hx
      · cases hx
      · rename_i h; exact ⟨.page k' p', hx, rfl, if_neg h⟩
    | hand f' k' =>
      simp only [Ab.fr, List.mem_cons] at hx
      split at hx
      · rename_i h; cases hx
        rcases h with h | h
        · simp only [Prod.mk.injEq] at h; obtain ⟨rfl, rfl⟩ := h
          exact ⟨.page k' p, hpf, rfl, if_pos ⟨rfl, rfl⟩⟩
        · exact ⟨.hand _ k', by simp only [Ab.fr]; rw [if_pos h], rfl, rfl⟩
      · cases hx
  · rw [List.map_cons, List.nodup_cons]
    refine ⟨fun hm => ?_, O.nd⟩
    obtain ⟨⟨f', k'⟩, h1, h2⟩ := List.mem_map.1 hm
    exact hne f' k' h1 h2
  · have := cN_up2 (h := A.pg) (k := k) (p := p) (k' := k') (v := none) hp
    rw [h0] at this
    rw [cons_count]
    simp only [Option.isSome_none, Option.isSome_some, Bool.false_eq_true, and_false, if_false, and_true] at this ⊢
    omega
/-- A frame in hand becomes a second table. -/
theorem Own.toTab {own : List Int} {A : Ab} {f k g : Nat} {hs : List (Nat × Nat)} (O : Own own A) (hA : A.hs = (f, k) :: hs) (hg : g < 64) (h0 : A.tb k g = none) : Own own { A with tb := up2 A.tb k g (some f), hs := hs } := by
  have hnd := O.nd
  rw [hA] at hnd
  refine O.map (fun ρ => match ρ with | .hand f' k' => if f' = f then .tab k g else .hand f' k' | ρ => ρ) (fun ρ x hx => ?_) (List.nodup_cons.1 hnd).2 fun k' => ?_
  · cases ρ with
    | root k' => exact ⟨.root k', hx, rfl, rfl⟩
    | page k' p => exact ⟨.page k' p, hx, rfl, rfl⟩
    | tab k' g' =>
      simp only [Ab.fr, up2] at hx
      split at hx
      · rename_i h; obtain ⟨rfl, rfl⟩ := h; cases hx
        exact ⟨.hand f k', by simp only [Ab.fr, hA]; rw [if_pos List.mem_cons_self], rfl, by simp⟩
      · exact ⟨.tab k' g', hx, rfl, rfl⟩
    | hand f' k' =>
      simp only [Ab.fr] at hx
      split at hx
      · rename_i h; cases hx
        exact ⟨.hand _ k', by simp only [Ab.fr, hA]; rw [if_pos (List.mem_cons_of_mem _ h)], rfl, by simp [mem_ne hnd h]⟩
      · cases hx
  · have := cN_up2 (h := A.tb) (k := k) (p := g) (k' := k') (v := some f) hg
    rw [h0] at this
    rw [hA, cons_count]
    simp only [Option.isSome_none, Option.isSome_some, Bool.false_eq_true, and_false, if_false, and_true] at this ⊢
    omega
/-- A frame in hand becomes a root. -/
theorem Own.toRoot {own : List Int} {A : Ab} {f k : Nat} {hs : List (Nat × Nat)} (O : Own own A) (hA : A.hs = (f, k) :: hs) (h0 : A.rt k = none) : Own own { A with rt := fun k' => if k' = k then some f else A.rt k', hs := hs } := by
  have hnd := O.nd
  rw [hA] at hnd
  refine O.map (fun ρ => match ρ with | .hand f' k' => if f' = f then .root k else .hand f' k' | ρ => ρ) (fun ρ x hx => ?_) (List.nodup_cons.1 hnd).2 fun k' => ?_
  · cases ρ with
    | page k' p => exact ⟨.page k' p, hx, rfl, rfl⟩
    | tab k' g' => exact ⟨.tab k' g', hx, rfl, rfl⟩
    | root k' =>
      simp only [Ab.fr] at hx
      split at hx
      · rename_i h; subst h; cases hx
        exact ⟨.hand f k', by simp only [Ab.fr, hA]; rw [if_pos List.mem_cons_self], rfl, by simp⟩
      · exact ⟨.root k', hx, rfl, rfl⟩
    | hand f' k' =>
      simp only [Ab.fr] at hx
      split at hx
      · rename_i h; cases hx
        exact ⟨.hand _ k', by simp only [Ab.fr, hA]; rw [if_pos (List.mem_cons_of_mem _ h)], rfl, by simp [mem_ne hnd h]⟩
      · cases hx
  · rw [hA, cons_count]
    dsimp only
    by_cases hk : k' = k
    · subst hk; simp [h0]; omega
    · have hk2 : ¬ k = k' := fun q => hk q.symm
      simp [hk, hk2]
/-- A page's rights are changed. -/
theorem Own.perm {own : List Int} {A : Ab} {k p m : Nat} {x : Nat × Nat} (O : Own own A) (hp : p < 4096) (h0 : A.pg k p = some x) : Own own { A with pg := up2 A.pg k p (some (x.1, m)) } := by
  refine O.map id (fun ρ y hx => ⟨ρ, ?_, rfl, rfl⟩) O.nd fun k' => ?_
  · cases ρ with
    | page k' p' =>
      simp only [Ab.fr, up2] at hx ⊢
      split at hx
      · rename_i h; obtain ⟨rfl, rfl⟩ := h; rw [h0]; exact hx
      · exact hx
    | _ => exact hx
  · have := cN_up2 (h := A.pg) (k := k) (p := p) (k' := k') (v := some (x.1, m)) hp
    rw [h0] at this
    simp only [Option.isSome_some, and_true] at this ⊢
    omega
end Go.Proofs.Ytmlfcfbblfcpdaa.Sp
