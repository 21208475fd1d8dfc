/- package page: the plain law of words in tables. -/
import Derived.Test.YtmlfcfbblfcpdaaPg3
namespace Go.Proofs.Ytmlfcfbblfcpdaa.Pg
open Go Go.Sl Go.RowKit Go.Proofs Go.Proofs.Ytmlfcfbblfcpdaa.T Go.Proofs.Ytmlfcfbblfcpdaa.Me Go.Proofs.Ytmlfcfbblfcpdaa.Pe
set_option linter.unusedVariables false
set_option linter.unusedSimpArgs false
set_option maxRecDepth 100000
theorem overB_lo {bs ys : List UInt8} {a p : Nat} (h : p < a) (ha : a + ys.length ≤ bs.length) : (overB bs a ys)[p]? = bs[p]? := by
  unfold overB; rw [List.append_assoc, List.getElem?_append_left (by rw [List.length_take]; omega), List.getElem?_take, if_pos h]
theorem overB_hi {bs ys : List UInt8} {a p : Nat} (h : a + ys.length ≤ p) (ha : a + ys.length ≤ bs.length) : (overB bs a ys)[p]? = bs[p]? := by
  have e : (bs.take a ++ ys).length = a + ys.length := by rw [List.length_append, List.length_take]; omega
  unfold overB; rw [List.getElem?_append_right (by rw [e]; exact h), e, List.getElem?_drop]; congr 1; omega
theorem word_ext {bs cs : List UInt8} {A : Nat} (h : ∀ j, j < 4 → bs[A + j]? = cs[A + j]?) : leN ((bs.drop A).take 4) = leN ((cs.drop A).take 4) := by
  congr 1
  apply List.ext_getElem?
  intro j
  rw [List.getElem?_take, List.getElem?_take]
  split
  · rename_i hj
    rw [List.getElem?_drop, List.getElem?_drop]; exact h j hj
  · rfl
theorem word_st {bs : List UInt8} {n t i v t' i' : Nat} (hl : bs.length = n * 256) (ht : t < n) (hi : i < 64) (ht' : t' < n) (hi' : i' < 64) : word (stW bs t i v) t' i' = if t' = t ∧ i' = i then v % 4294967296 else word bs t' i' := by
  have hp := putB_len v 4
  unfold word stW
  split
  · rename_i h
    obtain ⟨rfl, rfl⟩ := h
    have := overB_at (bs := bs) (ys := putB v 4) (a := t' * 256 + i' * 4) (by omega)
    rw [hp] at this
    rw [this, leN_putB]
  · rename_i h
    refine word_ext fun j hj => ?_
    rcases (show t' * 256 + i' * 4 + j < t * 256 + i * 4 ∨ t * 256 + i * 4 + 4 ≤ t' * 256 + i' * 4 + j by omega) with q | q
    · exact overB_lo q (by omega)
    · exact overB_hi (by omega) (by omega)
theorem stW_len {bs : List UInt8} {n t i v : Nat} (hl : bs.length = n * 256) (ht : t < n) (hi : i < 64) : (stW bs t i v).length = n * 256 := by
  unfold stW; rw [overB_len (by rw [putB_len]; omega), hl]
theorem leN_zeros (k : Nat) : leN (List.replicate k 0) = 0 := by
  induction k with
  | zero => rfl
  | succ k ih => rw [List.replicate_succ]; show (0 : UInt8).toNat + 256 * leN (List.replicate k 0) = 0; rw [ih]; rfl
theorem fillB_nil : fillB [] = List.replicate 256 0 := rfl
theorem word_fill {bs : List UInt8} {n q t' i' : Nat} (hl : bs.length = n * 256) (hq : q < n) (ht' : t' < n) (hi' : i' < 64) : word (overB bs (q * 256) (fillB [])) t' i' = if t' = q then 0 else word bs t' i' := by
  have hf : (fillB []).length = 256 := rfl
  unfold word
  split
  · rename_i h
    subst h
    have e : ((overB bs (t' * 256) (fillB [])).drop (t' * 256 + i' * 4)).take 4 = List.replicate 4 0 := by
      have := overB_at (bs := bs) (ys := fillB []) (a := t' * 256) (by omega)
      rw [hf, fillB_nil] at this
      rw [← List.drop_drop]
      have h2 : ((overB bs (t' * 256) (fillB [])).drop (t' * 256)) = List.replicate 256 0 ++ ((overB bs (t' * 256) (fillB [])).drop (t' * 256)).drop 256 := by
        conv => lhs; rw [← List.take_append_drop 256 ((overB bs (t' * 256) (fillB [])).drop (t' * 256))]
        rw [fillB_nil, this]
      rw [h2, List.drop_append_of_le_length (by simp; omega), List.take_append_of_le_length (by simp; omega), List.drop_replicate, List.take_replicate, show min 4 (256 - i' * 4) = 4 by omega]
    rw [e, leN_zeros]
  · rename_i h
    refine word_ext fun j hj => ?_
    rcases (show t' * 256 + i' * 4 + j < q * 256 ∨ q * 256 + 256 ≤ t' * 256 + i' * 4 + j by omega) with r | r
    · exact overB_lo r (by rw [hf]; omega)
    · exact overB_hi (by rw [hf]; omega) (by rw [hf]; omega)
theorem fill_len {bs : List UInt8} {n q : Nat} (hl : bs.length = n * 256) (hq : q < n) : (overB bs (q * 256) (fillB [])).length = n * 256 := by
  rw [overB_len (by show q * 256 + 256 ≤ _; omega), hl]
theorem sp_entry {f p : Nat} (hf : f < 1024) (hp : p ≤ 7) : entryOf f p = ((1 + p * 2 + f * 256 : Nat) : Int) ∧ sp (1 + p * 2 + f * 256) = ((f : Int), (p : Int), true) := by
  have h1 : entryOf f p = ((1 + p * 2 + f * 256 : Nat) : Int) := by unfold entryOf; rw [if_pos (by omega)]; omega
  have e1 : (1 + p * 2 + f * 256) / 256 = f := by omega
  have e2 : (1 + p * 2 + f * 256) / 2 % 8 = p := by omega
  refine ⟨h1, ?_⟩
  have hi : isEntry ((1 + p * 2 + f * 256 : Nat) : Int) := by
    refine ⟨by omega, ?_⟩
    rw [show ((1 + p * 2 + f * 256 : Nat) : Int) / 256 = (f : Int) by omega, show ((1 + p * 2 + f * 256 : Nat) : Int) / 2 % 8 = (p : Int) by omega]
    exact h1
  unfold sp
  rw [if_pos hi, e1, e2]
theorem sp_zero : sp 0 = (0, 0, false) := by unfold sp; rw [if_neg (fun h => h.1 rfl)]
end Go.Proofs.Ytmlfcfbblfcpdaa.Pg
