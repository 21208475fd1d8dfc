/- TlbKeeps, the plain law: what Put does to the pages that a table holds. -/
import Derived.Test.YtjdaglakhiifjaaTlb
namespace Go.Proofs.Ytjdaglakhiifjaa.Tl
open Go Go.Sl Go.RowKit Go.Proofs Go.Proofs.Ytjdaglakhiifjaa.T
set_option linter.unusedVariables false
set_option linter.unusedSimpArgs false
/-- The pages of the used slots. -/
def up (l : List Slot) : List Int := (l.filter (·.used)).map (·.page)
theorem up_append (a b : List Slot) : up (a ++ b) = up a ++ up b := by simp [up]
theorem up_used {x : Slot} (h : x.used = true) (b : List Slot) : up (x :: b) = x.page :: up b := by simp [up, h]
theorem up_not {x : Slot} (h : x.used = false) (b : List Slot) : up (x :: b) = up b := by simp [up, h]
theorem up_le (l : List Slot) : (up l).length ≤ l.length := by unfold up; rw [List.length_map]; exact List.length_filter_le _ _
/-- How many of B are in A, where A lies in B and neither has anything twice. -/
theorem count_sub : ∀ {A B : List Int}, A.Nodup → B.Nodup → (∀ x ∈ A, x ∈ B) → B.countP (fun x => decide (x ∈ A)) = A.length
  | [], B, _, _, _ => by simp
  | a :: A, B, hA, hB, h => by
    obtain ⟨b1, b2, rfl⟩ := List.append_of_mem (h a (by simp))
    have hp := List.perm_middle (a := a) (l₁ := b1) (l₂ := b2)
    rw [hp.countP_eq]
    have hB' := hp.nodup_iff.1 hB
    obtain ⟨ha1, hA1⟩ := List.nodup_cons.1 hA
    obtain ⟨hb1, hB1⟩ := List.nodup_cons.1 hB'
    have ih := count_sub (A := A) (B := b1 ++ b2) hA1 hB1 (fun x hx => by
      have h1 := hp.mem_iff.1 (h x (by simp [hx]))
      rcases List.mem_cons.1 h1 with rfl | h1
      · exact absurd hx ha1
      · exact h1)
    rw [List.countP_cons_of_pos (by simp), List.length_cons, ← ih]
    congr 1
    apply List.countP_congr
    intro x hx
    have hne : x ≠ a := fun e => hb1 (e ▸ hx)
    simp [hne]
theorem all_in {A B : List Int} (hA : A.Nodup) (hB : B.Nodup) (h : ∀ x ∈ A, x ∈ B) (hl : A.length = B.length) : ∀ x ∈ B, x ∈ A := by
  have := count_sub hA hB h
  rw [hl] at this
  intro x hx
  simpa using List.countP_eq_length.1 this x hx
/-- What the table of the law is: all of one tag, all pages among those that were put, as many as fit. -/
structure Keeps (tag : Int) (n : Nat) (put : List Int) (l : List Slot) : Prop where
  len : l.length = n
  tags : ∀ s ∈ l, s.used = true → s.tag = tag
  sub : ∀ p ∈ up l, p ∈ put
  nd : (up l).Nodup
  pnd : put.Nodup
  cnt : (up l).length = min put.length n
theorem mem_up {l : List Slot} {p : Int} : p ∈ up l ↔ ∃ s ∈ l, s.used = true ∧ s.page = p := by
  unfold up; simp only [List.mem_map, List.mem_filter]; constructor
  · rintro ⟨s, ⟨h1, h2⟩, h3⟩; exact ⟨s, h1, h2, h3⟩
  · rintro ⟨s, h1, h2, h3⟩; exact ⟨s, ⟨h1, h2⟩, h3⟩
theorem find_none {tag page : Int} {l : List Slot} (ht : ∀ s ∈ l, s.used = true → s.tag = tag) : l.findIdx? (hitB tag page) = none ↔ page ∉ up l := by
  rw [List.findIdx?_eq_none_iff, mem_up]
  constructor
  · rintro h ⟨s, h1, h2, h3⟩
    have := h s h1
    simp [hitB, h2, h3, ht s h1 h2] at this
  · intro h s h1
    cases hu : hitB tag page s with
    | false => rfl
    | true =>
      simp only [hitB, Bool.and_eq_true, beq_iff_eq] at hu
      exact absurd ⟨s, h1, hu.1, hu.2.2⟩ h
theorem set_split {l : List Slot} {i : Nat} (h : i < l.length) (s : Slot) : ∃ a b, l = a ++ l[i] :: b ∧ l.set i s = a ++ s :: b := by
  refine ⟨l.take i, l.drop (i + 1), ?_, ?_⟩
  · rw [← List.drop_eq_getElem_cons h, List.take_append_drop]
  · rw [List.set_eq_take_append_cons_drop, if_pos h]
theorem keeps_put {tag page frame perm : Int} {n : Nat} {put put' : List Int} {l : List Slot} {hand : Nat} (hk : Keeps tag n put l) (hh : hand < l.length) (hn : put' = if page ∈ put then put else put ++ [page]) :
    Keeps tag n put' (putL l hand ⟨true, tag, page, frame, perm⟩).1 ∧ (putL l hand ⟨true, tag, page, frame, perm⟩).2 < n := by
  have hlen := hk.len
  have hin : page ∈ put' := by subst hn; split <;> simp_all
  have hsub' : ∀ p ∈ put, p ∈ put' := by subst hn; intro p hp; split <;> simp_all
  have hnd' : put'.Nodup := by
    subst hn; split
    · exact hk.pnd
    · rename_i h
      rw [(List.perm_append_comm (l₁ := put) (l₂ := [page])).nodup_iff]
      exact List.nodup_cons.2 ⟨h, hk.pnd⟩
  have hle := up_le l
  rcases put_cases l tag page with ⟨i, hf, hi⟩ | ⟨hf, i, hg, hi⟩ | ⟨hf, hg⟩
  · have e : putL l hand ⟨true, tag, page, frame, perm⟩ = (l.set i ⟨true, tag, page, frame, perm⟩, hand) := by simp [putL, hf]
    rw [e]
    obtain ⟨h1, h2, _⟩ := List.findIdx?_eq_some_iff_getElem.1 hf
    simp only [hitB, Bool.and_eq_true, beq_iff_eq] at h2
    obtain ⟨a, b, q1, q2⟩ := set_split h1 ⟨true, tag, page, frame, perm⟩
    have hup : up (l.set i ⟨true, tag, page, frame, perm⟩) = up l := by
      rw [q2, up_append, up_used rfl]
      conv => rhs; rw [q1, up_append, up_used h2.1, h2.2.2]
    have hpin : page ∈ put := hk.sub page (mem_up.2 ⟨l[i], List.getElem_mem h1, h2.1, h2.2.2⟩)
    rw [if_pos hpin] at hn
    subst hn
    refine ⟨⟨by simp [hlen], ?_, by rw [hup]; exact hk.sub, by rw [hup]; exact hk.nd, hk.pnd, by rw [hup]; exact hk.cnt⟩, by rw [← hlen]; exact hh⟩
    intro s hs hu
    rcases List.mem_or_eq_of_mem_set hs with h | h
    · exact hk.tags s h hu
    · subst h; rfl
  · have e : putL l hand ⟨true, tag, page, frame, perm⟩ = (l.set i ⟨true, tag, page, frame, perm⟩, hand) := by simp [putL, hf, hg]
    rw [e]
    obtain ⟨h1, h2, _⟩ := List.findIdx?_eq_some_iff_getElem.1 hg
    have h2 : l[i].used = false := by simpa using h2
    obtain ⟨a, b, q1, q2⟩ := set_split h1 ⟨true, tag, page, frame, perm⟩
    have hno := (find_none hk.tags).1 hf
    have hup0 : up l = up a ++ up b := by conv => lhs; rw [q1, up_append, up_not h2]
    have hup : up (l.set i ⟨true, tag, page, frame, perm⟩) = up a ++ page :: up b := by rw [q2, up_append, up_used rfl]
    have hperm : (up a ++ page :: up b).Perm (page :: up l) := by rw [hup0]; exact List.perm_middle
    have hll : (up l).length < n := by
      have e1 := congrArg List.length q1
      have := up_le a; have := up_le b
      rw [hup0, List.length_append]
      simp only [List.length_append, List.length_cons] at e1
      omega
    have hnp : page ∉ put := fun hp => hno (all_in hk.nd hk.pnd hk.sub (by have := hk.cnt; omega) page hp)
    rw [if_neg hnp] at hn
    refine ⟨⟨by simp [hlen], ?_, ?_, ?_, hnd', ?_⟩, by rw [← hlen]; exact hh⟩
    · intro s hs hu
      rcases List.mem_or_eq_of_mem_set hs with h | h
      · exact hk.tags s h hu
      · subst h; rfl
    · intro p hp
      rw [hup] at hp
      rcases List.mem_cons.1 (hperm.mem_iff.1 hp) with rfl | h
      · exact hin
      · exact hsub' p (hk.sub p h)
    · rw [hup, hperm.nodup_iff]; exact List.nodup_cons.2 ⟨hno, hk.nd⟩
    · rw [hup, hperm.length_eq, List.length_cons, hn, List.length_append]
      have := hk.cnt
      simp only [List.length_cons, List.length_nil]; omega
  · have e : putL l hand ⟨true, tag, page, frame, perm⟩ = (l.set hand ⟨true, tag, page, frame, perm⟩, (hand + 1) % l.length) := by simp [putL, hf, hg]
    rw [e]
    have hall : ∀ s ∈ l, s.used = true := fun s hs => by simpa using List.findIdx?_eq_none_iff.1 hg s hs
    have hul : (up l).length = n := by
      unfold up
      rw [List.length_map, List.filter_eq_self.2 hall, hlen]
    obtain ⟨a, b, q1, q2⟩ := set_split hh ⟨true, tag, page, frame, perm⟩
    have hno := (find_none hk.tags).1 hf
    have hx := hall l[hand] (List.getElem_mem hh)
    have hup0 : up l = up a ++ l[hand].page :: up b := by conv => lhs; rw [q1, up_append, up_used hx]
    have hup : up (l.set hand ⟨true, tag, page, frame, perm⟩) = up a ++ page :: up b := by rw [q2, up_append, up_used rfl]
    have hperm : (up a ++ page :: up b).Perm (page :: (up a ++ up b)) := List.perm_middle
    have hperm0 : (up l).Perm (l[hand].page :: (up a ++ up b)) := by rw [hup0]; exact List.perm_middle
    have hnd0 := hperm0.nodup_iff.1 hk.nd
    refine ⟨⟨by simp [hlen], ?_, ?_, ?_, hnd', ?_⟩, by rw [hlen]; exact Nat.mod_lt _ (by omega)⟩
    · intro s hs hu
      rcases List.mem_or_eq_of_mem_set hs with h | h
      · exact hk.tags s h hu
      · subst h; rfl
    · intro p hp
      rw [hup] at hp
      rcases List.mem_cons.1 (hperm.mem_iff.1 hp) with rfl | h
      · exact hin
      · exact hsub' p (hk.sub p (hperm0.mem_iff.2 (by simp [List.mem_cons, h])))
    · rw [hup, hperm.nodup_iff]
      refine List.nodup_cons.2 ⟨fun h => hno (hperm0.mem_iff.2 (List.mem_cons_of_mem _ h)), (List.nodup_cons.1 hnd0).2⟩
    · rw [hup, hperm.length_eq]
      have h1 := hperm0.length_eq
      simp only [List.length_cons] at h1 ⊢
      have := hk.cnt
      have hpl : put.length ≤ put'.length := by subst hn; split <;> simp
      omega
end Go.Proofs.Ytjdaglakhiifjaa.Tl
