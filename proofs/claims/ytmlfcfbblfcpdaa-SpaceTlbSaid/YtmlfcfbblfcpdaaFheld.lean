/- frames: Held, Clone, and what any Take or Give comes to. -/
import Derived.Test.YtmlfcfbblfcpdaaFrames
namespace Go.Proofs.Ytmlfcfbblfcpdaa.Fz
open Go Go.Sl Go.RowKit Go.Proofs Go.Proofs.Ytmlfcfbblfcpdaa.T
set_option linter.unusedVariables false
set_option linter.unusedSimpArgs false
set_option maxRecDepth 100000
/-- Whose frames below i are somebody's. -/
def heldI (own : List Int) (p : Int) (i : Nat) : List Int := ((List.range i).filter fun n => decide (own[n]? = some p)).map Int.ofNat
theorem heldI_succ {own : List Int} {p x : Int} {i : Nat} (h : own[i]? = some x) : heldI own p (i + 1) = if x = p then heldI own p i ++ [(i : Int)] else heldI own p i := by
  unfold heldI
  rw [List.range_succ, List.filter_append, List.map_append]
  by_cases hx : x = p
  · rw [if_pos hx]; simp [h, hx]
  · rw [if_neg hx]; simp [h, hx]
theorem heldI_len {own : List Int} {p : Int} : ∀ {i : Nat}, i ≤ own.length → (heldI own p i).length = cnt (own.take i) p
  | 0, _ => by simp [heldI, cnt]
  | i + 1, hi => by
    have hget : own[i]? = some own[i] := by simp [show i < own.length by omega]
    rw [heldI_succ hget, cnt_take hget]
    have ih := heldI_len (own := own) (p := p) (i := i) (by omega)
    by_cases hx : own[i] = p
    · rw [if_pos hx, if_pos hx, List.length_append, ih]; rfl
    · rw [if_neg hx, if_neg hx, ih]; rfl
theorem heldI_mem {own : List Int} {p y : Int} {i : Nat} : y ∈ heldI own p i ↔ ∃ n : Nat, y = n ∧ n < i ∧ own[n]? = some p := by
  unfold heldI
  simp only [List.mem_map, List.mem_filter, List.mem_range, decide_eq_true_eq]
  constructor
  · rintro ⟨n, ⟨h1, h2⟩, rfl⟩; exact ⟨n, rfl, h1, h2⟩
  · rintro ⟨n, rfl, h1, h2⟩; exact ⟨n, ⟨h1, h2⟩, rfl⟩
theorem heldI_nodup (own : List Int) (p : Int) (i : Nat) : (heldI own p i).Nodup := by
  unfold heldI
  refine List.Pairwise.map (R := (· ≠ ·)) _ (fun a b h q => h (Int.ofNat.inj q)) ?_
  exact List.Pairwise.filter _ List.nodup_range
/-- A partition's frames. -/
def held (own qs : List Int) (p : Int) : List Int := if isP qs p then heldI own p own.length else []
theorem held_len {own qs : List Int} {p : Int} (h : isP qs p) : (held own qs p).length = cnt own p := by
  unfold held; rw [if_pos h, heldI_len (Nat.le_refl _), List.take_length]
theorem held_at {own qs : List Int} {p : Int} {k : Nat} (h : isP qs p) (hk : k < (held own qs p).length) : ∃ n : Nat, (held own qs p)[k]? = some (n : Int) ∧ own[n]? = some p := by
  have hg : (held own qs p)[k]? = some (held own qs p)[k] := List.getElem?_eq_getElem hk
  have hm := List.mem_of_getElem? hg
  have e : held own qs p = heldI own p own.length := by unfold held; rw [if_pos h]
  generalize (held own qs p)[k] = y at hg hm
  rw [e, heldI_mem] at hm
  obtain ⟨n, rfl, _, ho⟩ := hm
  exact ⟨n, hg, ho⟩
section
variable (W0 : World) (Fr : List HProp)
theorem fc_setq {own qs : List Int} {p : PA} {a : Option Addr} {c : Nat} (hl : own.length ≤ 1024) : (fcells own qs p).set 1025 (.slice a qs.length c) = fcells own qs (a, c) := by
  unfold fcells; rw [List.set_append_right _ _ (by rw [owC_len hl]; omega), owC_len hl]; rfl
theorem fc_ones {own qs : List Int} {p : PA} : ∀ v ∈ fcells own qs p, one v = true := by
  intro v hv
  unfold fcells at hv
  rw [List.mem_append] at hv
  rcases hv with hv | hv
  · exact iv_ones _ v hv
  · simp only [List.mem_cons, List.not_mem_nil, or_false] at hv
    rcases hv with rfl | rfl <;> rfl
structure Like (qs own own' : List Int) (p : Int) : Prop where
  inv : Inv own' qs
  len : own'.length = own.length
  oth : ∀ k, k ≠ p → k ≠ -1 → cnt own' k = cnt own k
theorem like_refl {qs own : List Int} (p : Int) (h : Inv own qs) : Like qs own own p := ⟨h, rfl, fun _ _ _ => rfl⟩
theorem like_set {qs own own' : List Int} {p x : Int} {n : Nat} (h : Inv own' qs) (hn : own[n]? = some x) (y : Int) (e : own' = own.set n y) (hx : x = p ∨ x = -1) (hy : y = p ∨ y = -1) : Like qs own own' p := by
  subst e
  refine ⟨h, by rw [List.length_set], fun k h1 h2 => ?_⟩
  rw [cnt_set hn, if_neg (by omega), if_neg (by omega)]; omega
theorem isP_get {qs : List Int} {p : Int} (h : isP qs p) : ∃ (k : Nat) (q : Int), p = k ∧ qs[k]? = some q := by
  refine ⟨p.toNat, qs[p.toNat]'(by have := h.1; have := h.2; omega), by have := h.1; omega, by simp⟩
theorem take_any {f : Nat} {own qs : List Int} (p : Int) (inv : Inv own qs) (hq : ∀ q ∈ qs, 0 ≤ q ∧ q ≤ 1024) : Ctr Try.prog W0 73 [.pointer (some ⟨f, 0, none⟩), .int .i64 p] (F f own qs :: Fr) (fun x : Value × List Int => Like qs own x.2 p) (fun x => x.1) (fun x => F f x.2 qs :: Fr) := by
  by_cases hp : isP qs p
  · by_cases hl : left own qs p ≤ 0
    · exact Ctr.to (take_quota W0 Fr p hq hp hl) (fun _ => (_, own)) (fun _ _ => like_refl p inv) (fun _ => rfl) (fun _ => Imp.refl _)
    · obtain ⟨k, q, rfl, hk⟩ := isP_get hp
      have hlk := left_in (own := own) hk
      obtain ⟨n, hn, hgn⟩ := free_frame inv hk (by omega)
      exact Ctr.to (take_ok W0 Fr (k : Int) hq hp (by omega) hn) (fun _ => (_, own.set n k)) (fun _ _ => like_set (inv_take inv hk (by omega) hgn) hgn k rfl (.inr rfl) (.inl rfl)) (fun _ => rfl) (fun _ => Imp.refl _)
  · exact Ctr.to (take_range W0 Fr p hp) (fun _ => (_, own)) (fun _ _ => like_refl p inv) (fun _ => rfl) (fun _ => Imp.refl _)
theorem give_any {f : Nat} {own qs : List Int} (p n : Int) (inv : Inv own qs) : Ctr Try.prog W0 67 [.pointer (some ⟨f, 0, none⟩), .int .i64 p, .int .i64 n] (F f own qs :: Fr) (fun x : Value × List Int => Like qs own x.2 p) (fun x => x.1) (fun x => F f x.2 qs :: Fr) := by
  by_cases hb : ¬ isP qs p ∨ ¬ isF own n
  · exact Ctr.to (give_bad W0 Fr p n hb) (fun _ => (_, own)) (fun _ _ => like_refl p inv) (fun _ => rfl) (fun _ => Imp.refl _)
  · have hp : isP qs p := by omega
    have hf : isF own n := by omega
    obtain ⟨k, rfl⟩ : ∃ k : Nat, n = (k : Int) := ⟨n.toNat, by omega⟩
    have hkl : k < own.length := by omega
    have hget : own[k]? = some own[k] := by simp [hkl]
    by_cases hx : own[k] = p
    · rw [hx] at hget
      exact Ctr.to (give_ok W0 Fr p k hp hget) (fun _ => (_, own.set k (-1))) (fun _ _ => like_set (inv_give inv hget) hget (-1) rfl (.inl rfl) (.inr rfl)) (fun _ => rfl) (fun _ => Imp.refl _)
    · exact Ctr.to (give_owner W0 Fr p k hp hget hx) (fun _ => (_, own)) (fun _ _ => like_refl p inv) (fun _ => rfl) (fun _ => Imp.refl _)
end
end Go.Proofs.Ytmlfcfbblfcpdaa.Fz
