/- VdiskLatency: the plain law. What waits, what flies, and when it is over. -/
import Derived.Test.YtoejnhfcegchhaaVlaw
namespace Go.Proofs.Ytoejnhfcegchhaa.vdiskLatency
open Go Go.Sl Go.RowKit Go.Proofs Go.Proofs.Ytoejnhfcegchhaa.T Go.Proofs.Ytoejnhfcegchhaa.Ms Go.Proofs.Ytoejnhfcegchhaa.Vd
set_option linter.unusedVariables false
set_option linter.unusedSimpArgs false
set_option maxRecDepth 100000
def bt (t : Int) : UInt8 := UInt8.ofNat t.toNat
def wd (t : Int) : B := (List.replicate 64 0).set 0 (bt t)
theorem wd_len (t : Int) : (wd t).length = 64 := by simp [wd]
def ent (a : Ak) : Int × Int := (a.tag, a.due)
/-- What holds at all times. -/
structure Ba (lat cnt : Int) (s : Ds) (k : Nat) (fl : List CR) : Prop where
  inc : s.asks.Pairwise (fun a b => a.tag < b.tag)
  hi : ∀ a ∈ s.asks, 1 ≤ a.tag ∧ a.tag ≤ k
  addr : ∀ a ∈ s.asks, a.addr = 3 * a.tag
  st : ∀ a ∈ s.asks, a.st = 0 ∨ a.st = 1 ∨ a.st = 2
  dat : ∀ a ∈ s.asks, a.st = 2 → a.write = false → a.data = wd a.tag
  due : s.asks.Pairwise (fun a b => a.due ≤ b.due)
  last : s.last = k
  flk : ∀ q ∈ fl, 1 ≤ q.tag ∧ q.tag ≤ k
  fln : (fl.map CR.tag).Nodup
  flm : ∀ q ∈ fl, q.m.b.length ≤ 64
  fz : ∀ a ∈ s.asks, a.st = 0 → ∀ q ∈ fl, q.tag ≠ a.tag
  lat : s.latency = lat
  cnt : s.count = cnt
  part : s.part = 3
  first : s.first = 50
/-- What flies till when; of the entries of now, those from f on. -/
structure Fly (s : Ds) (fl : List CR) (wh : List Int) (T : Int) (f : Nat) : Prop where
  len : fl.length = wh.length
  i1 : ∀ a ∈ s.asks, a.st = 1 → ∃ (j : Nat) (q : CR) (w : Int), fl[j]? = some q ∧ wh[j]? = some w ∧ q.tag = a.tag ∧ w < a.due ∧ T ≤ w ∧ (w = T → f ≤ j)
  i2 : ∀ (j : Nat) (q : CR) (w : Int), fl[j]? = some q → wh[j]? = some w → T ≤ w → (w = T → f ≤ j) → ∃ a ∈ s.asks, a.tag = q.tag ∧ a.write = q.write ∧ a.st = 1
/-- The beginning of a frame. -/
structure Beg (lat cnt : Int) (s : Ds) (k : Nat) (fl : List CR) (wh : List Int) (T : Int) : Prop where
  ba : Ba lat cnt s k fl
  fly : Fly s fl wh T 0
  lo : ∀ a ∈ s.asks, T ≤ a.due
  up : ∀ a ∈ s.asks, a.due ≤ T + lat
  nz : ∀ a ∈ s.asks, a.st ≠ 0
/-- .. behind Ready, while requests come in. -/
structure Mid (lat cnt : Int) (s : Ds) (k : Nat) (fl : List CR) (wh : List Int) (T : Int) : Prop where
  ba : Ba lat cnt s k fl
  fly : Fly s fl wh T 0
  lo : ∀ a ∈ s.asks, T < a.due
  up : ∀ a ∈ s.asks, a.due ≤ T + lat
  z : ∀ a ∈ s.asks, a.st = 0 → a.due = T + lat
/-- .. behind Issue, while the disk answers. -/
structure Ans (lat cnt : Int) (s : Ds) (k : Nat) (fl : List CR) (wh : List Int) (T : Int) (f : Nat) : Prop where
  ba : Ba lat cnt s k fl
  fly : Fly s fl wh T f
  lo : ∀ a ∈ s.asks, T < a.due
  up : ∀ a ∈ s.asks, a.due ≤ T + lat
  nz : ∀ a ∈ s.asks, a.st ≠ 0
theorem split_due {T : Int} : ∀ (l : List Ak), l.Pairwise (fun a b => a.due ≤ b.due) → (∀ a ∈ l, T ≤ a.due) → ∃ P R, l = P ++ R ∧ (∀ a ∈ P, a.due = T) ∧ (∀ a ∈ R, T < a.due)
  | [], _, _ => ⟨[], [], rfl, fun a h => absurd h List.not_mem_nil, fun a h => absurd h List.not_mem_nil⟩
  | a :: l, h, hT => by
    rw [List.pairwise_cons] at h
    rcases (show a.due = T ∨ T < a.due by have := hT a List.mem_cons_self; omega) with e | e
    · obtain ⟨P, R, hl, hP, hR⟩ := split_due l h.2 fun b hb => hT b (List.mem_cons_of_mem _ hb)
      refine ⟨a :: P, R, by rw [hl]; rfl, fun b hb => ?_, hR⟩
      rcases List.mem_cons.1 hb with rfl | hb
      · exact e
      · exact hP b hb
    · refine ⟨[], a :: l, rfl, fun b hb => absurd hb List.not_mem_nil, fun b hb => ?_⟩
      rcases List.mem_cons.1 hb with rfl | hb
      · exact e
      · have := h.1 b hb; omega
theorem Ba.part_of {lat cnt : Int} {s : Ds} {k : Nat} {fl : List CR} (h : Ba lat cnt s k fl) {P R : List Ak} (hs : s.asks = P ++ R) (t : List Int) : Ba lat cnt { s with asks := R, told := t } k fl := by
  have hm : ∀ a ∈ R, a ∈ s.asks := fun a ha => by rw [hs]; exact List.mem_append.2 (.inr ha)
  have h1 := h.inc
  have h2 := h.due
  rw [hs, List.pairwise_append] at h1 h2
  exact ⟨h1.2.1, fun a ha => h.hi a (hm a ha), fun a ha => h.addr a (hm a ha), fun a ha => h.st a (hm a ha), fun a ha => h.dat a (hm a ha), h2.2.1, h.last, h.flk, h.fln, h.flm, fun a ha => h.fz a (hm a ha), h.lat, h.cnt, h.part, h.first⟩
/-- What Ready does at the beginning of a frame. -/
theorem Beg.ready {lat cnt : Int} {s : Ds} {k : Nat} {fl : List CR} {wh : List Int} {T : Int} (h : Beg lat cnt s k fl wh T) :
    ∃ P R, s.asks = P ++ R ∧ rdyL s T = P.map done ∧ (rdyS s T).asks = R ∧ (∀ a ∈ P, a.due = T ∧ a.st = 2) ∧ Mid lat cnt (rdyS s T) k fl wh T := by
  obtain ⟨P, R, hs, hP, hR⟩ := split_due s.asks h.ba.due h.lo
  have hmP : ∀ a ∈ P, a ∈ s.asks := fun a ha => by rw [hs]; exact List.mem_append.2 (.inl ha)
  have hmR : ∀ a ∈ R, a ∈ s.asks := fun a ha => by rw [hs]; exact List.mem_append.2 (.inr ha)
  have hP2 : ∀ a ∈ P, a.st = 2 := fun a ha => by
    rcases h.ba.st a (hmP a ha) with e | e | e
    · exact absurd e (h.nz a (hmP a ha))
    · obtain ⟨j, q, w, _, _, _, h4, h5, _⟩ := h.fly.i1 a (hmP a ha) e
      have := hP a ha; omega
    · exact e
  have f1 : s.asks.filter (over T) = P := by
    rw [hs, List.filter_append, List.filter_eq_self.2 (fun a ha => over_yes (hP2 a ha) (by rw [hP a ha]; exact Int.le_refl _)), List.filter_eq_nil_iff.2 (fun a ha => by rw [over_no2 (hR a ha)]; decide), List.append_nil]
  have f2 : s.asks.filter (fun a => !over T a) = R := by
    rw [hs, List.filter_append, List.filter_eq_nil_iff.2 (fun a ha => by rw [over_yes (hP2 a ha) (by rw [hP a ha]; exact Int.le_refl _)]; decide), List.filter_eq_self.2 (fun a ha => by rw [over_no2 (hR a ha)]; rfl), List.nil_append]
  have hr : (rdyS s T).asks = R := f2
  have hrs : rdyS s T = { s with asks := R, told := (s.asks.filter (over T)).map Ak.tag } := by unfold rdyS; rw [f2]
  refine ⟨P, R, hs, by unfold rdyL; rw [f1], hr, fun a ha => ⟨hP a ha, hP2 a ha⟩, ⟨?_, ⟨h.fly.len, ?_, ?_⟩, ?_, ?_, ?_⟩⟩
  · rw [hrs]; exact h.ba.part_of hs _
  · rw [hr]; exact fun a ha => h.fly.i1 a (hmR a ha)
  · intro j q w h1 h2 h3 h4
    obtain ⟨a, ha, e1, e2, e3⟩ := h.fly.i2 j q w h1 h2 h3 h4
    rw [hr]
    rw [hs] at ha
    rcases List.mem_append.1 ha with ha | ha
    · have := hP2 a ha; omega
    · exact ⟨a, ha, e1, e2, e3⟩
  · rw [hr]; exact hR
  · rw [hr]; exact fun a ha => h.up a (hmR a ha)
  · rw [hr]; exact fun a ha e => absurd e (h.nz a (hmR a ha))
/-- What Submit does. -/
theorem Mid.submit {lat cnt : Int} {s : Ds} {k : Nat} {fl : List CR} {wh : List Int} {T : Int} (h : Mid lat cnt s k fl wh T) (hk : k ≤ 100000) (hT : 1 ≤ lat) {write : Bool} {sector : Int} {data : B} :
    w32 (s.last + 1) = ((k + 1 : Nat) : Int) ∧ (subR s write sector (3 * ((k + 1 : Nat) : Int)) data T).asks.map ent = s.asks.map ent ++ [(((k + 1 : Nat) : Int), T + lat)] ∧ Mid lat cnt (subR s write sector (3 * ((k + 1 : Nat) : Int)) data T) (k + 1) fl wh T := by
  have hw : w32 (s.last + 1) = ((k + 1 : Nat) : Int) := by rw [h.ba.last, w32_small (by omega) (by omega)]; rfl
  have ha : (subR s write sector (3 * ((k + 1 : Nat) : Int)) data T).asks = s.asks ++ [⟨((k + 1 : Nat) : Int), write, sector, 3 * ((k + 1 : Nat) : Int), if write then data else [], T + lat, 0⟩] := by
    unfold subR; dsimp only; rw [hw, h.ba.lat]
  refine ⟨hw, by rw [ha, List.map_append]; rfl, ⟨⟨?_, ?_, ?_, ?_, ?_, ?_, hw, ?_, h.ba.fln, h.ba.flm, ?_, h.ba.lat, h.ba.cnt, h.ba.part, h.ba.first⟩, ⟨h.fly.len, ?_, ?_⟩, ?_, ?_, ?_⟩⟩
  · rw [ha, List.pairwise_append]
    refine ⟨h.ba.inc, List.pairwise_singleton _ _, fun a h1 b h2 => ?_⟩
    rw [List.mem_singleton] at h2; subst h2
    have := (h.ba.hi a h1).2; show a.tag < ((k + 1 : Nat) : Int); omega
  · rw [ha]; intro a hm
    rcases List.mem_append.1 hm with hm | hm
    · have := h.ba.hi a hm; omega
    · rw [List.mem_singleton] at hm; subst hm; show 1 ≤ ((k + 1 : Nat) : Int) ∧ ((k + 1 : Nat) : Int) ≤ ((k + 1 : Nat) : Int); omega
  · rw [ha]; intro a hm
    rcases List.mem_append.1 hm with hm | hm
    · exact h.ba.addr a hm
    · rw [List.mem_singleton] at hm; subst hm; rfl
  · rw [ha]; intro a hm
    rcases List.mem_append.1 hm with hm | hm
    · exact h.ba.st a hm
    · rw [List.mem_singleton] at hm; subst hm; exact .inl rfl
  · rw [ha]; intro a hm
    rcases List.mem_append.1 hm with hm | hm
    · exact h.ba.dat a hm
    · rw [List.mem_singleton] at hm; subst hm; intro e; exact absurd e (by show (0 : Int) ≠ 2; decide)
  · rw [ha, List.pairwise_append]
    refine ⟨h.ba.due, List.pairwise_singleton _ _, fun a h1 b h2 => ?_⟩
    rw [List.mem_singleton] at h2; subst h2
    exact h.up a h1
  · exact fun q hq => by have := h.ba.flk q hq; omega
  · rw [ha]; intro a hm e q hq
    rcases List.mem_append.1 hm with hm | hm
    · exact h.ba.fz a hm e q hq
    · rw [List.mem_singleton] at hm; subst hm
      have := (h.ba.flk q hq).2; show q.tag ≠ ((k + 1 : Nat) : Int); omega
  · rw [ha]; intro a hm e
    rcases List.mem_append.1 hm with hm | hm
    · exact h.fly.i1 a hm e
    · rw [List.mem_singleton] at hm; subst hm; exact absurd e (by show (0 : Int) ≠ 1; decide)
  · intro j q w h1 h2 h3 h4
    obtain ⟨a, hm, e⟩ := h.fly.i2 j q w h1 h2 h3 h4
    rw [ha]; exact ⟨a, List.mem_append.2 (.inl hm), e⟩
  · rw [ha]; intro a hm
    rcases List.mem_append.1 hm with hm | hm
    · exact h.lo a hm
    · rw [List.mem_singleton] at hm; subst hm; show T < T + lat; omega
  · rw [ha]; intro a hm
    rcases List.mem_append.1 hm with hm | hm
    · exact h.up a hm
    · rw [List.mem_singleton] at hm; subst hm; exact Int.le_refl _
  · rw [ha]; intro a hm e
    rcases List.mem_append.1 hm with hm | hm
    · exact h.z a hm e
    · rw [List.mem_singleton] at hm; subst hm; rfl
theorem iss_st {a : Ak} (h : a.st = 0 ∨ a.st = 1 ∨ a.st = 2) : (iss a).st ≠ 0 := by
  unfold iss; dsimp only; split
  · decide
  · assumption
theorem iss_2 {a : Ak} (h : (iss a).st = 2) : a.st = 2 := by
  unfold iss at h; dsimp only at h; split at h
  · exact absurd h (by decide)
  · exact h
/-- What Issue does. -/
theorem Mid.issue {lat cnt : Int} {s : Ds} {k : Nat} {fl : List CR} {wh : List Int} {T : Int} (h : Mid lat cnt s k fl wh T) {l : List CR} {ws : List Int} (hl : l.map CR.abs = issR s) (hlm : ∀ q ∈ l, q.m.b.length ≤ 64) (hws : ws.length = l.length) (hw : ∀ w ∈ ws, T ≤ w ∧ w < T + lat) : Ans lat cnt (issS s) k (fl ++ l) (wh ++ ws) T 0 := by
  have hZ : ∀ a ∈ s.asks.filter (fun a => a.st == 0), a ∈ s.asks ∧ a.st = 0 := fun a ha => by
    rw [List.mem_filter] at ha; exact ⟨ha.1, by simpa using ha.2⟩
  have htag : l.map CR.tag = (s.asks.filter (fun a => a.st == 0)).map Ak.tag := by
    have := congrArg (List.map Rq.tag) hl
    unfold issR at this
    rw [List.map_map, List.map_map] at this
    exact this
  have hget : ∀ (i : Nat) (q : CR), l[i]? = some q → ∃ a, (s.asks.filter (fun a => a.st == 0))[i]? = some a ∧ q.abs = req s a := fun i q hq => by
    have h1 : (l.map CR.abs)[i]? = some q.abs := by rw [List.getElem?_map, hq]; rfl
    rw [hl] at h1; unfold issR at h1
    rw [List.getElem?_map] at h1
    cases hz : (s.asks.filter (fun a => a.st == 0))[i]? with
    | none => rw [hz] at h1; cases h1
    | some a => rw [hz] at h1; exact ⟨a, rfl, (Option.some.inj h1).symm⟩
  have hllen : l.length = (s.asks.filter (fun a => a.st == 0)).length := by have := congrArg List.length htag; simpa using this
  have hin : ∀ q ∈ l, ∃ a ∈ s.asks, a.st = 0 ∧ q.tag = a.tag ∧ q.write = a.write := fun q hq => by
    obtain ⟨i, hi, rfl⟩ := List.mem_iff_getElem.1 hq
    obtain ⟨a, h1, h2⟩ := hget i l[i] (by simp [hi])
    obtain ⟨h3, h4⟩ := hZ a (List.mem_of_getElem? h1)
    exact ⟨a, h3, h4, congrArg Rq.tag h2, congrArg Rq.write h2⟩
  have hT : ∀ a : Ak, (iss a).tag = a.tag ∧ (iss a).due = a.due ∧ (iss a).write = a.write ∧ (iss a).data = a.data ∧ (iss a).addr = a.addr := fun a => ⟨rfl, rfl, rfl, rfl, rfl⟩
  refine ⟨⟨?_, ?_, ?_, ?_, ?_, ?_, h.ba.last, ?_, ?_, ?_, ?_, h.ba.lat, h.ba.cnt, h.ba.part, h.ba.first⟩, ⟨?_, ?_, ?_⟩, ?_, ?_, ?_⟩
  · show (s.asks.map iss).Pairwise _
    rw [List.pairwise_map]; exact h.ba.inc
  · intro a ha; obtain ⟨x, hx, rfl⟩ := List.mem_map.1 ha; exact h.ba.hi x hx
  · intro a ha; obtain ⟨x, hx, rfl⟩ := List.mem_map.1 ha; exact h.ba.addr x hx
  · intro a ha; obtain ⟨x, hx, rfl⟩ := List.mem_map.1 ha
    rcases h.ba.st x hx with e | e | e
    · right; left; rw [iss_one e]
    · right; left; rw [iss_no (by omega)]; exact e
    · right; right; rw [iss_no (by omega)]; exact e
  · intro a ha; obtain ⟨x, hx, rfl⟩ := List.mem_map.1 ha; intro e1 e2; exact h.ba.dat x hx (iss_2 e1) e2
  · show (s.asks.map iss).Pairwise _
    rw [List.pairwise_map]; exact h.ba.due
  · intro q hq
    rcases List.mem_append.1 hq with hq | hq
    · exact h.ba.flk q hq
    · obtain ⟨a, h1, _, h3, _⟩ := hin q hq
      rw [h3]; exact h.ba.hi a h1
  · rw [List.map_append, List.nodup_append]
    refine ⟨h.ba.fln, ?_, fun x hx y hy e => ?_⟩
    · rw [htag]
      have h1 := h.ba.inc.filter (fun a => a.st == 0)
      unfold List.Nodup
      rw [List.pairwise_map]
      exact h1.imp (fun h2 h3 => by omega)
    · obtain ⟨q, hq, rfl⟩ := List.mem_map.1 hx
      obtain ⟨q2, hq2, rfl⟩ := List.mem_map.1 hy
      obtain ⟨a, h1, h2, h3, _⟩ := hin q2 hq2
      exact h.ba.fz a h1 h2 q hq (by rw [e, h3])
  · intro q hq
    rcases List.mem_append.1 hq with hq | hq
    · exact h.ba.flm q hq
    · exact hlm q hq
  · intro a ha e; obtain ⟨x, hx, rfl⟩ := List.mem_map.1 ha; exact absurd e (iss_st (h.ba.st x hx))
  · rw [List.length_append, List.length_append, h.fly.len, hws]
  · intro a ha e; obtain ⟨x, hx, rfl⟩ := List.mem_map.1 ha
    rcases h.ba.st x hx with e1 | e1 | e1
    · obtain ⟨i, hi, hxi⟩ := List.mem_iff_getElem.1 (List.mem_filter.2 ⟨hx, by rw [e1]; rfl⟩ : x ∈ s.asks.filter (fun a => a.st == 0))
      have hi2 : i < l.length := by omega
      obtain ⟨b, h1, h2⟩ := hget i l[i] (by simp [hi2])
      rw [List.getElem?_eq_getElem hi, hxi] at h1
      obtain rfl := Option.some.inj h1
      have hwi := hw ws[i] (List.getElem_mem (by omega))
      refine ⟨fl.length + i, l[i], ws[i], by rw [List.getElem?_append_right (by omega), Nat.add_sub_cancel_left]; simp [hi2], by rw [List.getElem?_append_right (by have := h.fly.len; omega), show fl.length + i - wh.length = i by have := h.fly.len; omega]; exact List.getElem?_eq_getElem (by omega), congrArg Rq.tag h2, ?_, hwi.1, fun _ => Nat.zero_le _⟩
      show ws[i] < x.due
      rw [h.z x hx e1]; exact hwi.2
    · obtain ⟨j, q, w, h1, h2, h3⟩ := h.fly.i1 x hx e1
      refine ⟨j, q, w, by rw [List.getElem?_append_left (List.getElem?_eq_some_iff.1 h1).1]; exact h1, by rw [List.getElem?_append_left (List.getElem?_eq_some_iff.1 h2).1]; exact h2, h3⟩
    · rw [iss_no (by omega)] at e; omega
  · intro j q w h1 h2 h3 h4
    rcases Nat.lt_or_ge j fl.length with hj | hj
    · rw [List.getElem?_append_left hj] at h1
      rw [List.getElem?_append_left (by have := h.fly.len; omega)] at h2
      obtain ⟨a, ha, e1, e2, e3⟩ := h.fly.i2 j q w h1 h2 h3 h4
      exact ⟨iss a, List.mem_map_of_mem ha, e1, e2, by rw [iss_no (by omega)]; exact e3⟩
    · rw [List.getElem?_append_right hj] at h1
      obtain ⟨a, ha, e0, e1, e2⟩ := hin q (List.mem_of_getElem? h1)
      exact ⟨iss a, List.mem_map_of_mem ha, e1.symm, e2.symm, by rw [iss_one e0]⟩
  · intro a ha; obtain ⟨x, hx, rfl⟩ := List.mem_map.1 ha; exact h.lo x hx
  · intro a ha; obtain ⟨x, hx, rfl⟩ := List.mem_map.1 ha; exact h.up x hx
  · intro a ha; obtain ⟨x, hx, rfl⟩ := List.mem_map.1 ha; exact iss_st (h.ba.st x hx)
/-- An entry of another frame. -/
theorem Ans.skip {lat cnt : Int} {s : Ds} {k : Nat} {fl : List CR} {wh : List Int} {T : Int} {f : Nat} (h : Ans lat cnt s k fl wh T f) {w : Int} (hw : wh[f]? = some w) (hT : w ≠ T) : Ans lat cnt s k fl wh T (f + 1) := by
  have step : ∀ (j : Nat) (u : Int), wh[j]? = some u → (u = T → f ≤ j) → (u = T → f + 1 ≤ j) := fun j u hu hf e => by
    have h1 := hf e
    by_cases hj : j = f
    · rw [hj, hw] at hu; exact absurd ((Option.some.inj hu).trans e) hT
    · omega
  refine ⟨h.ba, ⟨h.fly.len, fun a ha e => ?_, fun j q u h1 h2 h3 h4 => h.fly.i2 j q u h1 h2 h3 fun e => by have := h4 e; omega⟩, h.lo, h.up, h.nz⟩
  obtain ⟨j, q, u, h1, h2, h3, h4, h5, h6⟩ := h.fly.i1 a ha e
  exact ⟨j, q, u, h1, h2, h3, h4, h5, step j u h2 h6⟩
/-- An entry of this frame: Complete, twice. -/
theorem Ans.com {lat cnt : Int} {s : Ds} {k : Nat} {fl : List CR} {wh : List Int} {T : Int} {f : Nat} (h : Ans lat cnt s k fl wh T f) {q : CR} (hq : fl[f]? = some q) (hw : wh[f]? = some T) {data : B} (hd : q.write = false → data = wd q.tag) :
    ∃ s', comR s q.tag data = (0, s') ∧ comR s' q.tag data = (302, s') ∧ s'.asks.map ent = s.asks.map ent ∧ Ans lat cnt s' k fl wh T (f + 1) := by
  obtain ⟨a, ha, e1, e2, e3⟩ := h.fly.i2 f q T hq hw (Int.le_refl _) (fun _ => Nat.le_refl _)
  obtain ⟨P, R, hs⟩ := List.append_of_mem ha
  have hinc := h.ba.inc
  rw [hs, List.pairwise_append, List.pairwise_cons] at hinc
  have hP : ∀ y ∈ P, y.tag < a.tag := fun y hy => hinc.2.2 y hy a List.mem_cons_self
  have hR : ∀ y ∈ R, a.tag < y.tag := hinc.2.1.1
  have hc := com_at (data := data) hs (fun y hy => .inl (by have := hP y hy; omega)) e3 (fun e => by rw [hd (by rw [← e2]; exact e), wd_len])
  have hmem : ∀ y ∈ P ++ R, y ∈ s.asks ∧ y.tag ≠ a.tag := fun y hy => by
    rw [hs]
    rcases List.mem_append.1 hy with hy | hy
    · exact ⟨List.mem_append.2 (.inl hy), by have := hP y hy; omega⟩
    · exact ⟨List.mem_append.2 (.inr (List.mem_cons_of_mem _ hy)), by have := hR y hy; omega⟩
  generalize hx : ({ a with st := 2, data := if a.write then a.data else data } : Ak) = x at hc
  have x1 : x.tag = a.tag := by rw [← hx]
  have x2 : x.st = 2 := by rw [← hx]
  have x3 : x.due = a.due := by rw [← hx]
  have x4 : x.addr = a.addr := by rw [← hx]
  have x5 : x.write = a.write := by rw [← hx]
  have x6 : x.write = false → x.data = wd x.tag := fun e => by
    rw [x5] at e
    have h9 : x.data = if a.write then a.data else data := by rw [← hx]
    rw [h9, if_neg (by rw [e]; decide), hd (by rw [← e2]; exact e), x1, e1]
  have hmx : ∀ y ∈ P ++ x :: R, y = x ∨ (y ∈ P ++ R) := fun y hy => by
    rcases List.mem_append.1 hy with hy | hy
    · exact .inr (List.mem_append.2 (.inl hy))
    · rcases List.mem_cons.1 hy with hy | hy
      · exact .inl hy
      · exact .inr (List.mem_append.2 (.inr hy))
  have hback : ∀ y ∈ s.asks, y = a ∨ y ∈ P ++ x :: R := fun y hy => by
    rw [hs] at hy
    rcases List.mem_append.1 hy with hy | hy
    · exact .inr (List.mem_append.2 (.inl hy))
    · rcases List.mem_cons.1 hy with hy | hy
      · exact .inl hy
      · exact .inr (List.mem_append.2 (.inr (List.mem_cons_of_mem _ hy)))
  refine ⟨{ s with asks := P ++ x :: R }, by rw [← e1]; exact hc, com_no (fun y hy => ?_) _, ?_, ⟨⟨?_, ?_, ?_, ?_, ?_, ?_, h.ba.last, h.ba.flk, h.ba.fln, h.ba.flm, ?_, h.ba.lat, h.ba.cnt, h.ba.part, h.ba.first⟩, ⟨h.fly.len, ?_, ?_⟩, ?_, ?_, ?_⟩⟩
  · rcases hmx y hy with rfl | hy
    · right; omega
    · left; rw [← e1]; exact (hmem y hy).2
  · show (P ++ x :: R).map ent = _
    rw [hs, List.map_append, List.map_append, List.map_cons, List.map_cons, show ent x = ent a by unfold ent; rw [x1, x3]]
  · show (P ++ x :: R).Pairwise _
    rw [List.pairwise_append, List.pairwise_cons]
    refine ⟨hinc.1, ⟨fun y hy => by rw [x1]; exact hR y hy, hinc.2.1.2⟩, fun y hy z hz => ?_⟩
    rcases List.mem_cons.1 hz with rfl | hz
    · rw [x1]; exact hP y hy
    · exact hinc.2.2 y hy z (List.mem_cons_of_mem _ hz)
  · intro y hy
    rcases hmx y hy with rfl | hy
    · rw [x1]; exact h.ba.hi a ha
    · exact h.ba.hi y (hmem y hy).1
  · intro y hy
    rcases hmx y hy with rfl | hy
    · rw [x4, x1]; exact h.ba.addr a ha
    · exact h.ba.addr y (hmem y hy).1
  · intro y hy
    rcases hmx y hy with rfl | hy
    · exact .inr (.inr x2)
    · exact h.ba.st y (hmem y hy).1
  · intro y hy
    rcases hmx y hy with rfl | hy
    · exact fun _ => x6
    · exact h.ba.dat y (hmem y hy).1
  · have hdu := h.ba.due
    rw [hs, List.pairwise_append, List.pairwise_cons] at hdu
    show (P ++ x :: R).Pairwise _
    rw [List.pairwise_append, List.pairwise_cons]
    refine ⟨hdu.1, ⟨fun y hy => by rw [x3]; exact hdu.2.1.1 y hy, hdu.2.1.2⟩, fun y hy z hz => ?_⟩
    rcases List.mem_cons.1 hz with rfl | hz
    · rw [x3]; exact hdu.2.2 y hy a List.mem_cons_self
    · exact hdu.2.2 y hy z (List.mem_cons_of_mem _ hz)
  · intro y hy e
    rcases hmx y hy with rfl | hy
    · omega
    · exact h.ba.fz y (hmem y hy).1 e
  · intro y hy e
    rcases hmx y hy with rfl | hy
    · omega
    · obtain ⟨j, q', w, h1, h2, h3, h4, h5, h6⟩ := h.fly.i1 y (hmem y hy).1 e
      refine ⟨j, q', w, h1, h2, h3, h4, h5, fun e0 => ?_⟩
      have h7 := h6 e0
      by_cases hj : j = f
      · rw [hj, hq] at h1
        obtain rfl := Option.some.inj h1
        exact absurd (by rw [← h3, e1] : y.tag = a.tag) (hmem y hy).2
      · omega
  · intro j q' w h1 h2 h3 h4
    obtain ⟨y, hy, g1, g2, g3⟩ := h.fly.i2 j q' w h1 h2 h3 (fun e => by have := h4 e; omega)
    rcases hback y hy with rfl | hy
    · have hjf : j = f := by
        have hl1 : (fl.map CR.tag)[j]? = some q'.tag := by rw [List.getElem?_map, h1]; rfl
        have hl2 : (fl.map CR.tag)[f]? = some q'.tag := by rw [List.getElem?_map, hq, ← g1, e1]; rfl
        obtain ⟨hj1, hj2⟩ := List.getElem?_eq_some_iff.1 hl1
        obtain ⟨hf1, hf2⟩ := List.getElem?_eq_some_iff.1 hl2
        have hnd := List.pairwise_iff_getElem.1 h.ba.fln
        rcases Nat.lt_trichotomy j f with q1 | q1 | q1
        · exact absurd (hj2.trans hf2.symm) (hnd j f hj1 hf1 q1)
        · exact q1
        · exact absurd (hf2.trans hj2.symm) (hnd f j hf1 hj1 q1)
      rw [hjf, hw] at h2
      have := h4 (Option.some.inj h2).symm
      omega
    · exact ⟨y, hy, g1, g2, g3⟩
  · intro y hy
    rcases hmx y hy with rfl | hy
    · rw [x3]; exact h.lo a ha
    · exact h.lo y (hmem y hy).1
  · intro y hy
    rcases hmx y hy with rfl | hy
    · rw [x3]; exact h.up a ha
    · exact h.up y (hmem y hy).1
  · intro y hy
    rcases hmx y hy with rfl | hy
    · omega
    · exact h.nz y (hmem y hy).1
/-- The end of a frame is the beginning of the next. -/
theorem Ans.over {lat cnt : Int} {s : Ds} {k : Nat} {fl : List CR} {wh : List Int} {T : Int} (h : Ans lat cnt s k fl wh T fl.length) : Beg lat cnt s k fl wh (T + 1) := by
  refine ⟨h.ba, ⟨h.fly.len, fun a ha e => ?_, fun j q w h1 h2 h3 h4 => h.fly.i2 j q w h1 h2 (by omega) (fun e => by omega)⟩, fun a ha => by have := h.lo a ha; omega, fun a ha => by have := h.up a ha; omega, h.nz⟩
  obtain ⟨j, q, w, h1, h2, h3, h4, h5, h6⟩ := h.fly.i1 a ha e
  refine ⟨j, q, w, h1, h2, h3, h4, ?_, fun _ => Nat.zero_le _⟩
  by_cases e0 : w = T
  · have := h6 e0; have := (List.getElem?_eq_some_iff.1 h1).1; omega
  · omega
end Go.Proofs.Ytoejnhfcegchhaa.vdiskLatency
