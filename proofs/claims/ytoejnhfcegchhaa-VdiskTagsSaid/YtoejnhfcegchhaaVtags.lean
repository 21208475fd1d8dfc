/- VdiskTags: each request has a tag of its own, one more than the last one; never more than MaxRequests wait; what is over is over in order: the law returns true and changes nothing that was there. -/
import Derived.Test.YtoejnhfcegchhaaVlaw
namespace Go.Proofs.Ytoejnhfcegchhaa.vdiskTags
open Go Go.Sl Go.RowKit Go.Proofs Go.Proofs.Ytoejnhfcegchhaa.T Go.Proofs.Ytoejnhfcegchhaa.Ms Go.Proofs.Ytoejnhfcegchhaa.Vd
set_option linter.unusedVariables false
set_option linter.unusedSimpArgs false
set_option maxRecDepth 100000
def upto (n k : Nat) : List Int := (List.range' (n + 1) k).map Int.ofNat
theorem upto_succ (n k : Nat) : upto n (k + 1) = upto n k ++ [((n + k + 1 : Nat) : Int)] := by
  unfold upto; rw [List.range'_concat]; simp; omega
theorem upto_len (n k : Nat) : (upto n k).length = k := by simp [upto]
theorem upto_get {n k j : Nat} (h : j < k) : (upto n k)[j]? = some ((n + 1 + j : Nat) : Int) := by
  unfold upto; rw [List.getElem?_map, List.getElem?_range' h]; simp
theorem upto_drop (n k j : Nat) (h : j ≤ k) : (upto n k).drop j = upto (n + j) (k - j) := by
  unfold upto; rw [← List.map_drop, List.drop_range']; congr 2; omega
/-- Where all stands: first what is completed, then what was not issued yet. -/
structure Tg (i last over : Nat) (s : Ds) (P R : List Ak) : Prop where
  asks : s.asks = P ++ R
  a2 : ∀ x ∈ P, x.st = 2
  b0 : ∀ x ∈ R, x.st = 0
  all : ∀ x ∈ s.asks, x.write = false ∧ x.due ≤ i
  tags : s.asks.map Ak.tag = upto over s.asks.length
  lst : s.last = last
  sum : last = over + s.asks.length
  le : last ≤ i
  count : s.count = 8
  lat : s.latency = 1
theorem Tg.mono {i last over : Nat} {s : Ds} {P R : List Ak} (h : Tg i last over s P R) : Tg (i + 1) last over s P R :=
  ⟨h.asks, h.a2, h.b0, fun x hx => ⟨(h.all x hx).1, by have := (h.all x hx).2; omega⟩, h.tags, h.lst, h.sum, by have := h.le; omega, h.count, h.lat⟩
theorem Tg.sub {i last over : Nat} {s : Ds} {P R : List Ak} (h : Tg i last over s P R) (hi : i < 1000) (sector addr : Int) : Tg (i + 1) (last + 1) over (subR s false sector addr [] i) P (R ++ [⟨((last + 1 : Nat) : Int), false, sector, addr, [], i + 1, 0⟩]) := by
  have hw : w32 (s.last + 1) = ((last + 1 : Nat) : Int) := by rw [h.lst, w32_small (by omega) (by have := h.le; omega)]; rfl
  have hasks : (subR s false sector addr [] i).asks = s.asks ++ [⟨((last + 1 : Nat) : Int), false, sector, addr, [], i + 1, 0⟩] := by
    unfold subR; dsimp only; rw [hw, h.lat]; rfl
  refine ⟨by rw [hasks, h.asks, List.append_assoc], h.a2, ?_, ?_, ?_, hw, ?_, by have := h.le; omega, h.count, h.lat⟩
  · intro x hx
    rcases List.mem_append.1 hx with hx | hx
    · exact h.b0 x hx
    · simp only [List.mem_cons, List.not_mem_nil, or_false] at hx; subst hx; rfl
  · intro x hx
    rw [hasks] at hx
    rcases List.mem_append.1 hx with hx | hx
    · exact ⟨(h.all x hx).1, by have := (h.all x hx).2; omega⟩
    · simp only [List.mem_cons, List.not_mem_nil, or_false] at hx; subst hx; exact ⟨rfl, by simp⟩
  · rw [hasks, List.map_append, h.tags, List.length_append]
    simp only [List.length_cons, List.length_nil, List.map_cons, List.map_nil]
    rw [upto_succ, ← h.sum]
  · rw [hasks, List.length_append, h.sum]; simp; omega
def c1 (x : Ak) : Ak := { x with st := 1 }
def c2 (x : Ak) : Ak := { x with st := 2, data := zb }
def mid (P R : List Ak) (k : Nat) : List Ak := P ++ (R.take k).map c2 ++ (R.drop k).map c1
theorem Tg.issued {i last over : Nat} {s : Ds} {P R : List Ak} (h : Tg i last over s P R) : issR s = R.map (req s) ∧ (issS s).asks = mid P R 0 := by
  have hP : P.filter (fun a => a.st == 0) = [] := by rw [List.filter_eq_nil_iff]; intro x hx; rw [h.a2 x hx]; decide
  have hR : R.filter (fun a => a.st == 0) = R := by rw [List.filter_eq_self]; intro x hx; rw [h.b0 x hx]; decide
  constructor
  · unfold issR; rw [h.asks, List.filter_append, hP, hR, List.nil_append]
  · unfold issS mid; dsimp only
    rw [h.asks, List.map_append, List.take_zero, List.map_nil, List.append_nil, List.drop_zero]
    congr 1
    · refine (List.map_congr_left fun x hx => ?_).trans (List.map_id P); exact iss_no (by rw [h.a2 x hx]; decide)
    · exact List.map_congr_left fun x hx => iss_one (h.b0 x hx)
theorem mid_at {P R : List Ak} {k : Nat} {x : Ak} (hk : R[k]? = some x) : mid P R k = (P ++ (R.take k).map c2) ++ c1 x :: (R.drop (k + 1)).map c1 ∧ mid P R (k + 1) = (P ++ (R.take k).map c2) ++ c2 x :: (R.drop (k + 1)).map c1 := by
  obtain ⟨hlt, rfl⟩ := List.getElem?_eq_some_iff.1 hk
  unfold mid
  constructor
  · rw [List.drop_eq_getElem_cons hlt, List.map_cons]
  · rw [List.take_succ_eq_append_getElem hlt, List.map_append]; simp
theorem com_mid {s : Ds} {P R : List Ak} (hP : ∀ x ∈ P, x.st = 2) {k : Nat} {x : Ak} (hk : R[k]? = some x) (hw : x.write = false) (hs : s.asks = mid P R k) : comR s x.tag zb = (0, { s with asks := mid P R (k + 1) }) := by
  obtain ⟨e1, e2⟩ := mid_at (P := P) hk
  have := com_at (s := s) (x := c1 x) (data := zb) (hs.trans e1) (fun y hy => .inr (by
    rcases List.mem_append.1 hy with hy | hy
    · rw [hP y hy]; decide
    · rw [List.mem_map] at hy; obtain ⟨z, _, rfl⟩ := hy; show (2 : Int) ≠ 1; decide)) rfl (fun _ => rfl)
  rw [show (c1 x).tag = x.tag from rfl, show (c1 x).write = false from hw] at this
  rw [this, e2]
  simp [c1, c2, hw]
theorem Tg.fin {i last over : Nat} {s s' : Ds} {P R : List Ak} (h : Tg i last over s P R) (hs : s'.asks = mid P R R.length) (h1 : s'.last = s.last) (h2 : s'.count = s.count) (h3 : s'.latency = s.latency) : Tg i last over s' (P ++ R.map c2) [] := by
  have hm : mid P R R.length = P ++ R.map c2 := by unfold mid; rw [List.take_length, List.drop_length, List.map_nil, List.append_nil]
  rw [hm] at hs
  have hl : s'.asks.length = s.asks.length := by rw [hs, h.asks]; simp
  have hin : ∀ x ∈ R, x.write = false ∧ x.due ≤ i := fun x hx => h.all x (by rw [h.asks]; exact List.mem_append.2 (.inr hx))
  have htg : (R.map c2).map Ak.tag = R.map Ak.tag := by rw [List.map_map]; rfl
  refine ⟨by rw [hs, List.append_nil], ?_, fun x hx => absurd hx List.not_mem_nil, ?_, ?_, h1.trans h.lst, by rw [hl]; exact h.sum, h.le, h2.trans h.count, h3.trans h.lat⟩
  · intro x hx
    rcases List.mem_append.1 hx with hx | hx
    · exact h.a2 x hx
    · rw [List.mem_map] at hx; obtain ⟨y, _, rfl⟩ := hx; rfl
  · intro x hx
    rw [hs] at hx
    rcases List.mem_append.1 hx with hx | hx
    · exact h.all x (by rw [h.asks]; exact List.mem_append.2 (.inl hx))
    · rw [List.mem_map] at hx; obtain ⟨y, hy, rfl⟩ := hx; exact hin y hy
  · rw [hl, hs, List.map_append, htg, ← List.map_append, ← h.asks]; exact h.tags
theorem Tg.rdy {i last over : Nat} {s : Ds} {P R : List Ak} (h : Tg i last over s P R) : s.asks.filter (Vd.over ((i : Int) + 1)) = P ∧ s.asks.filter (fun a => !Vd.over ((i : Int) + 1) a) = R := by
  have hP : ∀ x ∈ P, Vd.over ((i : Int) + 1) x = true := fun x hx => over_yes (h.a2 x hx) (by have := (h.all x (by rw [h.asks]; exact List.mem_append.2 (.inl hx))).2; omega)
  have hR : ∀ x ∈ R, Vd.over ((i : Int) + 1) x = false := fun x hx => over_no1 (by rw [h.b0 x hx]; decide)
  rw [h.asks, List.filter_append, List.filter_append]
  rw [List.filter_eq_self.2 hP, List.filter_eq_nil_iff.2 (fun x hx => by rw [hR x hx]; decide), List.filter_eq_nil_iff.2 (fun x hx => by rw [hP x hx]; decide), List.filter_eq_self.2 (fun x hx => by rw [hR x hx]; rfl)]
  simp
theorem Tg.ready {i last over : Nat} {s : Ds} {P R : List Ak} (h : Tg i last over s P R) : Tg i last (over + P.length) (rdyS s ((i : Int) + 1)) [] R := by
  have h2 : (rdyS s ((i : Int) + 1)).asks = R := h.rdy.2
  have hl : s.asks.length = P.length + R.length := by rw [h.asks, List.length_append]
  refine ⟨h2, fun x hx => absurd hx List.not_mem_nil, h.b0, ?_, ?_, h.lst, ?_, h.le, h.count, h.lat⟩
  · intro x hx; rw [h2] at hx; exact h.all x (by rw [h.asks]; exact List.mem_append.2 (.inr hx))
  · rw [h2]
    have := congrArg (List.drop P.length) h.tags
    rw [h.asks, List.map_append, List.drop_left' (by simp), ← h.asks, upto_drop _ _ _ (by omega)] at this
    rw [this]; congr 1; omega
  · rw [h2, h.sum]; omega
theorem sub_room {s : Ds} {write : Bool} {sector major : Int} {len : Nat} (h : subE s write sector len major = 0) : s.asks.length < 4 := by
  unfold subE at h
  by_cases h4 : 4 ≤ s.asks.length
  · exfalso
    rw [if_pos h4] at h
    (repeat' split at h) <;> exact absurd h (by decide)
  · omega
set_option maxHeartbeats 8000000 in
theorem walk (W : World) {a0 : Option Addr} {c0 : Nat} {ops : List VAct} (hops : SlAt W 11 a0 ops.length ((ops.map VAct.cells).flatten)) (hok : ∀ o ∈ ops, o.OK W) :
    Ctr Try.prog W 4 [.slice a0 ops.length c0] [old W] (fun _ : Unit => True) (fun _ => .bool true) (fun _ => [old W]) := by
  refine Ctr.of_body Try.func4 rfl Try.ntmps4 rfl ?_
  refine CG.seq ?_
  refine CG.region ?_
  refine OG.yield (Yield.assign rfl) rfl ?_
  refine OG.nil ?_
  refine QG.then ?_
  refine CG.seq ?_
  refine CG.seq ?_
  refine CG.region ?_
  refine OG.callo call9 rfl (Imp.refl _) (works_spec W _) rfl ?_
  rintro ⟨⟩ -
  refine OG.yield (Yield.not rfl) rfl ?_
  refine OG.nil ?_
  refine QG.then ?_
  refine CG.cond_f rfl ?_
  refine CG.skip ?_
  refine QG.then ?_
  refine CG.seq ?_
  refine CG.region ?_
  refine OG.callo call10 rfl ((by repeat (first | exact Imp.refl _ | exact Imp.none _ | apply Imp.pull (by repeat (first | exact Ext.here | apply Ext.there)) | apply Imp.trans Imp.drop))) (new_ok W _ (part := 0) (first := 0) (count := 8) (latency := 1) (by decide)) rfl ?_
  rintro d -
  refine OG.yield (Yield.move rfl) rfl ?_
  refine OG.yield (Yield.extract rfl rfl) rfl ?_
  refine OG.yield (Yield.extract rfl rfl) rfl ?_
  refine OG.yield (Yield.assign rfl) rfl ?_
  refine OG.yield (Yield.assign rfl) rfl ?_
  refine OG.nil ?_
  refine QG.then ?_
  refine CG.seq ?_
  refine CG.seq ?_
  refine CG.region ?_
  refine OG.yield (Yield.move rfl) rfl ?_
  refine OG.callo call11 rfl (Imp.refl _) (num_spec W _ 0) rfl ?_
  rintro ⟨⟩ -
  refine OG.yield (by first | exact Yield.as (Yield.neq rfl rfl) (bT (by omega)) | exact Yield.as (Yield.neq rfl rfl) (bF (by omega)) | exact Yield.neq rfl rfl) rfl ?_
  refine OG.yield (Yield.move rfl) rfl ?_
  refine OG.guard_yes rfl rfl rfl (by decide) ?_
  refine OG.yield (Yield.move rfl) rfl ?_
  refine OG.guard_yes rfl rfl rfl (by decide) ?_
  refine OG.yield (by first | exact Yield.ptr_nil Try.underlying26 rfl rfl | exact Yield.nil_nil Try.underlying26 rfl rfl) rfl ?_
  refine OG.yield (by first | exact Yield.pick_t rfl rfl | exact Yield.pick_f rfl rfl | exact Yield.pick rfl (fun _ => rfl) (fun _ => rfl)) rfl ?_
  refine OG.nil ?_
  refine QG.then ?_
  refine CG.cond_f rfl ?_
  refine CG.skip ?_
  refine QG.then ?_
  refine CG.seq ?_
  refine CG.region ?_
  refine OG.yield (Yield.assign rfl) rfl ?_
  refine OG.nil ?_
  refine QG.then ?_
  refine CG.seq ?_
  refine CG.region ?_
  refine OG.yield (Yield.assign rfl) rfl ?_
  refine OG.nil ?_
  refine QG.then ?_
  refine CG.seq ?_
  refine CG.seq ?_
  refine CG.region ?_
  refine OG.yield (Yield.assign rfl) rfl ?_
  refine OG.nil ?_
  refine QG.then ?_
  refine CG.block ?_
  refine CG.loop (fun x : Nat × Nat × Nat × Ds => (∃ P R, Tg x.1 x.2.1 x.2.2.1 x.2.2.2 P R) ∧ x.1 ≤ ops.length ∧ x.1 ≤ 200) (fun x => [(0, .slice a0 ops.length c0), (3, .pointer (some ⟨d, 0, none⟩)), (5, .int .u32 x.2.1), (6, .int .u32 x.2.2.1), (7, .int .i64 x.1)]) (fun x => [D d x.2.2.2, old W]) (fun x => ops.length - x.1) (0, 0, 0, ⟨0, 0, 8, 1, 0, [], []⟩) ⟨⟨[], [], ⟨rfl, fun x h => absurd h List.not_mem_nil, fun x h => absurd h List.not_mem_nil, fun x h => absurd h List.not_mem_nil, rfl, rfl, rfl, Nat.le_refl _, rfl, rfl⟩⟩, Nat.zero_le _, Nat.zero_le _⟩ (by repeat (first | exact Env.sub_nil _ | refine Env.sub_cons rfl ?_)) (by repeat (first | exact Imp.refl _ | exact Imp.none _ | apply Imp.pull (by repeat (first | exact Ext.here | apply Ext.there)) | apply Imp.trans Imp.drop)) ?_
  rintro ⟨i, last, over, s⟩ ⟨⟨P, R, htg⟩, im, im2⟩
  dsimp only at htg im im2 ⊢
  refine CG.pure (fun w hw => d_facts (W0 := W) (d := d) (s := s) (G := [D d s, old W]) Ext.here w hw) ?_
  intro hds
  have hd4 := hds.asks
  have hsum := htg.sum
  have hle := htg.le
  refine CG.seq ?_
  refine CG.seq ?_
  rcases loop_head (i) (ops.length) 200 with hh | hh | hh
  · skip
    refine CG.region ?_
    refine OG.yield (Yield.move rfl) rfl ?_
    refine OG.yield (Yield.move rfl) rfl ?_
    refine OG.yield (Yield.len_slice Try.underlying22 rfl rfl) rfl ?_
    refine OG.yield (by first | exact Yield.as (Yield.lss rfl rfl) (bT (by omega)) | exact Yield.as (Yield.lss rfl rfl) (bF (by omega)) | exact Yield.lss rfl rfl) rfl ?_
    refine OG.yield (Yield.move rfl) rfl ?_
    refine OG.guard_yes rfl rfl rfl (by decide) ?_
    refine OG.yield (Yield.move rfl) rfl ?_
    refine OG.guard_yes rfl rfl rfl (by decide) ?_
    refine OG.yield (by first | exact Yield.as (Yield.lss rfl rfl) (bT (by omega)) | exact Yield.as (Yield.lss rfl rfl) (bF (by omega)) | exact Yield.lss rfl rfl) rfl ?_
    refine OG.yield (by first | exact Yield.pick_t rfl rfl | exact Yield.pick_f rfl rfl | exact Yield.pick rfl (fun _ => rfl) (fun _ => rfl)) rfl ?_
    refine OG.nil ?_
    refine QG.then ?_
    refine CG.cond_t rfl ?_
    refine CG.skip ?_
    refine QG.then ?_
    refine CG.seq ?_
    refine CG.block ?_
    obtain ⟨h1, h2⟩ := hh
    have hget : ops[i]? = some ops[i] := by simp [h1]
    have hko := hok ops[i] (List.getElem_mem h1)
    generalize ops[i] = op at hget hko
    refine CG.pure (fun w hw => (hops.old (G := [D d s, old W]) (by repeat (first | exact Ext.here | apply Ext.there))).elem_shape VAct.len (by decide) h1 w hw) ?_
    rintro ⟨b, o, rfl⟩
    have hrow : ∀ {G R : List HProp}, Ext G (old W) R → Row W G b (o + i * 11) (VAct.cells op) := fun x => (hops.old x).elem VAct.len hget
    refine CG.cut (fun x : Nat × Nat × Ds => ∃ P R, Tg (i + 1) x.1 x.2.1 x.2.2 P R) (fun x => [(0, .slice (some ⟨b, o, none⟩) ops.length c0), (3, .pointer (some ⟨d, 0, none⟩)), (5, .int .u32 x.1), (6, .int .u32 x.2.1), (7, .int .i64 i)]) (fun x => [D d x.2.2, old W]) ?_ ?_
    · skip
      refine CG.seq ?_
      refine CG.region ?_
      refine OG.yield (Yield.move rfl) rfl ?_
      refine OG.yield (Yield.move rfl) rfl ?_
      refine OG.yield (Yield.index_slice Try.underlying22 ti42 rfl rfl (by omega) (by omega)) rfl ?_
      refine OG.yield (Yield.fieldAddr fa42_0 rfl) rfl ?_
      refine OG.yield (Yield.load (v := .int .i64 op.Kind) ti3 rfl ((hrow (by repeat (first | exact Ext.here | apply Ext.there))) 0 _ rfl)) rfl ?_
      refine OG.nil ?_
      refine QG.then ?_
      refine CG.block ?_
      refine CG.seq ?_
      refine CG.region ?_
      refine OG.yield (Yield.eql rfl rfl) rfl ?_
      refine OG.yield (Yield.assign rfl) rfl ?_
      refine OG.nil ?_
      refine QG.then ?_
      refine CG.cond rfl (fun hc => ?_) (fun hc => ?_)
      · try replace hc := of_decide_eq_true hc
        refine CG.seq ?_
        refine CG.region ?_
        refine OG.yield (Yield.move rfl) rfl ?_
        refine OG.callo call13 rfl ((by repeat (first | exact Imp.refl _ | exact Imp.none _ | apply Imp.pull (by repeat (first | exact Ext.here | apply Ext.there)) | apply Imp.trans Imp.drop))) (waiting_spec W _ (d := d) (s := s)) rfl ?_
        rintro ⟨aw, cw⟩ -
        rw [List.length_map]
        refine OG.yield (Yield.len_slice (a := aw) (m := s.asks.length) (c := cw) Try.underlying43 rfl rfl) rfl ?_
        refine OG.yield (Yield.assign rfl) rfl ?_
        refine OG.nil ?_
        refine QG.then ?_
        have hU := wrap_u64_range op.Sector
        generalize hUe : IntKind.u64.wrap op.Sector = U at hU
        refine CG.seq ?_
        rcases Classical.em (subE s false (U % 10) 0 i = 0) with he | he
        · skip
          have hlt : s.asks.length < 4 := sub_room he
          have hw : w32 (s.last + 1) = ((last + 1 : Nat) : Int) := by rw [htg.lst, w32_small (by omega) (by omega)]; rfl
          refine CG.draw (.look 0 1 (.look 1 1 (.look 2 1 (.look 3 1 (.look 4 1 (.look 5 1 (.look 6 1 (.look 7 1 (.look 8 1 (.look 9 1 (.look 10 1 (.look 11 1 (.look 12 1 (.look 13 1 (.look 14 1 (.eff1 15 false (.look 16 1 (.look 17 1 (.look 18 1 (.look 19 1 (.look 20 1 (.done)))))))))))))))))))))) [15] [] ([]) ([]) mixed (by kernel_rfl) (Imp.none _) (Imp.none _) ?_
          refine DG.look rfl rfl (Yield.move rfl) rfl ?_
          refine DG.look rfl rfl (Yield.move rfl) rfl ?_
          refine DG.look rfl rfl (Yield.move rfl) rfl ?_
          refine DG.look rfl rfl (Yield.index_slice Try.underlying22 ti42 rfl rfl (by omega) (by omega)) rfl ?_
          refine DG.look rfl rfl (Yield.fieldAddr fa42_2 rfl) rfl ?_
          refine DG.look rfl rfl (Yield.load (v := .int .i64 op.Sector) ti3 rfl ((hrow (by repeat (first | exact Ext.here | apply Ext.there))) 2 _ rfl)) rfl ?_
          refine DG.look rfl rfl (Yield.conv Try.underlying25 rfl rfl hUe) rfl ?_
          refine DG.look rfl rfl (Yield.rem rfl rfl (by omega) (tmod_pos (by omega) (by omega))) rfl ?_
          refine DG.look rfl rfl (by first | exact Yield.conv Try.underlying3 rfl rfl (w64 (by omega) (by omega)) | exact Yield.conv Try.underlying3 rfl rfl rfl) rfl ?_
          refine DG.look rfl rfl (Yield.move rfl) rfl ?_
          refine DG.look rfl rfl (Yield.move rfl) rfl ?_
          refine DG.look rfl rfl (Yield.index_slice Try.underlying22 ti42 rfl rfl (by omega) (by omega)) rfl ?_
          refine DG.look rfl rfl (Yield.fieldAddr fa42_3 rfl) rfl ?_
          refine DG.look rfl rfl (Yield.load (v := .int .u32 op.Addr) ti35 rfl ((hrow (by repeat (first | exact Ext.here | apply Ext.there))) 3 _ rfl)) rfl ?_
          refine DG.look rfl rfl (Yield.move rfl) rfl ?_
          refine DG.eff1 ?_
          refine Chg.callo rfl rfl call14 rfl ((by repeat (first | exact Imp.refl _ | exact Imp.none _ | apply Imp.pull (by repeat (first | exact Ext.here | apply Ext.there)) | apply Imp.trans Imp.drop))) (submit_ok W _ (d := d) (s := s) (write := false) (sector := U % 10) (addr := op.Addr) (major := i) (da := none) (dc := 0) (data := []) (RdB.of_slR SlR.nil (Nat.le_refl _)) (by decide) he) rfl (fun _ => (by repeat (first | exact Imp.refl _ | exact Imp.none _ | apply Imp.pull (by repeat (first | exact Ext.here | apply Ext.there)) | apply Imp.trans Imp.drop))) (fun _ => Imp.refl _) (fun _ => (by repeat (first | exact Imp.refl _ | exact Imp.none _ | apply Imp.pull (by repeat (first | exact Ext.here | apply Ext.there)) | apply Imp.trans Imp.drop))) ?_
          rintro ⟨⟩ -
          rw [hw]
          refine DG.look rfl rfl (Yield.move rfl) rfl ?_
          refine DG.look rfl rfl (Yield.extract rfl rfl) rfl ?_
          refine DG.look rfl rfl (Yield.extract rfl rfl) rfl ?_
          refine DG.look rfl rfl (Yield.assign rfl) rfl ?_
          refine DG.look rfl rfl (Yield.assign rfl) rfl ?_
          refine DG.done ?_
          refine QG.then ?_
          refine CG.seq ?_
          refine CG.seq ?_
          refine CG.region ?_
          refine OG.yield (Yield.move rfl) rfl ?_
          refine OG.callo call11 rfl (Imp.refl _) (num_spec W _ 0) rfl ?_
          rintro ⟨⟩ -
          refine OG.yield (by first | exact Yield.as (Yield.neq rfl rfl) (bT (by omega)) | exact Yield.as (Yield.neq rfl rfl) (bF (by omega)) | exact Yield.neq rfl rfl) rfl ?_
          refine OG.nil ?_
          refine QG.then ?_
          refine CG.cond_f rfl ?_
          refine CG.skip ?_
          refine QG.then ?_
          refine CG.seq ?_
          refine CG.region ?_
          refine OG.yield (Yield.move rfl) rfl ?_
          refine OG.yield (Yield.add rfl rfl (wu32 (by omega) (by omega))) rfl ?_
          refine OG.yield (Yield.assign rfl) rfl ?_
          refine OG.nil ?_
          refine QG.then ?_
          refine CG.seq ?_
          refine CG.region ?_
          refine OG.yield (Yield.move rfl) rfl ?_
          refine OG.yield (Yield.move rfl) rfl ?_
          refine OG.yield (Yield.as (Yield.neq rfl rfl) (bF (by omega))) rfl ?_
          refine OG.yield (Yield.move rfl) rfl ?_
          refine OG.guard_yes rfl rfl rfl (by decide) ?_
          refine OG.yield (Yield.move rfl) rfl ?_
          refine OG.guard_yes rfl rfl rfl (by decide) ?_
          refine OG.yield (by first | exact Yield.as (Yield.geq rfl rfl) (bT (by omega)) | exact Yield.as (Yield.geq rfl rfl) (bF (by omega)) | exact Yield.geq rfl rfl) rfl ?_
          refine OG.yield (by first | exact Yield.pick_t rfl rfl | exact Yield.pick_f rfl rfl | exact Yield.pick rfl (fun _ => rfl) (fun _ => rfl)) rfl ?_
          refine OG.nil ?_
          refine QG.then ?_
          refine CG.cond_f rfl ?_
          refine CG.skip ?_
          refine QG.block_normal ?_
          exact QG.mid (last + 1, over, subR s false (U % 10) op.Addr [] i) ⟨_, _, htg.sub (by omega) _ _⟩ (by repeat (first | exact Env.sub_nil _ | refine Env.sub_cons rfl ?_)) (by repeat (first | exact Imp.refl _ | exact Imp.none _ | apply Imp.pull (by repeat (first | exact Ext.here | apply Ext.there)) | apply Imp.trans Imp.drop))
        · skip
          skip
          refine CG.draw (.look 0 1 (.look 1 1 (.look 2 1 (.look 3 1 (.look 4 1 (.look 5 1 (.look 6 1 (.look 7 1 (.look 8 1 (.look 9 1 (.look 10 1 (.look 11 1 (.look 12 1 (.look 13 1 (.look 14 1 (.eff1 15 false (.look 16 1 (.look 17 1 (.look 18 1 (.look 19 1 (.look 20 1 (.done)))))))))))))))))))))) [15] [] ([]) ([]) mixed (by kernel_rfl) (Imp.none _) (Imp.none _) ?_
          refine DG.look rfl rfl (Yield.move rfl) rfl ?_
          refine DG.look rfl rfl (Yield.move rfl) rfl ?_
          refine DG.look rfl rfl (Yield.move rfl) rfl ?_
          refine DG.look rfl rfl (Yield.index_slice Try.underlying22 ti42 rfl rfl (by omega) (by omega)) rfl ?_
          refine DG.look rfl rfl (Yield.fieldAddr fa42_2 rfl) rfl ?_
          refine DG.look rfl rfl (Yield.load (v := .int .i64 op.Sector) ti3 rfl ((hrow (by repeat (first | exact Ext.here | apply Ext.there))) 2 _ rfl)) rfl ?_
          refine DG.look rfl rfl (Yield.conv Try.underlying25 rfl rfl hUe) rfl ?_
          refine DG.look rfl rfl (Yield.rem rfl rfl (by omega) (tmod_pos (by omega) (by omega))) rfl ?_
          refine DG.look rfl rfl (by first | exact Yield.conv Try.underlying3 rfl rfl (w64 (by omega) (by omega)) | exact Yield.conv Try.underlying3 rfl rfl rfl) rfl ?_
          refine DG.look rfl rfl (Yield.move rfl) rfl ?_
          refine DG.look rfl rfl (Yield.move rfl) rfl ?_
          refine DG.look rfl rfl (Yield.index_slice Try.underlying22 ti42 rfl rfl (by omega) (by omega)) rfl ?_
          refine DG.look rfl rfl (Yield.fieldAddr fa42_3 rfl) rfl ?_
          refine DG.look rfl rfl (Yield.load (v := .int .u32 op.Addr) ti35 rfl ((hrow (by repeat (first | exact Ext.here | apply Ext.there))) 3 _ rfl)) rfl ?_
          refine DG.look rfl rfl (Yield.move rfl) rfl ?_
          refine DG.eff1 ?_
          refine Chg.callo rfl rfl call14 rfl ((by repeat (first | exact Imp.refl _ | exact Imp.none _ | apply Imp.pull (by repeat (first | exact Ext.here | apply Ext.there)) | apply Imp.trans Imp.drop))) (submit_bad W _ (d := d) (s := s) (write := false) (sector := U % 10) (addr := op.Addr) (major := i) (da := none) (dm := 0) (dc := 0) he) rfl (fun _ => (by repeat (first | exact Imp.refl _ | exact Imp.none _ | apply Imp.pull (by repeat (first | exact Ext.here | apply Ext.there)) | apply Imp.trans Imp.drop))) (fun _ => Imp.refl _) (fun _ => (by repeat (first | exact Imp.refl _ | exact Imp.none _ | apply Imp.pull (by repeat (first | exact Ext.here | apply Ext.there)) | apply Imp.trans Imp.drop))) ?_
          rintro ⟨⟩ -
          refine DG.look rfl rfl (Yield.move rfl) rfl ?_
          refine DG.look rfl rfl (Yield.extract rfl rfl) rfl ?_
          refine DG.look rfl rfl (Yield.extract rfl rfl) rfl ?_
          refine DG.look rfl rfl (Yield.assign rfl) rfl ?_
          refine DG.look rfl rfl (Yield.assign rfl) rfl ?_
          refine DG.done ?_
          refine QG.then ?_
          refine CG.seq ?_
          refine CG.seq ?_
          refine CG.region ?_
          refine OG.yield (Yield.move rfl) rfl ?_
          refine OG.callo call11 rfl (Imp.refl _) (num_spec W _ (subE s false (U % 10) 0 i)) rfl ?_
          rintro ⟨⟩ -
          refine OG.yield (Yield.as (Yield.neq rfl rfl) (bT he)) rfl ?_
          refine OG.nil ?_
          refine QG.then ?_
          refine CG.cond_t rfl ?_
          refine CG.seq ?_
          refine CG.seq ?_
          refine CG.region ?_
          refine OG.yield (Yield.move rfl) rfl ?_
          refine OG.yield (by first | exact Yield.as (Yield.neq rfl rfl) (bT (by omega)) | exact Yield.as (Yield.neq rfl rfl) (bF (by omega)) | exact Yield.neq rfl rfl) rfl ?_
          refine OG.yield (Yield.move rfl) rfl ?_
          refine OG.guard_yes rfl rfl rfl (by decide) ?_
          refine OG.yield (Yield.move rfl) rfl ?_
          refine OG.guard_yes rfl rfl rfl (by decide) ?_
          refine OG.callo call13 rfl ((by repeat (first | exact Imp.refl _ | exact Imp.none _ | apply Imp.pull (by repeat (first | exact Ext.here | apply Ext.there)) | apply Imp.trans Imp.drop))) (waiting_spec W _ (d := d) (s := s)) rfl ?_
          rintro ⟨aw2, cw2⟩ -
          rw [List.length_map]
          refine OG.guard_yes rfl rfl rfl (by decide) ?_
          refine OG.yield (Yield.len_slice (a := aw2) (m := s.asks.length) (c := cw2) Try.underlying43 rfl rfl) rfl ?_
          refine OG.guard_yes rfl rfl rfl (by decide) ?_
          refine OG.yield (Yield.move rfl) rfl ?_
          refine OG.guard_yes rfl rfl rfl (by decide) ?_
          refine OG.yield (by first | exact Yield.as (Yield.neq rfl rfl) (bT (by omega)) | exact Yield.as (Yield.neq rfl rfl) (bF (by omega)) | exact Yield.neq rfl rfl) rfl ?_
          refine OG.yield (by first | exact Yield.pick_t rfl rfl | exact Yield.pick_f rfl rfl | exact Yield.pick rfl (fun _ => rfl) (fun _ => rfl)) rfl ?_
          refine OG.nil ?_
          refine QG.then ?_
          refine CG.cond_f rfl ?_
          refine CG.skip ?_
          refine QG.then ?_
          refine CG.exit ?_
          refine QG.pass_exit ?_
          refine QG.block_out (by decide) ?_
          refine QG.pass_exit ?_
          refine QG.block_exit ?_
          refine QG.then ?_
          refine CG.region ?_
          refine OG.yield (Yield.move rfl) rfl ?_
          refine OG.yield (Yield.add rfl rfl (w64 (by omega) (by omega))) rfl ?_
          refine OG.yield (Yield.assign rfl) rfl ?_
          refine OG.nil ?_
          exact QG.next (i + 1, last, over, s) ⟨⟨P, R, htg.mono⟩, by simp only; omega, by simp only; omega⟩ (by simp only; omega) (by repeat (first | exact Env.sub_nil _ | refine Env.sub_cons rfl ?_)) (by repeat (first | exact Imp.refl _ | exact Imp.none _ | apply Imp.pull (by repeat (first | exact Ext.here | apply Ext.there)) | apply Imp.trans Imp.drop))
      · try replace hc := of_decide_eq_false hc
        refine CG.seq ?_
        refine CG.seq ?_
        rcases (show op.Kind = 1 ∨ (op.Kind ≠ 1 ∧ op.Kind = 2) ∨ (op.Kind ≠ 1 ∧ op.Kind ≠ 2) by omega) with hk | hk | hk
        · skip
          refine CG.region ?_
          refine OG.yield (by first | exact Yield.as (Yield.eql rfl rfl) (bT (by omega)) | exact Yield.as (Yield.eql rfl rfl) (bF (by omega)) | exact Yield.eql rfl rfl) rfl ?_
          refine OG.yield (Yield.assign rfl) rfl ?_
          refine OG.nil ?_
          refine QG.then ?_
          refine CG.cond_t rfl ?_
          refine CG.skip ?_
          refine QG.then ?_
          refine CG.cond_t rfl ?_
          refine CG.seq ?_
          refine CG.region ?_
          refine OG.yield (Yield.move rfl) rfl ?_
          refine OG.callo call15 rfl ((by repeat (first | exact Imp.refl _ | exact Imp.none _ | apply Imp.pull (by repeat (first | exact Ext.here | apply Ext.there)) | apply Imp.trans Imp.drop))) (issue_spec W _ (d := d) (s := s)) rfl ?_
          rintro ⟨l, la, lc⟩ hl
          dsimp only at hl
          rw [htg.issued.1] at hl
          have hll : l.length = R.length := by have := congrArg List.length hl; simpa using this
          have hRs : R.length ≤ s.asks.length := by rw [htg.asks, List.length_append]; omega
          dsimp only [Rqs.G, List.cons_append, List.nil_append]
          have hs0 := htg.issued.2
          refine OG.yield (Yield.assign rfl) rfl ?_
          refine OG.nil ?_
          refine QG.then ?_
          refine CG.seq ?_
          refine CG.region ?_
          refine OG.yield (Yield.assign rfl) rfl ?_
          refine OG.nil ?_
          refine QG.then ?_
          refine CG.block ?_
          refine CG.loop (fun x : Nat × Ds => x.1 ≤ l.length ∧ x.2.asks = mid P R x.1 ∧ x.2.last = s.last ∧ x.2.count = s.count ∧ x.2.latency = s.latency) (fun x => [(0, .slice (some ⟨b, o, none⟩) ops.length c0), (3, .pointer (some ⟨d, 0, none⟩)), (5, .int .u32 last), (6, .int .u32 over), (7, .int .i64 i), (11, .slice la l.length lc), (12, .int .i64 x.1)]) (fun x => oreqs la lc l :: [D d x.2, old W]) (fun x => l.length - x.1) (0, issS s) ⟨Nat.zero_le _, hs0, rfl, rfl, rfl⟩ (by repeat (first | exact Env.sub_nil _ | refine Env.sub_cons rfl ?_)) (by repeat (first | exact Imp.refl _ | exact Imp.none _ | apply Imp.pull (by repeat (first | exact Ext.here | apply Ext.there)) | apply Imp.trans Imp.drop)) ?_
          rintro ⟨k, sk⟩ ⟨hk1, hk2, hk3, hk4, hk5⟩
          dsimp only at hk1 hk2 hk3 hk4 hk5 ⊢
          refine CG.seq ?_
          refine CG.seq ?_
          refine CG.region ?_
          refine OG.yield (Yield.move rfl) rfl ?_
          refine OG.yield (Yield.move rfl) rfl ?_
          refine OG.yield (Yield.len_slice Try.underlying32 rfl rfl) rfl ?_
          refine OG.yield (by first | exact Yield.as (Yield.lss rfl rfl) (bT (by omega)) | exact Yield.as (Yield.lss rfl rfl) (bF (by omega)) | exact Yield.lss rfl rfl) rfl ?_
          refine OG.nil ?_
          refine QG.then ?_
          refine CG.cond rfl (fun hc => ?_) (fun hc => ?_)
          · try replace hc := of_decide_eq_true hc
            have hkl : k < l.length := by omega
            obtain ⟨cr, hg1, hg2⟩ := map_get hl hkl
            obtain ⟨x, hRx, hxr⟩ : ∃ x, R[k]? = some x ∧ req s x = cr.abs := by
              rw [List.getElem?_map] at hg2
              cases hq : R[k]? with
              | none => rw [hq] at hg2; cases hg2
              | some x => rw [hq] at hg2; exact ⟨x, rfl, by simpa using hg2⟩
            have htx : cr.tag = x.tag := (congrArg Rq.tag hxr).symm
            have hxm := htg.all x (by rw [htg.asks]; exact List.mem_append.2 (.inr (List.mem_of_getElem? hRx)))
            refine CG.pure (fun w hw => SlR.elem_shape (W0 := W) (f := CR.cells) (xs := l) (i := k) (SlR.of_osl (E := 40) (a := la) (c := lc) (by repeat (first | exact Ext.here | apply Ext.there))) CR.len (by decide) hkl w hw) ?_
            rintro ⟨bl, ol, rfl⟩
            refine CG.skip ?_
            refine QG.then ?_
            refine CG.seq ?_
            refine CG.block ?_
            refine CG.seq ?_
            refine CG.draw (.look 0 0 (.look 1 0 (.look 2 0 (.look 3 0 (.look 4 0 (.look 5 0 (.eff1 6 false (.look 7 1 (.eff1 8 false (.eff1 9 false (.look 10 1 (.done)))))))))))) [6, 8, 9] [] ([oreqs (some ⟨bl, ol, none⟩) lc l]) ([]) mixed (by kernel_rfl) ((by repeat (first | exact Imp.refl _ | exact Imp.none _ | apply Imp.pull (by repeat (first | exact Ext.here | apply Ext.there)) | apply Imp.trans Imp.drop))) (Imp.none _) ?_
            refine DG.look rfl rfl (Yield.move rfl) rfl ?_
            refine DG.look rfl rfl (Yield.move rfl) rfl ?_
            refine DG.look rfl rfl (Yield.move rfl) rfl ?_
            refine DG.look rfl rfl (Yield.index_slice (b := bl) (o := ol) (m := l.length) (c := lc) Try.underlying32 ti40 rfl rfl (by omega) (by omega)) rfl ?_
            refine DG.look rfl rfl (Yield.fieldAddr fa40_1 rfl) rfl ?_
            refine DG.look rfl rfl (Yield.load (v := .int .u32 cr.tag) ti35 rfl (by rw [show ol + (k : Int).toNat * 5 = ol + k * 5 by omega]; exact (SlR.elem (f := CR.cells) (xs := l) (i := k) (SlR.of_osl (E := 40) (a := some ⟨bl, ol, none⟩) (c := lc) (by repeat (first | exact Ext.here | apply Ext.there))) CR.len hg1) 1 _ rfl)) rfl ?_
            refine DG.eff1 ?_
            refine Chg.eff rfl rfl (Eff.makeB 64 Try.underlying36 ti5 rfl rfl (by decide)) rfl (fun _ => (by repeat (first | exact Imp.refl _ | exact Imp.none _ | apply Imp.pull (by repeat (first | exact Ext.here | apply Ext.there)) | apply Imp.trans Imp.drop))) (fun _ => Imp.refl _) (fun _ => (by repeat (first | exact Imp.refl _ | exact Imp.none _ | apply Imp.pull (by repeat (first | exact Ext.here | apply Ext.there)) | apply Imp.trans Imp.drop))) ?_
            rintro b106 -
            refine DG.look rfl rfl (Yield.build (pvs := [(1, .int .u32 cr.tag), (4, .slice (some ⟨b106, 0, none⟩) 64 64)]) bu40 ti40 rfl (cells := CR.cells ⟨0, cr.tag, false, 0, ⟨some ⟨b106, 0, none⟩, 64, zb⟩⟩) rfl) rfl ?_
            refine DG.eff1 ?_
            refine Chg.callo rfl rfl call16 rfl ((by repeat (first | exact Imp.refl _ | exact Imp.none _ | apply Imp.pull (by repeat (first | exact Ext.here | apply Ext.there)) | apply Imp.trans Imp.drop))) (complete_spec W _ (d := d) (s := sk) (r := ⟨0, cr.tag, false, 0, ⟨some ⟨b106, 0, none⟩, 64, zb⟩⟩) (RdB.of_osl (E := 5) (a := some ⟨b106, 0, none⟩) (by repeat (first | exact Ext.here | apply Ext.there)) rfl rfl) (by show zb.length ≤ _; decide)) rfl (fun _ => (by repeat (first | exact Imp.refl _ | exact Imp.none _ | apply Imp.pull (by repeat (first | exact Ext.here | apply Ext.there)) | apply Imp.trans Imp.drop))) (fun _ => Imp.refl _) (fun _ => (by repeat (first | exact Imp.refl _ | exact Imp.none _ | apply Imp.pull (by repeat (first | exact Ext.here | apply Ext.there)) | apply Imp.trans Imp.drop))) ?_
            rintro ⟨⟩ -
            dsimp only
            rw [htx, com_mid htg.a2 hRx hxm.1 hk2]
            refine DG.eff1 ?_
            refine Chg.callo rfl rfl call11 rfl (Imp.refl _) (num_spec W _ 0) rfl (fun _ => (by repeat (first | exact Imp.refl _ | exact Imp.none _ | apply Imp.pull (by repeat (first | exact Ext.here | apply Ext.there)) | apply Imp.trans Imp.drop))) (fun _ => Imp.refl _) (fun _ => (by repeat (first | exact Imp.refl _ | exact Imp.none _ | apply Imp.pull (by repeat (first | exact Ext.here | apply Ext.there)) | apply Imp.trans Imp.drop))) ?_
            rintro ⟨⟩ -
            refine DG.look rfl rfl (by first | exact Yield.as (Yield.neq rfl rfl) (bT (by omega)) | exact Yield.as (Yield.neq rfl rfl) (bF (by omega)) | exact Yield.neq rfl rfl) rfl ?_
            refine DG.done ?_
            refine QG.then ?_
            refine CG.cond_f rfl ?_
            refine CG.skip ?_
            refine QG.block_normal ?_
            refine QG.then ?_
            refine CG.region ?_
            refine OG.yield (Yield.move rfl) rfl ?_
            refine OG.yield (Yield.add rfl rfl (w64 (by omega) (by omega))) rfl ?_
            refine OG.yield (Yield.assign rfl) rfl ?_
            refine OG.nil ?_
            exact QG.next (k + 1, { sk with asks := mid P R (k + 1) }) ⟨by simp only; omega, rfl, hk3, hk4, hk5⟩ (by simp only; omega) (by repeat (first | exact Env.sub_nil _ | refine Env.sub_cons rfl ?_)) (by repeat (first | exact Imp.refl _ | exact Imp.none _ | apply Imp.pull (by repeat (first | exact Ext.here | apply Ext.there)) | apply Imp.trans Imp.drop))
          · try replace hc := of_decide_eq_false hc
            refine CG.exit ?_
            refine QG.pass_exit ?_
            refine QG.pass_exit ?_
            refine QG.block_exit ?_
            refine QG.block_normal ?_
            have hke : k = R.length := by omega
            subst hke
            exact QG.mid (last, over, sk) ⟨_, _, (htg.fin hk2 hk3 hk4 hk5).mono⟩ (by repeat (first | exact Env.sub_nil _ | refine Env.sub_cons rfl ?_)) (by repeat (first | exact Imp.refl _ | exact Imp.none _ | apply Imp.pull (by repeat (first | exact Ext.here | apply Ext.there)) | apply Imp.trans Imp.drop))
        · skip
          refine CG.region ?_
          refine OG.yield (by first | exact Yield.as (Yield.eql rfl rfl) (bT (by omega)) | exact Yield.as (Yield.eql rfl rfl) (bF (by omega)) | exact Yield.eql rfl rfl) rfl ?_
          refine OG.yield (Yield.assign rfl) rfl ?_
          refine OG.nil ?_
          refine QG.then ?_
          refine CG.cond_f rfl ?_
          refine CG.region ?_
          refine OG.yield (by first | exact Yield.as (Yield.eql rfl rfl) (bT (by omega)) | exact Yield.as (Yield.eql rfl rfl) (bF (by omega)) | exact Yield.eql rfl rfl) rfl ?_
          refine OG.yield (Yield.assign rfl) rfl ?_
          refine OG.nil ?_
          refine QG.then ?_
          refine CG.cond_t rfl ?_
          refine CG.seq ?_
          refine CG.region ?_
          refine OG.yield (Yield.move rfl) rfl ?_
          refine OG.callo call15 rfl ((by repeat (first | exact Imp.refl _ | exact Imp.none _ | apply Imp.pull (by repeat (first | exact Ext.here | apply Ext.there)) | apply Imp.trans Imp.drop))) (issue_spec W _ (d := d) (s := s)) rfl ?_
          rintro ⟨l, la, lc⟩ hl
          dsimp only at hl
          rw [htg.issued.1] at hl
          have hll : l.length = R.length := by have := congrArg List.length hl; simpa using this
          have hRs : R.length ≤ s.asks.length := by rw [htg.asks, List.length_append]; omega
          dsimp only [Rqs.G, List.cons_append, List.nil_append]
          have hs0 := htg.issued.2
          refine OG.yield (Yield.assign rfl) rfl ?_
          refine OG.nil ?_
          refine QG.then ?_
          refine CG.seq ?_
          refine CG.region ?_
          refine OG.yield (Yield.assign rfl) rfl ?_
          refine OG.nil ?_
          refine QG.then ?_
          refine CG.block ?_
          refine CG.loop (fun x : Nat × Ds => x.1 ≤ l.length ∧ x.2.asks = mid P R x.1 ∧ x.2.last = s.last ∧ x.2.count = s.count ∧ x.2.latency = s.latency) (fun x => [(0, .slice (some ⟨b, o, none⟩) ops.length c0), (3, .pointer (some ⟨d, 0, none⟩)), (5, .int .u32 last), (6, .int .u32 over), (7, .int .i64 i), (11, .slice la l.length lc), (12, .int .i64 x.1)]) (fun x => oreqs la lc l :: [D d x.2, old W]) (fun x => l.length - x.1) (0, issS s) ⟨Nat.zero_le _, hs0, rfl, rfl, rfl⟩ (by repeat (first | exact Env.sub_nil _ | refine Env.sub_cons rfl ?_)) (by repeat (first | exact Imp.refl _ | exact Imp.none _ | apply Imp.pull (by repeat (first | exact Ext.here | apply Ext.there)) | apply Imp.trans Imp.drop)) ?_
          rintro ⟨k, sk⟩ ⟨hk1, hk2, hk3, hk4, hk5⟩
          dsimp only at hk1 hk2 hk3 hk4 hk5 ⊢
          refine CG.seq ?_
          refine CG.seq ?_
          refine CG.region ?_
          refine OG.yield (Yield.move rfl) rfl ?_
          refine OG.yield (Yield.move rfl) rfl ?_
          refine OG.yield (Yield.len_slice Try.underlying32 rfl rfl) rfl ?_
          refine OG.yield (by first | exact Yield.as (Yield.lss rfl rfl) (bT (by omega)) | exact Yield.as (Yield.lss rfl rfl) (bF (by omega)) | exact Yield.lss rfl rfl) rfl ?_
          refine OG.nil ?_
          refine QG.then ?_
          refine CG.cond rfl (fun hc => ?_) (fun hc => ?_)
          · try replace hc := of_decide_eq_true hc
            have hkl : k < l.length := by omega
            obtain ⟨cr, hg1, hg2⟩ := map_get hl hkl
            obtain ⟨x, hRx, hxr⟩ : ∃ x, R[k]? = some x ∧ req s x = cr.abs := by
              rw [List.getElem?_map] at hg2
              cases hq : R[k]? with
              | none => rw [hq] at hg2; cases hg2
              | some x => rw [hq] at hg2; exact ⟨x, rfl, by simpa using hg2⟩
            have htx : cr.tag = x.tag := (congrArg Rq.tag hxr).symm
            have hxm := htg.all x (by rw [htg.asks]; exact List.mem_append.2 (.inr (List.mem_of_getElem? hRx)))
            refine CG.pure (fun w hw => SlR.elem_shape (W0 := W) (f := CR.cells) (xs := l) (i := k) (SlR.of_osl (E := 40) (a := la) (c := lc) (by repeat (first | exact Ext.here | apply Ext.there))) CR.len (by decide) hkl w hw) ?_
            rintro ⟨bl, ol, rfl⟩
            refine CG.skip ?_
            refine QG.then ?_
            refine CG.seq ?_
            refine CG.block ?_
            refine CG.seq ?_
            refine CG.draw (.look 0 0 (.look 1 0 (.look 2 0 (.look 3 0 (.look 4 0 (.look 5 0 (.eff1 6 false (.look 7 1 (.eff1 8 false (.eff1 9 false (.look 10 1 (.done)))))))))))) [6, 8, 9] [] ([oreqs (some ⟨bl, ol, none⟩) lc l]) ([]) mixed (by kernel_rfl) ((by repeat (first | exact Imp.refl _ | exact Imp.none _ | apply Imp.pull (by repeat (first | exact Ext.here | apply Ext.there)) | apply Imp.trans Imp.drop))) (Imp.none _) ?_
            refine DG.look rfl rfl (Yield.move rfl) rfl ?_
            refine DG.look rfl rfl (Yield.move rfl) rfl ?_
            refine DG.look rfl rfl (Yield.move rfl) rfl ?_
            refine DG.look rfl rfl (Yield.index_slice (b := bl) (o := ol) (m := l.length) (c := lc) Try.underlying32 ti40 rfl rfl (by omega) (by omega)) rfl ?_
            refine DG.look rfl rfl (Yield.fieldAddr fa40_1 rfl) rfl ?_
            refine DG.look rfl rfl (Yield.load (v := .int .u32 cr.tag) ti35 rfl (by rw [show ol + (k : Int).toNat * 5 = ol + k * 5 by omega]; exact (SlR.elem (f := CR.cells) (xs := l) (i := k) (SlR.of_osl (E := 40) (a := some ⟨bl, ol, none⟩) (c := lc) (by repeat (first | exact Ext.here | apply Ext.there))) CR.len hg1) 1 _ rfl)) rfl ?_
            refine DG.eff1 ?_
            refine Chg.eff rfl rfl (Eff.makeB 64 Try.underlying36 ti5 rfl rfl (by decide)) rfl (fun _ => (by repeat (first | exact Imp.refl _ | exact Imp.none _ | apply Imp.pull (by repeat (first | exact Ext.here | apply Ext.there)) | apply Imp.trans Imp.drop))) (fun _ => Imp.refl _) (fun _ => (by repeat (first | exact Imp.refl _ | exact Imp.none _ | apply Imp.pull (by repeat (first | exact Ext.here | apply Ext.there)) | apply Imp.trans Imp.drop))) ?_
            rintro b106 -
            refine DG.look rfl rfl (Yield.build (pvs := [(1, .int .u32 cr.tag), (4, .slice (some ⟨b106, 0, none⟩) 64 64)]) bu40 ti40 rfl (cells := CR.cells ⟨0, cr.tag, false, 0, ⟨some ⟨b106, 0, none⟩, 64, zb⟩⟩) rfl) rfl ?_
            refine DG.eff1 ?_
            refine Chg.callo rfl rfl call16 rfl ((by repeat (first | exact Imp.refl _ | exact Imp.none _ | apply Imp.pull (by repeat (first | exact Ext.here | apply Ext.there)) | apply Imp.trans Imp.drop))) (complete_spec W _ (d := d) (s := sk) (r := ⟨0, cr.tag, false, 0, ⟨some ⟨b106, 0, none⟩, 64, zb⟩⟩) (RdB.of_osl (E := 5) (a := some ⟨b106, 0, none⟩) (by repeat (first | exact Ext.here | apply Ext.there)) rfl rfl) (by show zb.length ≤ _; decide)) rfl (fun _ => (by repeat (first | exact Imp.refl _ | exact Imp.none _ | apply Imp.pull (by repeat (first | exact Ext.here | apply Ext.there)) | apply Imp.trans Imp.drop))) (fun _ => Imp.refl _) (fun _ => (by repeat (first | exact Imp.refl _ | exact Imp.none _ | apply Imp.pull (by repeat (first | exact Ext.here | apply Ext.there)) | apply Imp.trans Imp.drop))) ?_
            rintro ⟨⟩ -
            dsimp only
            rw [htx, com_mid htg.a2 hRx hxm.1 hk2]
            refine DG.eff1 ?_
            refine Chg.callo rfl rfl call11 rfl (Imp.refl _) (num_spec W _ 0) rfl (fun _ => (by repeat (first | exact Imp.refl _ | exact Imp.none _ | apply Imp.pull (by repeat (first | exact Ext.here | apply Ext.there)) | apply Imp.trans Imp.drop))) (fun _ => Imp.refl _) (fun _ => (by repeat (first | exact Imp.refl _ | exact Imp.none _ | apply Imp.pull (by repeat (first | exact Ext.here | apply Ext.there)) | apply Imp.trans Imp.drop))) ?_
            rintro ⟨⟩ -
            refine DG.look rfl rfl (by first | exact Yield.as (Yield.neq rfl rfl) (bT (by omega)) | exact Yield.as (Yield.neq rfl rfl) (bF (by omega)) | exact Yield.neq rfl rfl) rfl ?_
            refine DG.done ?_
            refine QG.then ?_
            refine CG.cond_f rfl ?_
            refine CG.skip ?_
            refine QG.block_normal ?_
            refine QG.then ?_
            refine CG.region ?_
            refine OG.yield (Yield.move rfl) rfl ?_
            refine OG.yield (Yield.add rfl rfl (w64 (by omega) (by omega))) rfl ?_
            refine OG.yield (Yield.assign rfl) rfl ?_
            refine OG.nil ?_
            exact QG.next (k + 1, { sk with asks := mid P R (k + 1) }) ⟨by simp only; omega, rfl, hk3, hk4, hk5⟩ (by simp only; omega) (by repeat (first | exact Env.sub_nil _ | refine Env.sub_cons rfl ?_)) (by repeat (first | exact Imp.refl _ | exact Imp.none _ | apply Imp.pull (by repeat (first | exact Ext.here | apply Ext.there)) | apply Imp.trans Imp.drop))
          · try replace hc := of_decide_eq_false hc
            refine CG.exit ?_
            refine QG.pass_exit ?_
            refine QG.pass_exit ?_
            refine QG.block_exit ?_
            refine QG.block_normal ?_
            have hke : k = R.length := by omega
            subst hke
            exact QG.mid (last, over, sk) ⟨_, _, (htg.fin hk2 hk3 hk4 hk5).mono⟩ (by repeat (first | exact Env.sub_nil _ | refine Env.sub_cons rfl ?_)) (by repeat (first | exact Imp.refl _ | exact Imp.none _ | apply Imp.pull (by repeat (first | exact Ext.here | apply Ext.there)) | apply Imp.trans Imp.drop))
        · skip
          refine CG.region ?_
          refine OG.yield (by first | exact Yield.as (Yield.eql rfl rfl) (bT (by omega)) | exact Yield.as (Yield.eql rfl rfl) (bF (by omega)) | exact Yield.eql rfl rfl) rfl ?_
          refine OG.yield (Yield.assign rfl) rfl ?_
          refine OG.nil ?_
          refine QG.then ?_
          refine CG.cond_f rfl ?_
          refine CG.region ?_
          refine OG.yield (by first | exact Yield.as (Yield.eql rfl rfl) (bT (by omega)) | exact Yield.as (Yield.eql rfl rfl) (bF (by omega)) | exact Yield.eql rfl rfl) rfl ?_
          refine OG.yield (Yield.assign rfl) rfl ?_
          refine OG.nil ?_
          refine QG.then ?_
          refine CG.cond_f rfl ?_
          refine CG.seq ?_
          refine CG.region ?_
          refine OG.yield (Yield.eql rfl rfl) rfl ?_
          refine OG.yield (Yield.assign rfl) rfl ?_
          refine OG.nil ?_
          refine QG.then ?_
          refine CG.cond rfl (fun hc => ?_) (fun hc => ?_)
          · try replace hc := of_decide_eq_true hc
            refine CG.seq ?_
            refine CG.region ?_
            refine OG.yield (Yield.move rfl) rfl ?_
            refine OG.yield (Yield.move rfl) rfl ?_
            refine OG.yield (Yield.add rfl rfl (w64 (by omega) (by omega))) rfl ?_
            refine OG.callo call12 rfl ((by repeat (first | exact Imp.refl _ | exact Imp.none _ | apply Imp.pull (by repeat (first | exact Ext.here | apply Ext.there)) | apply Imp.trans Imp.drop))) (ready_spec W _ (d := d) (s := s) ((i : Int) + 1)) rfl ?_
            rintro ⟨l, la, lc⟩ hl
            dsimp only at hl
            unfold rdyL at hl
            rw [htg.rdy.1] at hl
            have hll : l.length = P.length := by have := congrArg List.length hl; simpa using this
            have hPs : P.length ≤ s.asks.length := by rw [htg.asks, List.length_append]; omega
            dsimp only [Dns.G, List.cons_append, List.nil_append]
            refine OG.yield (Yield.assign rfl) rfl ?_
            refine OG.nil ?_
            refine QG.then ?_
            refine CG.seq ?_
            refine CG.region ?_
            refine OG.yield (Yield.assign rfl) rfl ?_
            refine OG.nil ?_
            refine QG.then ?_
            refine CG.block ?_
            refine CG.loop (fun k : Nat => k ≤ l.length) (fun k => [(0, .slice (some ⟨b, o, none⟩) ops.length c0), (3, .pointer (some ⟨d, 0, none⟩)), (5, .int .u32 last), (6, .int .u32 ((over + k : Nat) : Int)), (7, .int .i64 i), (13, .slice la l.length lc), (14, .int .i64 k)]) (fun _ => odone la lc l :: [D d (rdyS s ((i : Int) + 1)), old W]) (fun k => l.length - k) 0 (Nat.zero_le _) (by repeat (first | exact Env.sub_nil _ | refine Env.sub_cons rfl ?_)) (by repeat (first | exact Imp.refl _ | exact Imp.none _ | apply Imp.pull (by repeat (first | exact Ext.here | apply Ext.there)) | apply Imp.trans Imp.drop)) ?_
            intro k hk1
            refine CG.seq ?_
            refine CG.seq ?_
            refine CG.region ?_
            refine OG.yield (Yield.move rfl) rfl ?_
            refine OG.yield (Yield.move rfl) rfl ?_
            refine OG.yield (Yield.len_slice Try.underlying33 rfl rfl) rfl ?_
            refine OG.yield (by first | exact Yield.as (Yield.lss rfl rfl) (bT (by omega)) | exact Yield.as (Yield.lss rfl rfl) (bF (by omega)) | exact Yield.lss rfl rfl) rfl ?_
            refine OG.nil ?_
            refine QG.then ?_
            refine CG.cond rfl (fun hc => ?_) (fun hc => ?_)
            · try replace hc := of_decide_eq_true hc
              have hkl : k < l.length := by omega
              obtain ⟨cd, hg1, hg2⟩ := map_get hl hkl
              have htx : cd.tag = ((over + 1 + k : Nat) : Int) := by
                rw [List.getElem?_map] at hg2
                cases hq : P[k]? with
                | none => rw [hq] at hg2; cases hg2
                | some x =>
                  rw [hq] at hg2
                  have h9 : done x = cd.abs := by simpa using hg2
                  have h8 : cd.tag = x.tag := (congrArg Dn.tag h9).symm
                  have h7 : s.asks[k]? = some x := by rw [htg.asks, List.getElem?_append_left (by omega)]; exact hq
                  have h6 : (s.asks.map Ak.tag)[k]? = some x.tag := by rw [List.getElem?_map, h7]; rfl
                  rw [htg.tags, upto_get (by omega)] at h6
                  rw [h8]; exact (Option.some.inj h6).symm
              refine CG.pure (fun w hw => SlR.elem_shape (W0 := W) (f := CD.cells) (xs := l) (i := k) (SlR.of_osl (E := 38) (a := la) (c := lc) (by repeat (first | exact Ext.here | apply Ext.there))) CD.len (by decide) hkl w hw) ?_
              rintro ⟨bl, ol, rfl⟩
              refine CG.skip ?_
              refine QG.then ?_
              refine CG.seq ?_
              refine CG.block ?_
              refine CG.seq ?_
              refine CG.region ?_
              refine OG.yield (Yield.move rfl) rfl ?_
              refine OG.yield (Yield.add rfl rfl (wu32 (by omega) (by omega))) rfl ?_
              refine OG.yield (Yield.assign rfl) rfl ?_
              refine OG.nil ?_
              refine QG.then ?_
              refine CG.seq ?_
              refine CG.region ?_
              refine OG.yield (Yield.move rfl) rfl ?_
              refine OG.yield (Yield.move rfl) rfl ?_
              refine OG.yield (Yield.index_slice (b := bl) (o := ol) (m := l.length) (c := lc) Try.underlying33 ti38 rfl rfl (by omega) (by omega)) rfl ?_
              refine OG.yield (Yield.fieldAddr fa38_0 rfl) rfl ?_
              refine OG.yield (Yield.load (v := .int .u32 cd.tag) ti35 rfl (by rw [show ol + (k : Int).toNat * 4 = ol + k * 4 by omega]; exact (SlR.elem (f := CD.cells) (xs := l) (i := k) (SlR.of_osl (E := 38) (a := some ⟨bl, ol, none⟩) (c := lc) (by repeat (first | exact Ext.here | apply Ext.there))) CD.len hg1) 0 _ rfl)) rfl ?_
              refine OG.yield (Yield.move rfl) rfl ?_
              refine OG.yield (Yield.as (Yield.neq rfl rfl) (bF (by rw [htx]; omega))) rfl ?_
              refine OG.nil ?_
              refine QG.then ?_
              refine CG.cond_f rfl ?_
              refine CG.skip ?_
              refine QG.block_normal ?_
              refine QG.then ?_
              refine CG.region ?_
              refine OG.yield (Yield.move rfl) rfl ?_
              refine OG.yield (Yield.add rfl rfl (w64 (by omega) (by omega))) rfl ?_
              refine OG.yield (Yield.assign rfl) rfl ?_
              refine OG.nil ?_
              exact QG.next (k + 1) (show k + 1 ≤ l.length by omega) (show l.length - (k + 1) < l.length - k by omega) (by repeat (first | exact Env.sub_nil _ | refine Env.sub_cons rfl ?_)) (by repeat (first | exact Imp.refl _ | exact Imp.none _ | apply Imp.pull (by repeat (first | exact Ext.here | apply Ext.there)) | apply Imp.trans Imp.drop))
            · try replace hc := of_decide_eq_false hc
              refine CG.exit ?_
              refine QG.pass_exit ?_
              refine QG.pass_exit ?_
              refine QG.block_exit ?_
              refine QG.block_normal ?_
              have hke : k = P.length := by omega
              subst hke
              exact QG.mid (last, over + P.length, rdyS s ((i : Int) + 1)) ⟨_, _, htg.ready.mono⟩ (by repeat (first | exact Env.sub_nil _ | refine Env.sub_cons rfl ?_)) (by repeat (first | exact Imp.refl _ | exact Imp.none _ | apply Imp.pull (by repeat (first | exact Ext.here | apply Ext.there)) | apply Imp.trans Imp.drop))
          · try replace hc := of_decide_eq_false hc
            refine CG.skip ?_
            refine QG.block_normal ?_
            exact QG.mid (last, over, s) ⟨P, R, htg.mono⟩ (by repeat (first | exact Env.sub_nil _ | refine Env.sub_cons rfl ?_)) (by repeat (first | exact Imp.refl _ | exact Imp.none _ | apply Imp.pull (by repeat (first | exact Ext.here | apply Ext.there)) | apply Imp.trans Imp.drop))
    rintro ⟨last', over', s'⟩ ⟨P', R', htg'⟩
    dsimp only at htg' ⊢
    refine CG.pure (fun w hw => d_facts (W0 := W) (d := d) (s := s') (G := [D d s', old W]) Ext.here w hw) ?_
    intro hds'
    have hd4' := hds'.asks
    have hsum' := htg'.sum
    have hle' := htg'.le
    refine CG.seq ?_
    refine CG.region ?_
    refine OG.yield (Yield.move rfl) rfl ?_
    refine OG.callo call13 rfl ((by repeat (first | exact Imp.refl _ | exact Imp.none _ | apply Imp.pull (by repeat (first | exact Ext.here | apply Ext.there)) | apply Imp.trans Imp.drop))) (waiting_spec W _ (d := d) (s := s')) rfl ?_
    rintro ⟨aw, cw⟩ -
    rw [List.length_map]
    refine OG.yield (Yield.assign rfl) rfl ?_
    refine OG.nil ?_
    refine QG.then ?_
    refine CG.seq ?_
    refine CG.region ?_
    refine OG.yield (Yield.move rfl) rfl ?_
    refine OG.yield (Yield.len_slice (a := aw) (m := s'.asks.length) (c := cw) Try.underlying43 rfl rfl) rfl ?_
    refine OG.yield (by first | exact Yield.as (Yield.gtr rfl rfl) (bT (by omega)) | exact Yield.as (Yield.gtr rfl rfl) (bF (by omega)) | exact Yield.gtr rfl rfl) rfl ?_
    refine OG.yield (Yield.move rfl) rfl ?_
    refine OG.guard_yes rfl rfl rfl (by decide) ?_
    refine OG.yield (Yield.move rfl) rfl ?_
    refine OG.guard_yes rfl rfl rfl (by decide) ?_
    refine OG.yield (Yield.len_slice (a := aw) (m := s'.asks.length) (c := cw) Try.underlying43 rfl rfl) rfl ?_
    refine OG.guard_yes rfl rfl rfl (by decide) ?_
    refine OG.yield (by first | exact Yield.conv Try.underlying35 rfl rfl (wu32 (by omega) (by omega)) | exact Yield.conv Try.underlying35 rfl rfl rfl) rfl ?_
    refine OG.guard_yes rfl rfl rfl (by decide) ?_
    refine OG.yield (Yield.move rfl) rfl ?_
    refine OG.guard_yes rfl rfl rfl (by decide) ?_
    refine OG.yield (Yield.move rfl) rfl ?_
    refine OG.guard_yes rfl rfl rfl (by decide) ?_
    refine OG.yield (Yield.sub rfl rfl (wu32 (by omega) (by omega))) rfl ?_
    refine OG.guard_yes rfl rfl rfl (by decide) ?_
    refine OG.yield (by first | exact Yield.as (Yield.neq rfl rfl) (bT (by omega)) | exact Yield.as (Yield.neq rfl rfl) (bF (by omega)) | exact Yield.neq rfl rfl) rfl ?_
    refine OG.yield (by first | exact Yield.pick_t rfl rfl | exact Yield.pick_f rfl rfl | exact Yield.pick rfl (fun _ => rfl) (fun _ => rfl)) rfl ?_
    refine OG.nil ?_
    refine QG.then ?_
    refine CG.cond_f rfl ?_
    refine CG.skip ?_
    refine QG.block_normal ?_
    refine QG.then ?_
    refine CG.region ?_
    refine OG.yield (Yield.move rfl) rfl ?_
    refine OG.yield (Yield.add rfl rfl (w64 (by omega) (by omega))) rfl ?_
    refine OG.yield (Yield.assign rfl) rfl ?_
    refine OG.nil ?_
    exact QG.next (i + 1, last', over', s') ⟨⟨P', R', htg'⟩, by simp only; omega, by simp only; omega⟩ (by simp only; omega) (by repeat (first | exact Env.sub_nil _ | refine Env.sub_cons rfl ?_)) (by repeat (first | exact Imp.refl _ | exact Imp.none _ | apply Imp.pull (by repeat (first | exact Ext.here | apply Ext.there)) | apply Imp.trans Imp.drop))
  · skip
    refine CG.region ?_
    refine OG.yield (Yield.move rfl) rfl ?_
    refine OG.yield (Yield.move rfl) rfl ?_
    refine OG.yield (Yield.len_slice Try.underlying22 rfl rfl) rfl ?_
    refine OG.yield (by first | exact Yield.as (Yield.lss rfl rfl) (bT (by omega)) | exact Yield.as (Yield.lss rfl rfl) (bF (by omega)) | exact Yield.lss rfl rfl) rfl ?_
    refine OG.yield (Yield.move rfl) rfl ?_
    refine OG.guard_yes rfl rfl rfl (by decide) ?_
    refine OG.yield (Yield.move rfl) rfl ?_
    refine OG.guard_yes rfl rfl rfl (by decide) ?_
    refine OG.yield (by first | exact Yield.as (Yield.lss rfl rfl) (bT (by omega)) | exact Yield.as (Yield.lss rfl rfl) (bF (by omega)) | exact Yield.lss rfl rfl) rfl ?_
    refine OG.yield (by first | exact Yield.pick_t rfl rfl | exact Yield.pick_f rfl rfl | exact Yield.pick rfl (fun _ => rfl) (fun _ => rfl)) rfl ?_
    refine OG.nil ?_
    refine QG.then ?_
    refine CG.cond_f rfl ?_
    refine CG.exit ?_
    refine QG.pass_exit ?_
    refine QG.pass_exit ?_
    refine QG.block_exit ?_
    refine QG.then ?_
    refine CG.seq ?_
    refine CG.region ?_
    refine OG.yield (Yield.assign rfl) rfl ?_
    refine OG.nil ?_
    refine QG.then ?_
    refine CG.ret ?_
    exact QG.ret1 rfl rfl () trivial rfl (by repeat (first | exact Imp.refl _ | exact Imp.none _ | apply Imp.pull (by repeat (first | exact Ext.here | apply Ext.there)) | apply Imp.trans Imp.drop))
  · skip
    refine CG.region ?_
    refine OG.yield (Yield.move rfl) rfl ?_
    refine OG.yield (Yield.move rfl) rfl ?_
    refine OG.yield (Yield.len_slice Try.underlying22 rfl rfl) rfl ?_
    refine OG.yield (by first | exact Yield.as (Yield.lss rfl rfl) (bT (by omega)) | exact Yield.as (Yield.lss rfl rfl) (bF (by omega)) | exact Yield.lss rfl rfl) rfl ?_
    refine OG.yield (Yield.move rfl) rfl ?_
    refine OG.guard_no rfl rfl rfl rfl rfl (by decide) (by decide) ?_
    refine OG.guard_no rfl rfl rfl rfl rfl (by decide) (by decide) ?_
    refine OG.yield (by first | exact Yield.pick_t rfl rfl | exact Yield.pick_f rfl rfl | exact Yield.pick rfl (fun _ => rfl) (fun _ => rfl)) rfl ?_
    refine OG.nil ?_
    refine QG.then ?_
    refine CG.cond_f rfl ?_
    refine CG.exit ?_
    refine QG.pass_exit ?_
    refine QG.pass_exit ?_
    refine QG.block_exit ?_
    refine QG.then ?_
    refine CG.seq ?_
    refine CG.region ?_
    refine OG.yield (Yield.assign rfl) rfl ?_
    refine OG.nil ?_
    refine QG.then ?_
    refine CG.ret ?_
    exact QG.ret1 rfl rfl () trivial rfl (by repeat (first | exact Imp.refl _ | exact Imp.none _ | apply Imp.pull (by repeat (first | exact Ext.here | apply Ext.there)) | apply Imp.trans Imp.drop))
open Go.ChangeShapes Go.WideShapes Go.ChangeAt
theorem own : ownKnob Try.prog.godebug = none := by kernel_rfl
theorem laid : laidOutB Try.prog = true := by kernel_rfl
set_option maxRecDepth 100000 in
theorem lifted (os : Os) (started : os.Started) (H : Type) (enc : TypeId × Value → H) :
    ReturnsInHanded {} Try.checked os 4 .any (Rows.vdiskTagsSpec.pre6 enc Try.prog Try.f4 Rows.vdiskTagsRow.domain false) (Rows.vdiskTagsSpec.post enc Try.prog Try.f4 false true false false) := by
  refine returnsInHanded_of_change_sized (C := Try.checked) own started (by kernel_rfl) Try.func4
    (ChangeSpec.witness6 (enc := enc) (C := Try.checked) false ⟨#[], #[.slice none 0 0], []⟩ 8 (by kernel_rfl) (by kernel_rfl) (by kernel_rfl) (by kernel_rfl)) ?_
  intro W base args ds gs before hval0 hW hcnd hsz0 _
  have hsz : (DataW.weightsEach Try.prog (Try.f4.params.toList ++ Rows.vdiskTagsSpec.plain.varTypes Try.prog) (ds ++ gs)).all (· ≤ reachBytes) = true := hsz0
  have hval : ∀ (j : Nat) t v, Try.f4.params[j]? = some t → args[j]? = some v → Value.okWide Try.prog W .any base t v := hval0
  have hW' := hW
  obtain ⟨p, q, hA0, hV, rfl, hfz, hnd⟩ := hW
  have hA : DataW.TrodAll enc Try.prog W 0 (fun _ => true) true Try.f4.params.toList args.toList ds p := hA0
  rw [Try.params4] at hA hval hsz
  obtain ⟨v0, vs0, d0, ds0, p0, q0, hargs, rfl, rfl, h0, r0⟩ := trodAll_cons hA
  obtain ⟨rfl, rfl, rfl⟩ := trodAll_nil r0
  obtain rfl : args = #[v0] := by cases args; simp_all
  obtain ⟨rfl, rfl⟩ := trodVars_none hV
  have k0 := weights_le hsz 0 (t := 22) (d := d0) rfl rfl
  have s0 := Opn.param Try.underlying22 (VAct.list W) (hval 0 22 v0 rfl rfl) h0 k0
  obtain ⟨x0, c0, ops, e0, l0, ok0, s0, m0⟩ := s0
  cases e0
  clear hA0 hval0 hsz0 hsz
  refine ((walk W s0 ok0) W (Sat.start W)).mono fun e W' he => ?_
  obtain ⟨_, _, he, hs⟩ := he
  subst he
  exact ⟨_, rfl, law_post laid (params_ok (by kernel_rfl)) rfl Try.underlying4 hW' rfl rfl (Sat.below (by repeat (first | exact Ext.here | apply Ext.there)) hs)⟩
theorem over : Rows.vdiskTagsRow.holds Try.pinned (OpenSpec.ofChange Rows.vdiskTagsSpec) :=
  OpenClaim.holds_of_wide 4 Try.f4 rfl rfl rfl rfl rfl rfl rfl ⟨rfl, rfl, rfl, rfl, rfl⟩ rfl rfl rfl rfl rfl (by kernel_rfl) Try.func4 (by kernel_rfl)
    (of_decide_eq_true (by kernel_rfl)) (by unfold Func.isWrapper; first | (rw [if_pos (by decide +kernel)]; kernel_rfl) | (rw [if_neg (by decide +kernel)]; exact ⟨rfl, rfl⟩))
    (fun os started H enc _ => lifted os started H enc)
theorem proved : Rows.VdiskTagsSaid := over
#print axioms proved
end Go.Proofs.Ytoejnhfcegchhaa.vdiskTags
