/- PortsFull: a queue takes Depth messages at each end, and no more: the law returns true and changes nothing that was there. -/
import Derived.Test.YtjigjbcdopmeeaaPlaw
namespace Go.Proofs.Ytjigjbcdopmeeaa.portsFull
open Go Go.Sl Go.RowKit Go.Proofs Go.Proofs.Ytjigjbcdopmeeaa.T Go.Proofs.Ytjigjbcdopmeeaa.Po
set_option linter.unusedVariables false
set_option linter.unusedSimpArgs false
set_option maxRecDepth 100000
theorem carry_fill (dp : Int) (bs : B) : ∀ (k : Nat) (r : List B), ((r.length + k : Nat) : Int) ≤ dp → carry 2 dp (List.replicate k bs) r = ([], r ++ List.replicate k bs)
  | 0, r, _ => by simp [carry]
  | k + 1, r, h => by
    rw [List.replicate_succ, carry, if_neg (by decide), if_neg (by omega), carry_fill dp bs k (r ++ [bs]) (by simp; omega), List.append_assoc]; rfl
theorem carry_full (dp : Int) (s r : List B) (h : dp ≤ (r.length : Int)) : carry 2 dp s r = (s, r) := by
  cases s with
  | nil => rfl
  | cons m s => rw [carry, if_neg (by decide), if_pos h]
abbrev Q (d : Nat) (s r : List B) : AC := ⟨2, 0, 1, 64, d, s, r⟩
theorem dep_d {d : Nat} (h : 1 ≤ d ∧ d ≤ 8) : dep 2 d = d := by unfold dep; rw [if_pos rfl]; omega
theorem send_more {d i : Nat} {bs b2 : B} {s r : List B} (hd : 1 ≤ d ∧ d ≤ 8) (hs : s.length < d) (hb : b2.length ≤ 64) : sendR (Q d s r) 0 b2 = (0, Q d (s ++ [b2]) r) := by
  unfold sendR
  rw [if_neg (by simp), if_neg (by show ¬ max 0 (min (64 : Int) 64) < (b2.length : Int); omega), if_neg (by simp), if_neg (by show ¬ dep 2 d ≤ (s.length : Int); rw [dep_d hd]; omega)]
theorem send_none {d : Nat} {b2 : B} {s r : List B} (hd : 1 ≤ d ∧ d ≤ 8) (hs : d ≤ s.length) (hb : b2.length ≤ 64) : sendR (Q d s r) 0 b2 = (4, Q d s r) := by
  unfold sendR
  rw [if_neg (by simp), if_neg (by show ¬ max 0 (min (64 : Int) 64) < (b2.length : Int); omega), if_neg (by simp), if_pos (by show dep 2 d ≤ (s.length : Int); rw [dep_d hd]; omega)]
theorem tr_fill {d : Nat} {bs : B} (hd : 1 ≤ d ∧ d ≤ 8) : (Q d (List.replicate d bs) []).tr = Q d [] (List.replicate d bs) := by
  unfold AC.tr AC.q
  rw [show carry (Q d (List.replicate d bs) []).kind (dep (Q d (List.replicate d bs) []).kind (Q d (List.replicate d bs) []).depth) (Q d (List.replicate d bs) []).s (Q d (List.replicate d bs) []).r = ([], List.replicate d bs) from by
    show carry 2 (dep 2 d) (List.replicate d bs) [] = _; rw [dep_d hd, carry_fill _ _ _ _ (by simp)]; rfl]
theorem tr_full {d : Nat} {s r : List B} (hd : 1 ≤ d ∧ d ≤ 8) (hr : r.length = d) : (Q d s r).tr = Q d s r ∧ (Q d s r).went = false := by
  have e : (Q d s r).q = (s, r) := by show carry 2 (dep 2 d) s r = _; rw [dep_d hd, carry_full _ _ _ (by omega)]
  refine ⟨by unfold AC.tr; rw [e], by unfold AC.went; rw [e]; simp⟩
theorem tr_one {d : Nat} {bs : B} (hd : 1 ≤ d ∧ d ≤ 8) : (Q d (List.replicate d bs) (List.replicate (d - 1) bs)).tr = Q d (List.replicate (d - 1) bs) (List.replicate d bs) ∧ (Q d (List.replicate d bs) (List.replicate (d - 1) bs)).went = true := by
  have e : (Q d (List.replicate d bs) (List.replicate (d - 1) bs)).q = (List.replicate (d - 1) bs, List.replicate d bs) := by
    show carry 2 (dep 2 d) (List.replicate d bs) (List.replicate (d - 1) bs) = _
    rw [dep_d hd]
    obtain ⟨k, rfl⟩ : ∃ k, d = k + 1 := ⟨d - 1, by omega⟩
    rw [List.replicate_succ, carry, if_neg (by decide), if_neg (by simp; omega), ← List.replicate_succ', Nat.add_sub_cancel, carry_full _ _ _ (by simp), List.replicate_succ]
  refine ⟨by unfold AC.tr; rw [e], by unfold AC.went; rw [e]; simp; omega⟩
theorem went_one (ac : AC) : wentI [ac] [ac].length = if ac.went then [0] else [] := by
  show wentI [ac] (0 + 1) = _
  rw [wentI_succ (ac := ac) rfl]
  split <;> rfl
set_option maxHeartbeats 4000000 in
theorem walk (W : World) {n0 : Int} {a1 : Option Addr} {c1 : Nat} {bs0 : B} (hb0 : SlAt W 1 a1 bs0.length (bytesV bs0)) (hc0 : bs0.length ≤ c1) :
    Ctr Try.prog W 7 [.int .i64 n0, .slice a1 bs0.length c1] [old W] (fun _ : Unit => True) (fun _ => .bool true) (fun _ => [old W]) := by
  have hw := wrap_u64_range n0
  have hbl : (bs0.take 64).length ≤ 64 := by rw [List.length_take]; omega
  have hrd : ∀ {G R : List HProp}, Ext G (old W) R → SlR W G 1 a1 (bs0.take 64).length (bytesV (bs0.take 64)) := fun x => (hb0.old x).takeB 64
  refine Ctr.of_body Try.func7 rfl Try.ntmps7 rfl ?_
  refine CG.seq ?_
  refine CG.region ?_
  refine OG.yield (Yield.assign rfl) rfl ?_
  refine OG.nil ?_
  refine QG.then ?_
  refine CG.seq ?_
  refine CG.seq ?_
  refine CG.region ?_
  refine OG.callo call21 rfl (Imp.refl _) (works_spec W _) rfl ?_
  rintro ⟨⟩ -
  refine OG.yield (Yield.not rfl) rfl ?_
  refine OG.nil ?_
  refine QG.then ?_
  refine CG.cond_f rfl ?_
  refine CG.skip ?_
  refine QG.then ?_
  refine CG.seq ?_
  refine CG.region ?_
  refine OG.yield (Yield.move rfl) rfl ?_
  refine OG.yield (Yield.conv Try.underlying24 rfl rfl rfl) rfl ?_
  generalize IntKind.u64.wrap n0 = wr at hw ⊢
  refine OG.yield (Yield.rem rfl rfl (by omega) (tmod_pos (by omega) (by omega))) rfl ?_
  refine OG.yield (Yield.conv (c := wr % 8) Try.underlying3 rfl rfl (w64 (by omega) (by omega))) rfl ?_
  refine OG.yield (Yield.add rfl rfl (w64 (by omega) (by omega))) rfl ?_
  obtain ⟨d, hdd⟩ : ∃ n : Nat, 1 + wr % 8 = (n : Int) := ⟨(1 + wr % 8).toNat, by omega⟩
  rw [hdd]
  have hd : 1 ≤ d ∧ d ≤ 8 := by omega
  refine OG.yield (Yield.assign rfl) rfl ?_
  refine OG.nil ?_
  refine QG.then ?_
  refine CG.cut (fun _ : Unit => True) (fun _ => [(0, .int .i64 d), (1, .slice a1 (bs0.take 64).length c1)]) (fun _ => [old W]) ?_ ?_
  · skip
    refine CG.seq ?_
    refine CG.region ?_
    refine OG.yield (Yield.move rfl) rfl ?_
    refine OG.yield (Yield.len_slice Try.underlying49 rfl rfl) rfl ?_
    refine OG.yield (by first | exact Yield.as (Yield.gtr rfl rfl) (bT (by omega)) | exact Yield.as (Yield.gtr rfl rfl) (bF (by omega)) | exact Yield.gtr rfl rfl) rfl ?_
    refine OG.nil ?_
    refine QG.then ?_
    refine CG.cond rfl (fun hc => ?_) (fun hc => ?_)
    · try replace hc := of_decide_eq_true hc
      refine CG.region ?_
      refine OG.yield (Yield.move rfl) rfl ?_
      refine OG.yield (Yield.as (Yield.slice_hi Try.underlying49 ti5 rfl (Bound.some rfl) (by omega) (by omega)) (v' := .slice a1 (bs0.take 64).length c1) (by rw [List.length_take, Nat.min_eq_left (by omega)]; rfl)) rfl ?_
      refine OG.yield (Yield.assign rfl) rfl ?_
      refine OG.nil ?_
      exact QG.mid () trivial (by repeat (first | exact Env.sub_nil _ | refine Env.sub_cons rfl ?_)) (by repeat (first | exact Imp.refl _ | exact Imp.none _ | apply Imp.pull (by repeat (first | exact Ext.here | apply Ext.there)) | apply Imp.trans Imp.drop))
    · try replace hc := of_decide_eq_false hc
      refine CG.skip ?_
      rw [List.take_of_length_le (show bs0.length ≤ 64 by omega)]; exact QG.mid () trivial (by repeat (first | exact Env.sub_nil _ | refine Env.sub_cons rfl ?_)) (by repeat (first | exact Imp.refl _ | exact Imp.none _ | apply Imp.pull (by repeat (first | exact Ext.here | apply Ext.there)) | apply Imp.trans Imp.drop))
  rintro ⟨⟩ -
  generalize bs0.take 64 = bs at hbl hrd ⊢
  refine CG.seq ?_
  refine CG.region ?_
  refine OG.yield (Yield.move rfl) rfl ?_
  refine OG.yield (Yield.build bu47 ti47 rfl (cells := [_, _, _, _, _]) rfl) rfl ?_
  refine OG.effd (Eff.lit [.tmp 23] (vs := [.agg (Cf.cells ⟨2, 0, 1, 64, d⟩).toArray]) (cells := Cf.cells ⟨2, 0, 1, 64, d⟩) Try.underlying48 ti47 rfl rfl rfl rfl (by decide) (by simp [Value.cells, Cf.cells]) (by simp [Value.cells])) rfl ?_
  rintro b24 -
  refine OG.callo call22 rfl ((by repeat (first | exact Imp.refl _ | exact Imp.none _ | apply Imp.pull (by repeat (first | exact Ext.here | apply Ext.there)) | apply Imp.trans Imp.drop))) (new_spec W _ (l := [⟨2, 0, 1, 64, d⟩]) (by exact SlR.of_osl_eq (a := some ⟨b24, 0, none⟩) (by repeat (first | exact Ext.here | apply Ext.there)) rfl (by simp)) (by simp)) rfl ?_
  rintro p -
  rw [show [(⟨2, 0, 1, 64, d⟩ : Cf)].map Cf.ac = [Q d [] []] from rfl]
  refine OG.yield (Yield.assign rfl) rfl ?_
  refine OG.nil ?_
  refine QG.then ?_
  refine CG.seq ?_
  refine CG.seq ?_
  refine CG.region ?_
  refine OG.yield (Yield.move rfl) rfl ?_
  refine OG.yield (by first | exact Yield.ptr_nil Try.underlying44 rfl rfl | exact Yield.nil_nil Try.underlying44 rfl rfl) rfl ?_
  refine OG.nil ?_
  refine QG.then ?_
  refine CG.cond_f rfl ?_
  refine CG.skip ?_
  refine QG.then ?_
  refine CG.seq ?_
  refine CG.seq ?_
  refine CG.region ?_
  refine OG.yield (Yield.assign rfl) rfl ?_
  refine OG.nil ?_
  refine QG.then ?_
  refine CG.block ?_
  refine CG.loop (fun t : Nat => t ≤ 2) (fun t => [(0, .int .i64 d), (1, .slice a1 bs.length c1), (5, .pointer (some ⟨p, 0, none⟩)), (6, .int .i64 t)]) (fun t => [Po p [Q d (if t = 2 then List.replicate d bs else []) (if t = 0 then [] else List.replicate d bs)], old W]) (fun t => 2 - t) 0 (by decide) (by repeat (first | exact Env.sub_nil _ | refine Env.sub_cons rfl ?_)) (by repeat (first | exact Imp.refl _ | exact Imp.none _ | apply Imp.pull (by repeat (first | exact Ext.here | apply Ext.there)) | apply Imp.trans Imp.drop)) ?_
  intro t ht
  refine CG.seq ?_
  refine CG.seq ?_
  refine CG.region ?_
  refine OG.yield (Yield.move rfl) rfl ?_
  refine OG.yield (by first | exact Yield.as (Yield.lss rfl rfl) (bT (by omega)) | exact Yield.as (Yield.lss rfl rfl) (bF (by omega)) | exact Yield.lss rfl rfl) rfl ?_
  refine OG.nil ?_
  refine QG.then ?_
  refine CG.cond rfl (fun hc => ?_) (fun hc => ?_)
  · try replace hc := of_decide_eq_true hc
    have ht2 : t < 2 := by omega
    rw [if_neg (by omega)]
    have hrr : ((if t = 0 then [] else List.replicate d bs : List B) = [] ∧ t = 0) ∨ ((if t = 0 then [] else List.replicate d bs : List B) = List.replicate d bs ∧ t = 1) := by by_cases h : t = 0 <;> simp [h]; omega
    generalize (if t = 0 then [] else List.replicate d bs : List B) = rr at hrr ⊢
    refine CG.skip ?_
    refine QG.then ?_
    refine CG.seq ?_
    refine CG.block ?_
    refine CG.seq ?_
    refine CG.seq ?_
    refine CG.region ?_
    refine OG.yield (Yield.assign rfl) rfl ?_
    refine OG.nil ?_
    refine QG.then ?_
    refine CG.block ?_
    refine CG.loop (fun i : Nat => i ≤ d) (fun i => [(0, .int .i64 d), (1, .slice a1 bs.length c1), (5, .pointer (some ⟨p, 0, none⟩)), (6, .int .i64 t), (7, .int .i64 i)]) (fun i => [Po p [Q d (List.replicate i bs) rr], old W]) (fun i => d - i) 0 (Nat.zero_le _) (by repeat (first | exact Env.sub_nil _ | refine Env.sub_cons rfl ?_)) (by repeat (first | exact Imp.refl _ | exact Imp.none _ | apply Imp.pull (by repeat (first | exact Ext.here | apply Ext.there)) | apply Imp.trans Imp.drop)) ?_
    intro i hi
    refine CG.seq ?_
    refine CG.seq ?_
    refine CG.region ?_
    refine OG.yield (Yield.move rfl) rfl ?_
    refine OG.yield (Yield.move rfl) rfl ?_
    refine OG.yield (by first | exact Yield.as (Yield.lss rfl rfl) (bT (by omega)) | exact Yield.as (Yield.lss rfl rfl) (bF (by omega)) | exact Yield.lss rfl rfl) rfl ?_
    refine OG.nil ?_
    refine QG.then ?_
    refine CG.cond rfl (fun hc => ?_) (fun hc => ?_)
    · try replace hc := of_decide_eq_true hc
      have hi' : i < d := by omega
      refine CG.skip ?_
      refine QG.then ?_
      refine CG.seq ?_
      refine CG.block ?_
      refine CG.seq ?_
      refine CG.region ?_
      refine OG.yield (Yield.move rfl) rfl ?_
      refine OG.effd (Eff.lit0 Try.underlying49 ti5 rfl) rfl ?_
      rintro b38 -
      refine OG.yield (Yield.move rfl) rfl ?_
      refine OG.effd (Eff.appendB0 (ys := bs) rfl rfl rfl Try.underlying49 Try.underlying49 ti5 (by decide) (by repeat (first | exact Foc.here | apply Foc.there)) (hrd (by repeat (first | exact Ext.here | apply Ext.there))) (by omega)) rfl ?_
      rintro ⟨a40, c40⟩ -
      refine OG.callo call23 rfl ((by repeat (first | exact Imp.refl _ | exact Imp.none _ | apply Imp.pull (by repeat (first | exact Ext.here | apply Ext.there)) | apply Imp.trans Imp.drop))) (send_in W _ (n := 0) (ac := Q d (List.replicate i bs) rr) 0 (bs := bs) (by exact SlR.of_osl (E := 5) (a := a40) (c := c40) (by repeat (first | exact Ext.here | apply Ext.there))) (by omega) rfl) rfl ?_
      rintro ⟨⟩ -
      rw [send_more (i := 0) (bs := bs) hd (by rw [List.length_replicate]; exact hi') hbl, ← List.replicate_succ']
      dsimp only [List.set_cons_zero]
      refine OG.yield (by first | exact Yield.as (Yield.neq rfl rfl) (bT (by omega)) | exact Yield.as (Yield.neq rfl rfl) (bF (by omega)) | exact Yield.neq rfl rfl) rfl ?_
      refine OG.nil ?_
      refine QG.then ?_
      refine CG.cond_f rfl ?_
      refine CG.skip ?_
      refine QG.block_normal ?_
      refine QG.then ?_
      refine CG.region ?_
      refine OG.yield (Yield.move rfl) rfl ?_
      refine OG.yield (Yield.add rfl rfl (w64 (by omega) (by omega))) rfl ?_
      refine OG.yield (Yield.assign rfl) rfl ?_
      refine OG.nil ?_
      exact QG.next (i + 1) (show i + 1 ≤ d by omega) (show d - (i + 1) < d - i by omega) (by repeat (first | exact Env.sub_nil _ | refine Env.sub_cons rfl ?_)) (by repeat (first | exact Imp.refl _ | exact Imp.none _ | apply Imp.pull (by repeat (first | exact Ext.here | apply Ext.there)) | apply Imp.trans Imp.drop))
    · try replace hc := of_decide_eq_false hc
      refine CG.exit ?_
      refine QG.pass_exit ?_
      refine QG.pass_exit ?_
      refine QG.block_exit ?_
      refine QG.then ?_
      refine CG.seq ?_
      refine CG.seq ?_
      have hid : i = d := by omega
      subst hid
      refine CG.region ?_
      refine OG.yield (Yield.move rfl) rfl ?_
      refine OG.callo call23 rfl ((by repeat (first | exact Imp.refl _ | exact Imp.none _ | apply Imp.pull (by repeat (first | exact Ext.here | apply Ext.there)) | apply Imp.trans Imp.drop))) (send_in W _ (n := 0) (ac := Q i (List.replicate i bs) rr) 0 (a := none) (c := 0) (bs := []) SlR.nil (by decide) rfl) rfl ?_
      rintro ⟨⟩ -
      rw [send_none hd (by simp) (by simp)]
      dsimp only [List.set_cons_zero]
      refine OG.yield (by first | exact Yield.as (Yield.neq rfl rfl) (bT (by omega)) | exact Yield.as (Yield.neq rfl rfl) (bF (by omega)) | exact Yield.neq rfl rfl) rfl ?_
      refine OG.nil ?_
      refine QG.then ?_
      refine CG.cond_f rfl ?_
      refine CG.skip ?_
      refine QG.then ?_
      refine CG.region ?_
      refine OG.yield (Yield.move rfl) rfl ?_
      refine OG.callo call24 rfl ((by repeat (first | exact Imp.refl _ | exact Imp.none _ | apply Imp.pull (by repeat (first | exact Ext.here | apply Ext.there)) | apply Imp.trans Imp.drop))) (transfer_spec W _ (acs := [Q i (List.replicate i bs) rr])) rfl ?_
      rintro ⟨a47, c47⟩ -
      refine OG.nil ?_
      refine QG.block_normal ?_
      refine QG.then ?_
      refine CG.region ?_
      refine OG.yield (Yield.move rfl) rfl ?_
      refine OG.yield (Yield.add rfl rfl (w64 (by omega) (by omega))) rfl ?_
      refine OG.yield (Yield.assign rfl) rfl ?_
      refine OG.nil ?_
      rcases hrr with ⟨rfl, rfl⟩ | ⟨rfl, rfl⟩
      · rw [show [Q i (List.replicate i bs) []].map AC.tr = [Q i [] (List.replicate i bs)] by rw [List.map_cons, List.map_nil, tr_fill hd]]
        exact QG.next 1 (by decide) (by decide) (by repeat (first | exact Env.sub_nil _ | refine Env.sub_cons rfl ?_)) (by repeat (first | exact Imp.refl _ | exact Imp.none _ | apply Imp.pull (by repeat (first | exact Ext.here | apply Ext.there)) | apply Imp.trans Imp.drop))
      · rw [show [Q i (List.replicate i bs) (List.replicate i bs)].map AC.tr = [Q i (List.replicate i bs) (List.replicate i bs)] by rw [List.map_cons, List.map_nil, (tr_full hd (by simp)).1]]
        exact QG.next 2 (by decide) (by decide) (by repeat (first | exact Env.sub_nil _ | refine Env.sub_cons rfl ?_)) (by repeat (first | exact Imp.refl _ | exact Imp.none _ | apply Imp.pull (by repeat (first | exact Ext.here | apply Ext.there)) | apply Imp.trans Imp.drop))
  · try replace hc := of_decide_eq_false hc
    refine CG.exit ?_
    refine QG.pass_exit ?_
    refine QG.pass_exit ?_
    refine QG.block_exit ?_
    refine QG.then ?_
    have ht2 : t = 2 := by omega
    subst ht2
    rw [if_pos rfl, if_neg (by decide)]
    refine CG.seq ?_
    refine CG.seq ?_
    refine CG.region ?_
    refine OG.yield (Yield.move rfl) rfl ?_
    refine OG.callo call24 rfl ((by repeat (first | exact Imp.refl _ | exact Imp.none _ | apply Imp.pull (by repeat (first | exact Ext.here | apply Ext.there)) | apply Imp.trans Imp.drop))) (transfer_spec W _ (acs := [Q d (List.replicate d bs) (List.replicate d bs)])) rfl ?_
    rintro ⟨a49, c49⟩ -
    rw [went_one, (tr_full hd (by simp)).2, show [Q d (List.replicate d bs) (List.replicate d bs)].map AC.tr = [Q d (List.replicate d bs) (List.replicate d bs)] by rw [List.map_cons, List.map_nil, (tr_full hd (by simp)).1]]
    dsimp only
    refine OG.yield (Yield.len_slice Try.underlying29 rfl rfl) rfl ?_
    refine OG.yield (by first | exact Yield.as (Yield.neq rfl rfl) (bT (by omega)) | exact Yield.as (Yield.neq rfl rfl) (bF (by omega)) | exact Yield.neq rfl rfl) rfl ?_
    refine OG.yield (Yield.move rfl) rfl ?_
    refine OG.guard_yes rfl rfl rfl (by decide) ?_
    refine OG.yield (Yield.move rfl) rfl ?_
    refine OG.guard_yes rfl rfl rfl (by decide) ?_
    refine OG.callo call23 rfl ((by repeat (first | exact Imp.refl _ | exact Imp.none _ | apply Imp.pull (by repeat (first | exact Ext.here | apply Ext.there)) | apply Imp.trans Imp.drop))) (send_in W _ (n := 0) (ac := Q d (List.replicate d bs) (List.replicate d bs)) 0 (a := none) (c := 0) (bs := []) SlR.nil (by decide) rfl) rfl ?_
    rintro ⟨⟩ -
    rw [send_none hd (by simp) (by simp)]
    dsimp only [List.set_cons_zero]
    refine OG.guard_yes rfl rfl rfl (by decide) ?_
    refine OG.yield (by first | exact Yield.as (Yield.neq rfl rfl) (bT (by omega)) | exact Yield.as (Yield.neq rfl rfl) (bF (by omega)) | exact Yield.neq rfl rfl) rfl ?_
    refine OG.yield (by first | exact Yield.pick_t rfl rfl | exact Yield.pick_f rfl rfl | exact Yield.pick rfl (fun _ => rfl) (fun _ => rfl)) rfl ?_
    refine OG.nil ?_
    refine QG.then ?_
    refine CG.cond_f rfl ?_
    refine CG.skip ?_
    refine QG.then ?_
    refine CG.seq ?_
    refine CG.region ?_
    refine OG.yield (Yield.move rfl) rfl ?_
    refine OG.callo call25 rfl ((by repeat (first | exact Imp.refl _ | exact Imp.none _ | apply Imp.pull (by repeat (first | exact Ext.here | apply Ext.there)) | apply Imp.trans Imp.drop))) (recv_ok W _ (n := 0) (ac := Q d (List.replicate d bs) (List.replicate d bs)) 1 (m := bs) (rest := List.replicate (d - 1) bs) rfl rfl (by show List.replicate d bs = _; rw [← List.replicate_succ, Nat.sub_add_cancel hd.1])) rfl ?_
    rintro bz -
    rw [if_pos rfl]
    dsimp only [List.set_cons_zero]
    refine OG.yield (Yield.move rfl) rfl ?_
    refine OG.yield (Yield.extract rfl rfl) rfl ?_
    refine OG.yield (Yield.extract rfl rfl) rfl ?_
    refine OG.yield (Yield.assign rfl) rfl ?_
    refine OG.yield (Yield.assign rfl) rfl ?_
    refine OG.nil ?_
    refine QG.then ?_
    refine CG.seq ?_
    refine CG.seq ?_
    refine CG.region ?_
    refine OG.yield (Yield.move rfl) rfl ?_
    refine OG.yield (by first | exact Yield.as (Yield.neq rfl rfl) (bT (by omega)) | exact Yield.as (Yield.neq rfl rfl) (bF (by omega)) | exact Yield.neq rfl rfl) rfl ?_
    refine OG.yield (Yield.move rfl) rfl ?_
    refine OG.guard_yes rfl rfl rfl (by decide) ?_
    refine OG.yield (Yield.move rfl) rfl ?_
    refine OG.guard_yes rfl rfl rfl (by decide) ?_
    refine OG.yield (Yield.toStr (bs := bs) Try.underlying49 Try.underlying9 Try.underlying5 rfl (SlR.of_osl (E := 5) (a := some ⟨bz, 0, none⟩) (by repeat (first | exact Ext.here | apply Ext.there)))) rfl ?_
    refine OG.guard_yes rfl rfl rfl (by decide) ?_
    refine OG.yield (Yield.move rfl) rfl ?_
    refine OG.guard_yes rfl rfl rfl (by decide) ?_
    refine OG.yield (Yield.toStr (bs := bs) Try.underlying49 Try.underlying9 Try.underlying5 rfl (hrd (by repeat (first | exact Ext.here | apply Ext.there)))) rfl ?_
    refine OG.guard_yes rfl rfl rfl (by decide) ?_
    refine OG.yield (by first | exact Yield.str_samen rfl rfl | exact Yield.str_neq rfl rfl) rfl ?_
    refine OG.yield (by first | exact Yield.pick_t rfl rfl | exact Yield.pick_f rfl rfl | exact Yield.pick rfl (fun _ => rfl) (fun _ => rfl)) rfl ?_
    refine OG.yield (Yield.move rfl) rfl ?_
    refine OG.guard_yes rfl rfl rfl (by decide) ?_
    refine OG.yield (Yield.move rfl) rfl ?_
    refine OG.guard_yes rfl rfl rfl (by decide) ?_
    refine OG.callo call23 rfl ((by repeat (first | exact Imp.refl _ | exact Imp.none _ | apply Imp.pull (by repeat (first | exact Ext.here | apply Ext.there)) | apply Imp.trans Imp.drop))) (send_in W _ (n := 0) (ac := Q d (List.replicate d bs) (List.replicate (d - 1) bs)) 0 (a := none) (c := 0) (bs := []) SlR.nil (by decide) rfl) rfl ?_
    rintro ⟨⟩ -
    rw [send_none hd (by simp) (by simp)]
    dsimp only [List.set_cons_zero]
    refine OG.guard_yes rfl rfl rfl (by decide) ?_
    refine OG.yield (by first | exact Yield.as (Yield.neq rfl rfl) (bT (by omega)) | exact Yield.as (Yield.neq rfl rfl) (bF (by omega)) | exact Yield.neq rfl rfl) rfl ?_
    refine OG.yield (by first | exact Yield.pick_t rfl rfl | exact Yield.pick_f rfl rfl | exact Yield.pick rfl (fun _ => rfl) (fun _ => rfl)) rfl ?_
    refine OG.yield (Yield.move rfl) rfl ?_
    refine OG.guard_yes rfl rfl rfl (by decide) ?_
    refine OG.yield (Yield.move rfl) rfl ?_
    refine OG.guard_yes rfl rfl rfl (by decide) ?_
    refine OG.callo call24 rfl ((by repeat (first | exact Imp.refl _ | exact Imp.none _ | apply Imp.pull (by repeat (first | exact Ext.here | apply Ext.there)) | apply Imp.trans Imp.drop))) (transfer_spec W _ (acs := [Q d (List.replicate d bs) (List.replicate (d - 1) bs)])) rfl ?_
    rintro ⟨a78, c78⟩ -
    rw [went_one, (tr_one hd).2, show [Q d (List.replicate d bs) (List.replicate (d - 1) bs)].map AC.tr = [Q d (List.replicate (d - 1) bs) (List.replicate d bs)] by rw [List.map_cons, List.map_nil, (tr_one hd).1]]
    dsimp only
    refine OG.guard_yes rfl rfl rfl (by decide) ?_
    refine OG.yield (Yield.len_slice Try.underlying29 rfl rfl) rfl ?_
    refine OG.guard_yes rfl rfl rfl (by decide) ?_
    refine OG.yield (by first | exact Yield.as (Yield.neq rfl rfl) (bT (by omega)) | exact Yield.as (Yield.neq rfl rfl) (bF (by omega)) | exact Yield.neq rfl rfl) rfl ?_
    refine OG.yield (by first | exact Yield.pick_t rfl rfl | exact Yield.pick_f rfl rfl | exact Yield.pick rfl (fun _ => rfl) (fun _ => rfl)) rfl ?_
    refine OG.nil ?_
    refine QG.then ?_
    refine CG.cond_f rfl ?_
    refine CG.skip ?_
    refine QG.then ?_
    refine CG.seq ?_
    refine CG.region ?_
    refine OG.yield (Yield.move rfl) rfl ?_
    refine OG.callo call23 rfl ((by repeat (first | exact Imp.refl _ | exact Imp.none _ | apply Imp.pull (by repeat (first | exact Ext.here | apply Ext.there)) | apply Imp.trans Imp.drop))) (send_in W _ (n := 0) (ac := Q d (List.replicate (d - 1) bs) (List.replicate d bs)) 0 (a := none) (c := 0) (bs := []) SlR.nil (by decide) rfl) rfl ?_
    rintro ⟨⟩ -
    rw [send_more (i := 0) (bs := bs) hd (by simp; omega) (by simp)]
    dsimp only [List.set_cons_zero]
    refine OG.yield (by first | exact Yield.as (Yield.eql rfl rfl) (bT (by omega)) | exact Yield.as (Yield.eql rfl rfl) (bF (by omega)) | exact Yield.eql rfl rfl) rfl ?_
    refine OG.yield (Yield.move rfl) rfl ?_
    refine OG.guard_yes rfl rfl rfl (by decide) ?_
    refine OG.yield (Yield.move rfl) rfl ?_
    refine OG.guard_yes rfl rfl rfl (by decide) ?_
    refine OG.callo call23 rfl ((by repeat (first | exact Imp.refl _ | exact Imp.none _ | apply Imp.pull (by repeat (first | exact Ext.here | apply Ext.there)) | apply Imp.trans Imp.drop))) (send_in W _ (n := 0) (ac := Q d (List.replicate (d - 1) bs ++ [[]]) (List.replicate d bs)) 0 (a := none) (c := 0) (bs := []) SlR.nil (by decide) rfl) rfl ?_
    rintro ⟨⟩ -
    rw [send_none hd (by simp; omega) (by simp)]
    dsimp only [List.set_cons_zero]
    refine OG.guard_yes rfl rfl rfl (by decide) ?_
    refine OG.yield (by first | exact Yield.as (Yield.eql rfl rfl) (bT (by omega)) | exact Yield.as (Yield.eql rfl rfl) (bF (by omega)) | exact Yield.eql rfl rfl) rfl ?_
    refine OG.yield (by first | exact Yield.pick_t rfl rfl | exact Yield.pick_f rfl rfl | exact Yield.pick rfl (fun _ => rfl) (fun _ => rfl)) rfl ?_
    refine OG.yield (Yield.assign rfl) rfl ?_
    refine OG.nil ?_
    refine QG.then ?_
    refine CG.ret ?_
    exact QG.ret1 rfl rfl () trivial rfl (by repeat (first | exact Imp.refl _ | exact Imp.none _ | apply Imp.pull (by repeat (first | exact Ext.here | apply Ext.there)) | apply Imp.trans Imp.drop))
open Go.ChangeShapes Go.WideShapes Go.ChangeAt
theorem own : ownKnob Try.prog.godebug = none := by kernel_rfl
theorem laid : laidOutB Try.prog = true := by kernel_rfl
set_option maxRecDepth 100000 in
theorem lifted (os : Os) (started : os.Started) (H : Type) (enc : TypeId × Value → H) :
    ReturnsInHanded {} Try.checked os 7 .any (Rows.portsFullSpec.pre6 enc Try.prog Try.f7 Rows.portsFullRow.domain false) (Rows.portsFullSpec.post enc Try.prog Try.f7 false true false false) := by
  refine returnsInHanded_of_change_sized (C := Try.checked) own started (by kernel_rfl) Try.func7
    (ChangeSpec.witness6 (enc := enc) (C := Try.checked) false ⟨#[], #[.int .i64 0, .slice none 0 0], []⟩ 8 (by kernel_rfl) (by kernel_rfl) (by kernel_rfl) (by kernel_rfl)) ?_
  intro W base args ds gs before hval0 hW hcnd hsz0 _
  have hsz : (DataW.weightsEach Try.prog (Try.f7.params.toList ++ Rows.portsFullSpec.plain.varTypes Try.prog) (ds ++ gs)).all (· ≤ reachBytes) = true := hsz0
  have hval : ∀ (j : Nat) t v, Try.f7.params[j]? = some t → args[j]? = some v → Value.okWide Try.prog W .any base t v := hval0
  have hW' := hW
  obtain ⟨p, q, hA0, hV, rfl, hfz, hnd⟩ := hW
  have hA : DataW.TrodAll enc Try.prog W 0 (fun _ => true) true Try.f7.params.toList args.toList ds p := hA0
  rw [Try.params7] at hA hval hsz
  obtain ⟨v0, vs0, d0, ds0, p0, q0, hargs, rfl, rfl, h0, r0⟩ := trodAll_cons hA
  obtain ⟨v1, vs1, d1, ds1, p1, q1, rfl, rfl, rfl, h1, r1⟩ := trodAll_cons r0
  obtain ⟨rfl, rfl, rfl⟩ := trodAll_nil r1
  obtain rfl : args = #[v0, v1] := by cases args; simp_all
  obtain ⟨rfl, rfl⟩ := trodVars_none hV
  obtain ⟨a0, rfl, rfl, rfl, w0⟩ := open_int Try.underlying3 (hval 0 3 v0 rfl rfl) h0
  have k1 := weights_le hsz 1 (t := 49) (d := d1) rfl rfl
  have s1 := Opn.param Try.underlying49 (Opn.bytes Try.underlying49 Try.underlying5 (by kernel_rfl) (by kernel_rfl)) (hval 1 49 v1 rfl rfl) h1 k1
  obtain ⟨x1, c1, b1, e1, l1, s1, m1⟩ := s1
  cases e1
  clear hA0 hval0 hsz0 hsz
  refine ((walk W s1 l1) W (Sat.start W)).mono fun e W' he => ?_
  obtain ⟨_, _, he, hs⟩ := he
  subst he
  exact ⟨_, rfl, law_post laid (params_ok (by kernel_rfl)) rfl Try.underlying4 hW' rfl rfl (Sat.below (by repeat (first | exact Ext.here | apply Ext.there)) hs)⟩
theorem over : Rows.portsFullRow.holds Try.pinned (OpenSpec.ofChange Rows.portsFullSpec) :=
  OpenClaim.holds_of_wide 7 Try.f7 rfl rfl rfl rfl rfl rfl rfl ⟨rfl, rfl, rfl, rfl, rfl⟩ rfl rfl rfl rfl rfl (by kernel_rfl) Try.func7 (by kernel_rfl)
    (of_decide_eq_true (by kernel_rfl)) (by unfold Func.isWrapper; first | (rw [if_pos (by decide +kernel)]; kernel_rfl) | (rw [if_neg (by decide +kernel)]; exact ⟨rfl, rfl⟩))
    (fun os started H enc _ => lifted os started H enc)
theorem proved : Rows.PortsFullSaid := over
#print axioms proved
end Go.Proofs.Ytjigjbcdopmeeaa.portsFull
