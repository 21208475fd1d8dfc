/- package page over a memory: second, Walk, Clear, Set. -/
import Derived.Test.YtmlfcfbblfcpdaaPg
namespace Go.Proofs.Ytmlfcfbblfcpdaa.Pg
open Go Go.Sl Go.RowKit Go.Proofs Go.Proofs.Ytmlfcfbblfcpdaa.T Go.Proofs.Ytmlfcfbblfcpdaa.Me Go.Proofs.Ytmlfcfbblfcpdaa.Pe
set_option linter.unusedVariables false
set_option linter.unusedSimpArgs false
set_option maxRecDepth 100000
/-- The second table of a page. -/
def secR (n : Nat) (bs : List UInt8) (root p : Nat) : Int × Bool := ((sp (word bs root (p / 64))).1, (sp (word bs root (p / 64))).2.2 && decide (0 ≤ (sp (word bs root (p / 64))).1 ∧ (sp (word bs root (p / 64))).1 < n))
theorem secR_in {n : Nat} {bs : List UInt8} {root p : Nat} (h : (secR n bs root p).2 = true) : ∃ t : Nat, (secR n bs root p).1 = t ∧ t < n := by
  unfold secR at h ⊢
  simp only [Bool.and_eq_true, decide_eq_true_eq] at h
  exact ⟨(sp (word bs root (p / 64))).1.toNat, by dsimp only; omega, by omega⟩
def walkR (n : Nat) (bs : List UInt8) (root p : Nat) : Int × Int × Int :=
  if (secR n bs root p).2 = true ∧ (sp (word bs (secR n bs root p).1.toNat (p % 64))).2.2 = true then ((sp (word bs (secR n bs root p).1.toNat (p % 64))).1, (sp (word bs (secR n bs root p).1.toNat (p % 64))).2.1, 0) else (0, 0, 90)
theorem tmod_nat (a b : Nat) (h : 0 < b) : (a : Int).tmod (b : Int) = ((a % b : Nat) : Int) := by
  rw [tmod_pos (by omega) (by omega)]; rfl
section
variable (W0 : World) (Fr : List HProp)
theorem second_spec {m n root p : Nat} {bs : List UInt8} (hr : root < n) (hp : p < 4096) : Ctr Try.prog W0 38 [.pointer (some ⟨m, 0, none⟩), .int .i64 root, .int .i64 p] (M m n bs :: Fr) (fun _ : Unit => True) (fun _ => .tuple #[.int .i64 (secR n bs root p).1, .bool (secR n bs root p).2]) (fun _ => M m n bs :: Fr) := by
  have hi : p / 64 < 64 := by omega
  generalize hx : sp (word bs root (p / 64)) = x
  obtain ⟨x1, x2, x3⟩ := x
  have hsec : secR n bs root p = (x1, x3 && decide (0 ≤ x1 ∧ x1 < n)) := by unfold secR; rw [hx]
  rw [hsec]
  refine Ctr.of_body Try.func38 rfl Try.ntmps38 rfl ?_
  refine CG.seq ?_
  refine CG.region ?_
  refine OG.yield (Yield.assign rfl) rfl ?_
  refine OG.yield (Yield.assign rfl) rfl ?_
  refine OG.nil ?_
  refine QG.then ?_
  refine CG.seq ?_
  refine CG.region ?_
  refine OG.yield (Yield.move rfl) rfl ?_
  refine OG.yield (Yield.move rfl) rfl ?_
  refine OG.yield (Yield.move rfl) rfl ?_
  refine OG.yield (Yield.quo (c := ((p / 64 : Nat) : Int)) rfl rfl (by decide) (quo_nat (b := 64) (by decide) (by omega))) rfl ?_
  refine OG.callo call43 rfl (Imp.refl _) (read_spec W0 _ (m := m) (n := n) (t := root) (i := p / 64) (bs := bs) hr hi) rfl ?_
  rintro ⟨⟩ -
  rw [hx]
  dsimp only
  refine OG.yield (Yield.move rfl) rfl ?_
  refine OG.yield (Yield.extract rfl rfl) rfl ?_
  refine OG.yield (Yield.extract rfl rfl) rfl ?_
  refine OG.yield (Yield.extract rfl rfl) rfl ?_
  refine OG.yield (Yield.assign rfl) rfl ?_
  refine OG.yield (Yield.assign rfl) rfl ?_
  refine OG.yield (Yield.assign rfl) rfl ?_
  refine OG.nil ?_
  refine QG.then ?_
  refine CG.seq ?_
  cases x3
  · skip
    refine CG.region ?_
    refine OG.yield (Yield.move rfl) rfl ?_
    refine OG.yield (Yield.move rfl) rfl ?_
    refine OG.yield (Yield.move rfl) rfl ?_
    refine OG.guard_no rfl rfl rfl rfl rfl (by decide) (by decide) ?_
    refine OG.guard_no rfl rfl rfl rfl rfl (by decide) (by decide) ?_
    refine OG.guard_no rfl rfl rfl rfl rfl (by decide) (by decide) ?_
    refine OG.yield (by first | exact Yield.pick_t rfl rfl | exact Yield.pick_f rfl rfl | exact Yield.pick rfl (fun _ => rfl) (fun _ => rfl)) rfl ?_
    refine OG.yield (Yield.assign rfl) rfl ?_
    refine OG.yield (Yield.assign rfl) rfl ?_
    refine OG.nil ?_
    refine QG.then ?_
    refine CG.ret ?_
    exact QG.ret2 rfl rfl rfl () trivial rfl (Imp.refl _)
  · skip
    refine CG.region ?_
    refine OG.yield (Yield.move rfl) rfl ?_
    refine OG.yield (Yield.move rfl) rfl ?_
    refine OG.yield (Yield.move rfl) rfl ?_
    refine OG.guard_yes rfl rfl rfl (by decide) ?_
    refine OG.yield (Yield.move rfl) rfl ?_
    refine OG.guard_yes rfl rfl rfl (by decide) ?_
    refine OG.yield (Yield.move rfl) rfl ?_
    refine OG.guard_yes rfl rfl rfl (by decide) ?_
    refine OG.callo call40 rfl (Imp.refl _) (has_spec W0 _ (m := m) (n := n) (bs := bs) x1) rfl ?_
    rintro ⟨⟩ -
    refine OG.yield (by first | exact Yield.pick_t rfl rfl | exact Yield.pick_f rfl rfl | exact Yield.pick rfl (fun _ => rfl) (fun _ => rfl)) rfl ?_
    refine OG.yield (Yield.assign rfl) rfl ?_
    refine OG.yield (Yield.assign rfl) rfl ?_
    refine OG.nil ?_
    refine QG.then ?_
    refine CG.ret ?_
    exact QG.ret2 rfl rfl rfl () trivial rfl (Imp.refl _)
theorem walk_bad {m n : Nat} {root p : Int} {bs : List UInt8} (h : ¬(0 ≤ root ∧ root < n) ∨ ¬(0 ≤ p ∧ p < 4096)) : Ctr Try.prog W0 13 [.pointer (some ⟨m, 0, none⟩), .int .i64 root, .int .i64 p] (M m n bs :: Fr) (fun _ : Unit => True) (fun _ => .tuple #[.int .i64 0, .int .i64 0, .int .i64 2]) (fun _ => M m n bs :: Fr) := by
  refine Ctr.of_body Try.func13 rfl Try.ntmps13 rfl ?_
  refine CG.seq ?_
  refine CG.region ?_
  refine OG.yield (Yield.assign rfl) rfl ?_
  refine OG.yield (Yield.assign rfl) rfl ?_
  refine OG.yield (Yield.assign rfl) rfl ?_
  refine OG.nil ?_
  refine QG.then ?_
  refine CG.seq ?_
  refine CG.seq ?_
  rcases (show ¬(0 ≤ root ∧ root < (n : Int)) ∨ ((0 ≤ root ∧ root < (n : Int)) ∧ ¬(0 ≤ p ∧ p < 4096)) by omega) with hh | hh
  · skip
    refine CG.region ?_
    refine OG.yield (Yield.move rfl) rfl ?_
    refine OG.yield (Yield.move rfl) rfl ?_
    refine OG.callo call40 rfl (Imp.refl _) (has_spec W0 _ (m := m) (n := n) (bs := bs) root) rfl ?_
    rintro ⟨⟩ -
    first | rw [decide_eq_false hh] | rw [decide_eq_true hh.1]
    refine OG.yield (Yield.not rfl) rfl ?_
    refine OG.yield (Yield.move rfl) rfl ?_
    refine OG.guard_no rfl rfl rfl rfl rfl (by decide) (by decide) ?_
    refine OG.guard_no rfl rfl rfl rfl rfl (by decide) (by decide) ?_
    refine OG.guard_no rfl rfl rfl rfl rfl (by decide) (by decide) ?_
    refine OG.yield (by first | exact Yield.pick_t rfl rfl | exact Yield.pick_f rfl rfl | exact Yield.pick rfl (fun _ => rfl) (fun _ => rfl)) rfl ?_
    refine OG.nil ?_
    refine QG.then ?_
    refine CG.cond_t rfl ?_
    refine CG.seq ?_
    refine CG.region ?_
    refine OG.yield (Yield.assign rfl) rfl ?_
    refine OG.yield (Yield.assign rfl) rfl ?_
    refine OG.yield (Yield.assign rfl) rfl ?_
    refine OG.nil ?_
    refine QG.then ?_
    refine CG.ret ?_
    refine QG.pass_ret ?_
    exact QG.rets [.int .i64 0, .int .i64 0, .int .i64 2] rfl ⟨rfl, rfl, rfl, trivial⟩ () trivial rfl (Imp.refl _)
  · skip
    refine CG.region ?_
    refine OG.yield (Yield.move rfl) rfl ?_
    refine OG.yield (Yield.move rfl) rfl ?_
    refine OG.callo call40 rfl (Imp.refl _) (has_spec W0 _ (m := m) (n := n) (bs := bs) root) rfl ?_
    rintro ⟨⟩ -
    first | rw [decide_eq_false hh] | rw [decide_eq_true hh.1]
    refine OG.yield (Yield.not rfl) rfl ?_
    refine OG.yield (Yield.move rfl) rfl ?_
    refine OG.guard_yes rfl rfl rfl (by decide) ?_
    refine OG.yield (Yield.move rfl) rfl ?_
    refine OG.guard_yes rfl rfl rfl (by decide) ?_
    refine OG.callo call41 rfl (Imp.refl _) (known_spec W0 _ p) rfl ?_
    rintro ⟨⟩ -
    rw [decide_eq_false hh.2]
    refine OG.guard_yes rfl rfl rfl (by decide) ?_
    refine OG.yield (Yield.not rfl) rfl ?_
    refine OG.yield (by first | exact Yield.pick_t rfl rfl | exact Yield.pick_f rfl rfl | exact Yield.pick rfl (fun _ => rfl) (fun _ => rfl)) rfl ?_
    refine OG.nil ?_
    refine QG.then ?_
    refine CG.cond_t rfl ?_
    refine CG.seq ?_
    refine CG.region ?_
    refine OG.yield (Yield.assign rfl) rfl ?_
    refine OG.yield (Yield.assign rfl) rfl ?_
    refine OG.yield (Yield.assign rfl) rfl ?_
    refine OG.nil ?_
    refine QG.then ?_
    refine CG.ret ?_
    refine QG.pass_ret ?_
    exact QG.rets [.int .i64 0, .int .i64 0, .int .i64 2] rfl ⟨rfl, rfl, rfl, trivial⟩ () trivial rfl (Imp.refl _)
theorem walk_spec {m n root p : Nat} {bs : List UInt8} (hr : root < n) (hp : p < 4096) : Ctr Try.prog W0 13 [.pointer (some ⟨m, 0, none⟩), .int .i64 root, .int .i64 p] (M m n bs :: Fr) (fun _ : Unit => True) (fun _ => .tuple #[.int .i64 (walkR n bs root p).1, .int .i64 (walkR n bs root p).2.1, .int .i64 (walkR n bs root p).2.2]) (fun _ => M m n bs :: Fr) := by
  have hi : p % 64 < 64 := Nat.mod_lt _ (by decide)
  refine Ctr.of_body Try.func13 rfl Try.ntmps13 rfl ?_
  refine CG.seq ?_
  refine CG.region ?_
  refine OG.yield (Yield.assign rfl) rfl ?_
  refine OG.yield (Yield.assign rfl) rfl ?_
  refine OG.yield (Yield.assign rfl) rfl ?_
  refine OG.nil ?_
  refine QG.then ?_
  refine CG.seq ?_
  refine CG.seq ?_
  refine CG.region ?_
  refine OG.yield (Yield.move rfl) rfl ?_
  refine OG.yield (Yield.move rfl) rfl ?_
  refine OG.callo call40 rfl (Imp.refl _) (has_spec W0 _ (m := m) (n := n) (bs := bs) (root : Int)) rfl ?_
  rintro ⟨⟩ -
  rw [decide_eq_true (p := 0 ≤ (root : Int) ∧ (root : Int) < (n : Int)) (by omega)]
  refine OG.yield (Yield.not rfl) rfl ?_
  refine OG.yield (Yield.move rfl) rfl ?_
  refine OG.guard_yes rfl rfl rfl (by decide) ?_
  refine OG.yield (Yield.move rfl) rfl ?_
  refine OG.guard_yes rfl rfl rfl (by decide) ?_
  refine OG.callo call41 rfl (Imp.refl _) (known_spec W0 _ (p : Int)) rfl ?_
  rintro ⟨⟩ -
  rw [decide_eq_true (p := 0 ≤ (p : Int) ∧ (p : Int) < 4096) (by omega)]
  refine OG.guard_yes rfl rfl rfl (by decide) ?_
  refine OG.yield (Yield.not rfl) rfl ?_
  refine OG.yield (by first | exact Yield.pick_t rfl rfl | exact Yield.pick_f rfl rfl | exact Yield.pick rfl (fun _ => rfl) (fun _ => rfl)) rfl ?_
  refine OG.nil ?_
  refine QG.then ?_
  refine CG.cond_f rfl ?_
  refine CG.skip ?_
  refine QG.then ?_
  refine CG.seq ?_
  refine CG.seq ?_
  refine CG.region ?_
  refine OG.yield (Yield.move rfl) rfl ?_
  refine OG.yield (Yield.move rfl) rfl ?_
  refine OG.yield (Yield.move rfl) rfl ?_
  refine OG.callo call38 rfl (Imp.refl _) (second_spec W0 _ (m := m) (n := n) (root := root) (p := p) (bs := bs) hr hp) rfl ?_
  rintro ⟨⟩ -
  refine OG.yield (Yield.move rfl) rfl ?_
  refine OG.yield (Yield.extract rfl rfl) rfl ?_
  refine OG.yield (Yield.extract rfl rfl) rfl ?_
  refine OG.yield (Yield.assign rfl) rfl ?_
  refine OG.yield (Yield.assign rfl) rfl ?_
  refine OG.nil ?_
  refine QG.then ?_
  refine CG.seq ?_
  rcases hs2 : (secR n bs root p).2
  · skip
    have hw : walkR n bs root p = (0, 0, 90) := by unfold walkR; rw [if_neg (by rw [hs2]; simp)]
    rw [hw]
    refine CG.region ?_
    refine OG.yield (Yield.move rfl) rfl ?_
    refine OG.nil ?_
    refine QG.then ?_
    refine CG.cond_f rfl ?_
    refine CG.skip ?_
    refine QG.then ?_
    refine CG.seq ?_
    refine CG.region ?_
    refine OG.yield (Yield.assign rfl) rfl ?_
    refine OG.yield (Yield.assign rfl) rfl ?_
    refine OG.yield (Yield.assign rfl) rfl ?_
    refine OG.nil ?_
    refine QG.then ?_
    refine CG.ret ?_
    first | exact QG.rets [.int .i64 0, .int .i64 0, .int .i64 90] rfl ⟨rfl, rfl, rfl, trivial⟩ () trivial (by first | rfl | (rw [hw]; rfl)) (Imp.refl _) | exact QG.rets [.int .i64 x1, .int .i64 x2, .int .i64 0] rfl ⟨rfl, rfl, rfl, trivial⟩ () trivial (by rw [hw]; rfl) (Imp.refl _)
  · skip
    obtain ⟨t, ht, htn⟩ := secR_in hs2
    rw [ht]
    generalize hx : sp (word bs t (p % 64)) = x
    obtain ⟨x1, x2, x3⟩ := x
    have hw : walkR n bs root p = if x3 = true then (x1, x2, 0) else (0, 0, 90) := by unfold walkR; rw [ht, Int.toNat_natCast, hx, hs2]; simp
    refine CG.region ?_
    refine OG.yield (Yield.move rfl) rfl ?_
    refine OG.nil ?_
    refine QG.then ?_
    refine CG.cond_t rfl ?_
    refine CG.seq ?_
    refine CG.region ?_
    refine OG.yield (Yield.move rfl) rfl ?_
    refine OG.yield (Yield.move rfl) rfl ?_
    refine OG.yield (Yield.move rfl) rfl ?_
    refine OG.yield (Yield.rem (c := ((p % 64 : Nat) : Int)) rfl rfl (by decide) (tmod_nat p 64 (by decide))) rfl ?_
    refine OG.callo call43 rfl (Imp.refl _) (read_spec W0 _ (m := m) (n := n) (t := t) (i := p % 64) (bs := bs) htn hi) rfl ?_
    rintro ⟨⟩ -
    rw [hx]
    dsimp only
    refine OG.yield (Yield.move rfl) rfl ?_
    refine OG.yield (Yield.extract rfl rfl) rfl ?_
    refine OG.yield (Yield.extract rfl rfl) rfl ?_
    refine OG.yield (Yield.extract rfl rfl) rfl ?_
    refine OG.yield (Yield.assign rfl) rfl ?_
    refine OG.yield (Yield.assign rfl) rfl ?_
    refine OG.yield (Yield.assign rfl) rfl ?_
    refine OG.nil ?_
    refine QG.then ?_
    refine CG.seq ?_
    cases x3
    · skip
      refine CG.region ?_
      refine OG.yield (Yield.move rfl) rfl ?_
      refine OG.nil ?_
      refine QG.then ?_
      refine CG.cond_f rfl ?_
      refine CG.skip ?_
      refine QG.then ?_
      refine CG.seq ?_
      refine CG.region ?_
      refine OG.yield (Yield.assign rfl) rfl ?_
      refine OG.yield (Yield.assign rfl) rfl ?_
      refine OG.yield (Yield.assign rfl) rfl ?_
      refine OG.nil ?_
      refine QG.then ?_
      refine CG.ret ?_
      first | exact QG.rets [.int .i64 0, .int .i64 0, .int .i64 90] rfl ⟨rfl, rfl, rfl, trivial⟩ () trivial (by first | rfl | (rw [hw]; rfl)) (Imp.refl _) | exact QG.rets [.int .i64 x1, .int .i64 x2, .int .i64 0] rfl ⟨rfl, rfl, rfl, trivial⟩ () trivial (by rw [hw]; rfl) (Imp.refl _)
    · skip
      refine CG.region ?_
      refine OG.yield (Yield.move rfl) rfl ?_
      refine OG.nil ?_
      refine QG.then ?_
      refine CG.cond_t rfl ?_
      refine CG.seq ?_
      refine CG.region ?_
      refine OG.yield (Yield.move rfl) rfl ?_
      refine OG.yield (Yield.move rfl) rfl ?_
      refine OG.yield (Yield.assign rfl) rfl ?_
      refine OG.yield (Yield.assign rfl) rfl ?_
      refine OG.yield (Yield.assign rfl) rfl ?_
      refine OG.nil ?_
      refine QG.then ?_
      refine CG.ret ?_
      refine QG.pass_ret ?_
      first | exact QG.rets [.int .i64 0, .int .i64 0, .int .i64 90] rfl ⟨rfl, rfl, rfl, trivial⟩ () trivial (by first | rfl | (rw [hw]; rfl)) (Imp.refl _) | exact QG.rets [.int .i64 x1, .int .i64 x2, .int .i64 0] rfl ⟨rfl, rfl, rfl, trivial⟩ () trivial (by rw [hw]; rfl) (Imp.refl _)
end
end Go.Proofs.Ytmlfcfbblfcpdaa.Pg
