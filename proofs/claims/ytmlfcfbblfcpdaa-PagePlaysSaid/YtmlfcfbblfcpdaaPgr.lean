/- The document's answer for package page: entry, second, Walk, Clear, Pages over its memory. -/
import Derived.Test.YtmlfcfbblfcpdaaMsame
import Derived.Test.YtmlfcfbblfcpdaaPgw
namespace Go.Proofs.Ytmlfcfbblfcpdaa.Pr
open Go Go.Sl Go.RowKit Go.Proofs Go.Proofs.Ytmlfcfbblfcpdaa.T Go.Proofs.Ytmlfcfbblfcpdaa.Me Go.Proofs.Ytmlfcfbblfcpdaa.Pe Go.Proofs.Ytmlfcfbblfcpdaa.Pg
set_option linter.unusedVariables false
set_option linter.unusedSimpArgs false
set_option maxRecDepth 100000
section
variable (W0 : World) (Fr : List HProp)
theorem entry_spec {m n t i : Nat} {bs : List UInt8} (hl : bs.length = n * 256 ∧ 1 ≤ n ∧ n ≤ 1024) (ht : t < n) (hi : i < 64) : Ctr Try.prog W0 51 [.pointer (some ⟨m, 0, none⟩), .int .i64 t, .int .i64 i] (RM m n bs :: Fr) (fun _ : Unit => True) (fun _ => .int .u32 (word bs t i : Int)) (fun _ => RM m n bs :: Fr) := by
  obtain ⟨hl, hn1, hn2⟩ := hl
  have hw := word_lt bs t i
  refine Ctr.of_body Try.func51 rfl Try.ntmps51 rfl ?_
  refine CG.seq ?_
  refine CG.region ?_
  refine OG.yield (Yield.assign rfl) rfl ?_
  refine OG.nil ?_
  refine QG.then ?_
  refine CG.seq ?_
  refine CG.region ?_
  refine OG.yield (Yield.move rfl) rfl ?_
  refine OG.yield (Yield.move rfl) rfl ?_
  refine OG.yield (Yield.mul rfl rfl (w64 (by omega) (by omega))) rfl ?_
  refine OG.yield (Yield.move rfl) rfl ?_
  refine OG.yield (Yield.mul rfl rfl (w64 (by omega) (by omega))) rfl ?_
  refine OG.yield (Yield.add rfl rfl (w64 (by omega) (by omega))) rfl ?_
  refine OG.yield (Yield.conv (c := ((t * 256 + i * 4 : Nat) : Int)) Try.underlying32 rfl rfl (by rw [show (t : Int) * 256 + (i : Int) * 4 = ((t * 256 + i * 4 : Nat) : Int) by omega]; exact wu32 (by omega) (by omega))) rfl ?_
  refine OG.callo call79 rfl (Imp.refl _) (rload_ok W0 _ (m := m) (n := n) (a := t * 256 + i * 4) (s := 4) (bs := bs) (by omega) (by omega) (by omega) (by unfold merr; rw [if_neg (by omega), if_neg (by omega), if_neg (by omega)])) rfl ?_
  rintro ⟨⟩ -
  refine OG.yield (Yield.move rfl) rfl ?_
  refine OG.yield (Yield.extract rfl rfl) rfl ?_
  refine OG.yield (Yield.extract rfl rfl) rfl ?_
  refine OG.yield (Yield.assign rfl) rfl ?_
  refine OG.yield (Yield.assign rfl) rfl ?_
  refine OG.nil ?_
  refine QG.then ?_
  refine CG.seq ?_
  refine CG.region ?_
  refine OG.yield (Yield.move rfl) rfl ?_
  refine OG.yield (Yield.conv (c := (word bs t i : Int)) Try.underlying32 rfl rfl (wu32 (by omega) (by show ((word bs t i : Nat) : Int) ≤ _; omega))) rfl ?_
  refine OG.yield (Yield.assign rfl) rfl ?_
  refine OG.nil ?_
  refine QG.then ?_
  refine CG.ret ?_
  exact QG.ret1 rfl rfl () trivial rfl (Imp.refl _)
theorem frame_spec {m n : Nat} {bs : List UInt8} (k : Int) : Ctr Try.prog W0 46 [.pointer (some ⟨m, 0, none⟩), .int .i64 k] (RM m n bs :: Fr) (fun _ : Unit => True) (fun _ => .bool (decide (0 ≤ k ∧ k < n))) (fun _ => RM m n bs :: Fr) := by
  refine Ctr.of_body Try.func46 rfl Try.ntmps46 rfl ?_
  refine CG.seq ?_
  refine CG.region ?_
  refine OG.yield (Yield.assign rfl) rfl ?_
  refine OG.nil ?_
  refine QG.then ?_
  refine CG.seq ?_
  rcases (show k < 0 ∨ 0 ≤ k by omega) with hh | hh
  · skip
    refine CG.region ?_
    refine OG.yield (Yield.move rfl) rfl ?_
    refine OG.yield (by first | exact Yield.as (Yield.geq rfl rfl) (bT (by omega)) | exact Yield.as (Yield.geq rfl rfl) (bF (by omega)) | exact Yield.geq rfl rfl) rfl ?_
    refine OG.yield (Yield.move rfl) rfl ?_
    refine OG.guard_no rfl rfl rfl rfl rfl (by decide) (by decide) ?_
    refine OG.guard_no rfl rfl rfl rfl rfl (by decide) (by decide) ?_
    refine OG.guard_no rfl rfl rfl rfl rfl (by decide) (by decide) ?_
    refine OG.guard_no rfl rfl rfl rfl rfl (by decide) (by decide) ?_
    refine OG.yield (by first | exact Yield.pick_t rfl rfl | exact Yield.pick_f rfl rfl | exact Yield.pick rfl (fun _ => rfl) (fun _ => rfl)) rfl ?_
    refine OG.yield (Yield.assign rfl) rfl ?_
    refine OG.nil ?_
    refine QG.then ?_
    refine CG.ret ?_
    exact QG.ret1 rfl rfl () trivial (by rw [decide_eq_false (by omega)]) (Imp.refl _)
  · skip
    refine CG.region ?_
    refine OG.yield (Yield.move rfl) rfl ?_
    refine OG.yield (by first | exact Yield.as (Yield.geq rfl rfl) (bT (by omega)) | exact Yield.as (Yield.geq rfl rfl) (bF (by omega)) | exact Yield.geq rfl rfl) rfl ?_
    refine OG.yield (Yield.move rfl) rfl ?_
    refine OG.guard_yes rfl rfl rfl (by decide) ?_
    refine OG.yield (Yield.move rfl) rfl ?_
    refine OG.guard_yes rfl rfl rfl (by decide) ?_
    refine OG.yield (Yield.move rfl) rfl ?_
    refine OG.guard_yes rfl rfl rfl (by decide) ?_
    refine OG.callo call56 rfl (Imp.refl _) (rframes_spec W0 _ (m := m) (n := n) (bs := bs)) rfl ?_
    rintro ⟨⟩ -
    refine OG.guard_yes rfl rfl rfl (by decide) ?_
    refine OG.yield (Yield.lss rfl rfl) rfl ?_
    refine OG.yield (by first | exact Yield.pick_t rfl rfl | exact Yield.pick_f rfl rfl | exact Yield.pick rfl (fun _ => rfl) (fun _ => rfl)) rfl ?_
    refine OG.yield (Yield.assign rfl) rfl ?_
    refine OG.nil ?_
    refine QG.then ?_
    refine CG.ret ?_
    exact QG.ret1 rfl rfl () trivial (by rw [show decide (0 ≤ k ∧ k < (n : Int)) = decide (k < (n : Int)) by simp [hh]]) (Imp.refl _)
theorem page_spec (p : Int) : Ctr Try.prog W0 47 [.int .i64 p] Fr (fun _ : Unit => True) (fun _ => .bool (decide (0 ≤ p ∧ p < 4096))) (fun _ => Fr) := by
  refine Ctr.of_body Try.func47 rfl Try.ntmps47 rfl ?_
  refine CG.seq ?_
  refine CG.region ?_
  refine OG.yield (Yield.assign rfl) rfl ?_
  refine OG.nil ?_
  refine QG.then ?_
  refine CG.seq ?_
  rcases (show p < 0 ∨ 0 ≤ p by omega) with hh | hh
  · skip
    refine CG.region ?_
    refine OG.yield (Yield.move rfl) rfl ?_
    refine OG.yield (by first | exact Yield.as (Yield.geq rfl rfl) (bT (by omega)) | exact Yield.as (Yield.geq rfl rfl) (bF (by omega)) | exact Yield.geq rfl rfl) rfl ?_
    refine OG.yield (Yield.move rfl) rfl ?_
    refine OG.guard_no rfl rfl rfl rfl rfl (by decide) (by decide) ?_
    refine OG.guard_no rfl rfl rfl rfl rfl (by decide) (by decide) ?_
    refine OG.yield (by first | exact Yield.pick_t rfl rfl | exact Yield.pick_f rfl rfl | exact Yield.pick rfl (fun _ => rfl) (fun _ => rfl)) rfl ?_
    refine OG.yield (Yield.assign rfl) rfl ?_
    refine OG.nil ?_
    refine QG.then ?_
    refine CG.ret ?_
    exact QG.ret1 rfl rfl () trivial (by rw [decide_eq_false (by omega)]) (Imp.refl _)
  · skip
    refine CG.region ?_
    refine OG.yield (Yield.move rfl) rfl ?_
    refine OG.yield (by first | exact Yield.as (Yield.geq rfl rfl) (bT (by omega)) | exact Yield.as (Yield.geq rfl rfl) (bF (by omega)) | exact Yield.geq rfl rfl) rfl ?_
    refine OG.yield (Yield.move rfl) rfl ?_
    refine OG.guard_yes rfl rfl rfl (by decide) ?_
    refine OG.yield (Yield.move rfl) rfl ?_
    refine OG.guard_yes rfl rfl rfl (by decide) ?_
    refine OG.yield (Yield.lss rfl rfl) rfl ?_
    refine OG.yield (by first | exact Yield.pick_t rfl rfl | exact Yield.pick_f rfl rfl | exact Yield.pick rfl (fun _ => rfl) (fun _ => rfl)) rfl ?_
    refine OG.yield (Yield.assign rfl) rfl ?_
    refine OG.nil ?_
    refine QG.then ?_
    refine CG.ret ?_
    exact QG.ret1 rfl rfl () trivial (by rw [show decide (0 ≤ p ∧ p < 4096) = decide (p < 4096) by simp [hh]]) (Imp.refl _)
theorem second_spec {m n root p : Nat} {bs : List UInt8} (hl : bs.length = n * 256 ∧ 1 ≤ n ∧ n ≤ 1024) (hr : root < n) (hp : p < 4096) : Ctr Try.prog W0 48 [.pointer (some ⟨m, 0, none⟩), .int .i64 root, .int .i64 p] (RM m n bs :: Fr) (fun _ : Unit => True) (fun _ => .tuple #[.int .i64 (secR n bs root p).1, .bool (secR n bs root p).2]) (fun _ => RM m n bs :: Fr) := by
  have hi : p / 64 < 64 := by omega
  have hw := word_lt bs root (p / 64)
  generalize hx : sp (word bs root (p / 64)) = x
  obtain ⟨x1, x2, x3⟩ := x
  have hsec : secR n bs root p = (x1, x3 && decide (0 ≤ x1 ∧ x1 < n)) := by unfold secR; rw [hx]
  rw [hsec]
  refine Ctr.of_body Try.func48 rfl Try.ntmps48 rfl ?_
  refine CG.seq ?_
  refine CG.region ?_
  refine OG.yield (Yield.assign rfl) rfl ?_
  refine OG.yield (Yield.assign rfl) rfl ?_
  refine OG.nil ?_
  refine QG.then ?_
  refine CG.seq ?_
  refine CG.region ?_
  refine OG.yield (Yield.move rfl) rfl ?_
  refine OG.yield (Yield.move rfl) rfl ?_
  refine OG.yield (Yield.move rfl) rfl ?_
  refine OG.yield (Yield.quo (c := ((p / 64 : Nat) : Int)) rfl rfl (by decide) (quo_nat (b := 64) (by decide) (by omega))) rfl ?_
  refine OG.callo call51 rfl (Imp.refl _) (entry_spec W0 _ (m := m) (n := n) (t := root) (i := p / 64) (bs := bs) hl hr hi) rfl ?_
  rintro ⟨⟩ -
  refine OG.callo call50 rfl (Imp.refl _) (rsplit_spec W0 _ (word bs root (p / 64) : Int) (by omega) (by omega)) rfl ?_
  rintro ⟨⟩ -
  rw [split_sp, hx]
  refine OG.yield (Yield.move rfl) rfl ?_
  refine OG.yield (Yield.extract rfl rfl) rfl ?_
  refine OG.yield (Yield.extract rfl rfl) rfl ?_
  refine OG.yield (Yield.extract rfl rfl) rfl ?_
  refine OG.yield (Yield.assign rfl) rfl ?_
  refine OG.yield (Yield.assign rfl) rfl ?_
  refine OG.yield (Yield.assign rfl) rfl ?_
  refine OG.nil ?_
  refine QG.then ?_
  refine CG.seq ?_
  cases x3
  · skip
    refine CG.region ?_
    refine OG.yield (Yield.move rfl) rfl ?_
    refine OG.yield (Yield.move rfl) rfl ?_
    refine OG.yield (Yield.move rfl) rfl ?_
    refine OG.guard_no rfl rfl rfl rfl rfl (by decide) (by decide) ?_
    refine OG.guard_no rfl rfl rfl rfl rfl (by decide) (by decide) ?_
    refine OG.guard_no rfl rfl rfl rfl rfl (by decide) (by decide) ?_
    refine OG.yield (by first | exact Yield.pick_t rfl rfl | exact Yield.pick_f rfl rfl | exact Yield.pick rfl (fun _ => rfl) (fun _ => rfl)) rfl ?_
    refine OG.yield (Yield.assign rfl) rfl ?_
    refine OG.yield (Yield.assign rfl) rfl ?_
    refine OG.nil ?_
    refine QG.then ?_
    refine CG.ret ?_
    exact QG.ret2 rfl rfl rfl () trivial rfl (Imp.refl _)
  · skip
    refine CG.region ?_
    refine OG.yield (Yield.move rfl) rfl ?_
    refine OG.yield (Yield.move rfl) rfl ?_
    refine OG.yield (Yield.move rfl) rfl ?_
    refine OG.guard_yes rfl rfl rfl (by decide) ?_
    refine OG.yield (Yield.move rfl) rfl ?_
    refine OG.guard_yes rfl rfl rfl (by decide) ?_
    refine OG.yield (Yield.move rfl) rfl ?_
    refine OG.guard_yes rfl rfl rfl (by decide) ?_
    refine OG.callo call46 rfl (Imp.refl _) (frame_spec W0 _ (m := m) (n := n) (bs := bs) x1) rfl ?_
    rintro ⟨⟩ -
    refine OG.yield (by first | exact Yield.pick_t rfl rfl | exact Yield.pick_f rfl rfl | exact Yield.pick rfl (fun _ => rfl) (fun _ => rfl)) rfl ?_
    refine OG.yield (Yield.assign rfl) rfl ?_
    refine OG.yield (Yield.assign rfl) rfl ?_
    refine OG.nil ?_
    refine QG.then ?_
    refine CG.ret ?_
    exact QG.ret2 rfl rfl rfl () trivial rfl (Imp.refl _)
theorem walk_bad {m n : Nat} {root p : Int} {bs : List UInt8} (h : ¬(0 ≤ root ∧ root < n) ∨ ¬(0 ≤ p ∧ p < 4096)) : Ctr Try.prog W0 18 [.pointer (some ⟨m, 0, none⟩), .int .i64 root, .int .i64 p] (RM m n bs :: Fr) (fun _ : Unit => True) (fun _ => .tuple #[.int .i64 0, .int .i64 0, .int .i64 2]) (fun _ => RM m n bs :: Fr) := by
  refine Ctr.of_body Try.func18 rfl Try.ntmps18 rfl ?_
  refine CG.seq ?_
  refine CG.region ?_
  refine OG.yield (Yield.assign rfl) rfl ?_
  refine OG.yield (Yield.assign rfl) rfl ?_
  refine OG.yield (Yield.assign rfl) rfl ?_
  refine OG.nil ?_
  refine QG.then ?_
  refine CG.seq ?_
  refine CG.seq ?_
  rcases (show ¬(0 ≤ root ∧ root < (n : Int)) ∨ ((0 ≤ root ∧ root < (n : Int)) ∧ ¬(0 ≤ p ∧ p < 4096)) by omega) with hh | hh
  · skip
    refine CG.region ?_
    refine OG.yield (Yield.move rfl) rfl ?_
    refine OG.yield (Yield.move rfl) rfl ?_
    refine OG.callo call46 rfl (Imp.refl _) (frame_spec W0 _ (m := m) (n := n) (bs := bs) root) rfl ?_
    rintro ⟨⟩ -
    first | rw [decide_eq_false hh] | rw [decide_eq_true hh.1]
    refine OG.yield (Yield.not rfl) rfl ?_
    refine OG.yield (Yield.move rfl) rfl ?_
    refine OG.guard_no rfl rfl rfl rfl rfl (by decide) (by decide) ?_
    refine OG.guard_no rfl rfl rfl rfl rfl (by decide) (by decide) ?_
    refine OG.guard_no rfl rfl rfl rfl rfl (by decide) (by decide) ?_
    refine OG.yield (by first | exact Yield.pick_t rfl rfl | exact Yield.pick_f rfl rfl | exact Yield.pick rfl (fun _ => rfl) (fun _ => rfl)) rfl ?_
    refine OG.nil ?_
    refine QG.then ?_
    refine CG.cond_t rfl ?_
    refine CG.seq ?_
    refine CG.region ?_
    refine OG.yield (Yield.assign rfl) rfl ?_
    refine OG.yield (Yield.assign rfl) rfl ?_
    refine OG.yield (Yield.assign rfl) rfl ?_
    refine OG.nil ?_
    refine QG.then ?_
    refine CG.ret ?_
    refine QG.pass_ret ?_
    exact QG.rets [.int .i64 0, .int .i64 0, .int .i64 2] rfl ⟨rfl, rfl, rfl, trivial⟩ () trivial rfl (Imp.refl _)
  · skip
    refine CG.region ?_
    refine OG.yield (Yield.move rfl) rfl ?_
    refine OG.yield (Yield.move rfl) rfl ?_
    refine OG.callo call46 rfl (Imp.refl _) (frame_spec W0 _ (m := m) (n := n) (bs := bs) root) rfl ?_
    rintro ⟨⟩ -
    first | rw [decide_eq_false hh] | rw [decide_eq_true hh.1]
    refine OG.yield (Yield.not rfl) rfl ?_
    refine OG.yield (Yield.move rfl) rfl ?_
    refine OG.guard_yes rfl rfl rfl (by decide) ?_
    refine OG.yield (Yield.move rfl) rfl ?_
    refine OG.guard_yes rfl rfl rfl (by decide) ?_
    refine OG.callo call47 rfl (Imp.refl _) (page_spec W0 _ p) rfl ?_
    rintro ⟨⟩ -
    rw [decide_eq_false hh.2]
    refine OG.guard_yes rfl rfl rfl (by decide) ?_
    refine OG.yield (Yield.not rfl) rfl ?_
    refine OG.yield (by first | exact Yield.pick_t rfl rfl | exact Yield.pick_f rfl rfl | exact Yield.pick rfl (fun _ => rfl) (fun _ => rfl)) rfl ?_
    refine OG.nil ?_
    refine QG.then ?_
    refine CG.cond_t rfl ?_
    refine CG.seq ?_
    refine CG.region ?_
    refine OG.yield (Yield.assign rfl) rfl ?_
    refine OG.yield (Yield.assign rfl) rfl ?_
    refine OG.yield (Yield.assign rfl) rfl ?_
    refine OG.nil ?_
    refine QG.then ?_
    refine CG.ret ?_
    refine QG.pass_ret ?_
    exact QG.rets [.int .i64 0, .int .i64 0, .int .i64 2] rfl ⟨rfl, rfl, rfl, trivial⟩ () trivial rfl (Imp.refl _)
theorem walk_spec {m n root p : Nat} {bs : List UInt8} (hl : bs.length = n * 256 ∧ 1 ≤ n ∧ n ≤ 1024) (hr : root < n) (hp : p < 4096) : Ctr Try.prog W0 18 [.pointer (some ⟨m, 0, none⟩), .int .i64 root, .int .i64 p] (RM m n bs :: Fr) (fun _ : Unit => True) (fun _ => .tuple #[.int .i64 (walkR n bs root p).1, .int .i64 (walkR n bs root p).2.1, .int .i64 (walkR n bs root p).2.2]) (fun _ => RM m n bs :: Fr) := by
  have hi : p % 64 < 64 := Nat.mod_lt _ (by decide)
  refine Ctr.of_body Try.func18 rfl Try.ntmps18 rfl ?_
  refine CG.seq ?_
  refine CG.region ?_
  refine OG.yield (Yield.assign rfl) rfl ?_
  refine OG.yield (Yield.assign rfl) rfl ?_
  refine OG.yield (Yield.assign rfl) rfl ?_
  refine OG.nil ?_
  refine QG.then ?_
  refine CG.seq ?_
  refine CG.seq ?_
  refine CG.region ?_
  refine OG.yield (Yield.move rfl) rfl ?_
  refine OG.yield (Yield.move rfl) rfl ?_
  refine OG.callo call46 rfl (Imp.refl _) (frame_spec W0 _ (m := m) (n := n) (bs := bs) (root : Int)) rfl ?_
  rintro ⟨⟩ -
  rw [decide_eq_true (p := 0 ≤ (root : Int) ∧ (root : Int) < (n : Int)) (by omega)]
  refine OG.yield (Yield.not rfl) rfl ?_
  refine OG.yield (Yield.move rfl) rfl ?_
  refine OG.guard_yes rfl rfl rfl (by decide) ?_
  refine OG.yield (Yield.move rfl) rfl ?_
  refine OG.guard_yes rfl rfl rfl (by decide) ?_
  refine OG.callo call47 rfl (Imp.refl _) (page_spec W0 _ (p : Int)) rfl ?_
  rintro ⟨⟩ -
  rw [decide_eq_true (p := 0 ≤ (p : Int) ∧ (p : Int) < 4096) (by omega)]
  refine OG.guard_yes rfl rfl rfl (by decide) ?_
  refine OG.yield (Yield.not rfl) rfl ?_
  refine OG.yield (by first | exact Yield.pick_t rfl rfl | exact Yield.pick_f rfl rfl | exact Yield.pick rfl (fun _ => rfl) (fun _ => rfl)) rfl ?_
  refine OG.nil ?_
  refine QG.then ?_
  refine CG.cond_f rfl ?_
  refine CG.skip ?_
  refine QG.then ?_
  refine CG.seq ?_
  refine CG.region ?_
  refine OG.yield (Yield.move rfl) rfl ?_
  refine OG.yield (Yield.move rfl) rfl ?_
  refine OG.yield (Yield.move rfl) rfl ?_
  refine OG.callo call48 rfl (Imp.refl _) (second_spec W0 _ (m := m) (n := n) (root := root) (p := p) (bs := bs) hl hr hp) rfl ?_
  rintro ⟨⟩ -
  refine OG.yield (Yield.move rfl) rfl ?_
  refine OG.yield (Yield.extract rfl rfl) rfl ?_
  refine OG.yield (Yield.extract rfl rfl) rfl ?_
  refine OG.yield (Yield.assign rfl) rfl ?_
  refine OG.yield (Yield.assign rfl) rfl ?_
  refine OG.nil ?_
  refine QG.then ?_
  refine CG.seq ?_
  refine CG.seq ?_
  rcases hs2 : (secR n bs root p).2
  · skip
    have hw : walkR n bs root p = (0, 0, 90) := by unfold walkR; rw [if_neg (by rw [hs2]; simp)]
    rw [hw]
    refine CG.region ?_
    refine OG.yield (Yield.move rfl) rfl ?_
    refine OG.yield (Yield.not rfl) rfl ?_
    refine OG.nil ?_
    refine QG.then ?_
    refine CG.cond_t rfl ?_
    refine CG.seq ?_
    refine CG.region ?_
    refine OG.yield (Yield.assign rfl) rfl ?_
    refine OG.yield (Yield.assign rfl) rfl ?_
    refine OG.yield (Yield.assign rfl) rfl ?_
    refine OG.nil ?_
    refine QG.then ?_
    refine CG.ret ?_
    refine QG.pass_ret ?_
    first | exact QG.rets [.int .i64 0, .int .i64 0, .int .i64 90] rfl ⟨rfl, rfl, rfl, trivial⟩ () trivial (by first | rfl | (rw [hw]; rfl)) (Imp.refl _) | exact QG.rets [.int .i64 x1, .int .i64 x2, .int .i64 0] rfl ⟨rfl, rfl, rfl, trivial⟩ () trivial (by rw [hw]; rfl) (Imp.refl _)
  · skip
    obtain ⟨t, ht, htn⟩ := secR_in hs2
    rw [ht]
    have hwd := word_lt bs t (p % 64)
    generalize hx : sp (word bs t (p % 64)) = x
    obtain ⟨x1, x2, x3⟩ := x
    have hw : walkR n bs root p = if x3 = true then (x1, x2, 0) else (0, 0, 90) := by unfold walkR; rw [ht, Int.toNat_natCast, hx, hs2]; simp
    refine CG.region ?_
    refine OG.yield (Yield.move rfl) rfl ?_
    refine OG.yield (Yield.not rfl) rfl ?_
    refine OG.nil ?_
    refine QG.then ?_
    refine CG.cond_f rfl ?_
    refine CG.skip ?_
    refine QG.then ?_
    refine CG.seq ?_
    refine CG.region ?_
    refine OG.yield (Yield.move rfl) rfl ?_
    refine OG.yield (Yield.move rfl) rfl ?_
    refine OG.yield (Yield.move rfl) rfl ?_
    refine OG.yield (Yield.rem (c := ((p % 64 : Nat) : Int)) rfl rfl (by decide) (tmod_nat p 64 (by decide))) rfl ?_
    refine OG.callo call51 rfl (Imp.refl _) (entry_spec W0 _ (m := m) (n := n) (t := t) (i := p % 64) (bs := bs) hl htn hi) rfl ?_
    rintro ⟨⟩ -
    refine OG.callo call50 rfl (Imp.refl _) (rsplit_spec W0 _ (word bs t (p % 64) : Int) (by omega) (by omega)) rfl ?_
    rintro ⟨⟩ -
    rw [split_sp, hx]
    refine OG.yield (Yield.move rfl) rfl ?_
    refine OG.yield (Yield.extract rfl rfl) rfl ?_
    refine OG.yield (Yield.extract rfl rfl) rfl ?_
    refine OG.yield (Yield.extract rfl rfl) rfl ?_
    refine OG.yield (Yield.assign rfl) rfl ?_
    refine OG.yield (Yield.assign rfl) rfl ?_
    refine OG.yield (Yield.assign rfl) rfl ?_
    refine OG.nil ?_
    refine QG.then ?_
    refine CG.seq ?_
    refine CG.seq ?_
    cases x3
    · skip
      refine CG.region ?_
      refine OG.yield (Yield.move rfl) rfl ?_
      refine OG.yield (Yield.not rfl) rfl ?_
      refine OG.nil ?_
      refine QG.then ?_
      refine CG.cond_t rfl ?_
      refine CG.seq ?_
      refine CG.region ?_
      refine OG.yield (Yield.assign rfl) rfl ?_
      refine OG.yield (Yield.assign rfl) rfl ?_
      refine OG.yield (Yield.assign rfl) rfl ?_
      refine OG.nil ?_
      refine QG.then ?_
      refine CG.ret ?_
      refine QG.pass_ret ?_
      first | exact QG.rets [.int .i64 0, .int .i64 0, .int .i64 90] rfl ⟨rfl, rfl, rfl, trivial⟩ () trivial (by first | rfl | (rw [hw]; rfl)) (Imp.refl _) | exact QG.rets [.int .i64 x1, .int .i64 x2, .int .i64 0] rfl ⟨rfl, rfl, rfl, trivial⟩ () trivial (by rw [hw]; rfl) (Imp.refl _)
    · skip
      refine CG.region ?_
      refine OG.yield (Yield.move rfl) rfl ?_
      refine OG.yield (Yield.not rfl) rfl ?_
      refine OG.nil ?_
      refine QG.then ?_
      refine CG.cond_f rfl ?_
      refine CG.skip ?_
      refine QG.then ?_
      refine CG.seq ?_
      refine CG.region ?_
      refine OG.yield (Yield.move rfl) rfl ?_
      refine OG.yield (Yield.move rfl) rfl ?_
      refine OG.yield (Yield.assign rfl) rfl ?_
      refine OG.yield (Yield.assign rfl) rfl ?_
      refine OG.yield (Yield.assign rfl) rfl ?_
      refine OG.nil ?_
      refine QG.then ?_
      refine CG.ret ?_
      first | exact QG.rets [.int .i64 0, .int .i64 0, .int .i64 90] rfl ⟨rfl, rfl, rfl, trivial⟩ () trivial (by first | rfl | (rw [hw]; rfl)) (Imp.refl _) | exact QG.rets [.int .i64 x1, .int .i64 x2, .int .i64 0] rfl ⟨rfl, rfl, rfl, trivial⟩ () trivial (by rw [hw]; rfl) (Imp.refl _)
theorem clear_bad {m n : Nat} {root p : Int} {bs : List UInt8} (h : ¬(0 ≤ root ∧ root < n) ∨ ¬(0 ≤ p ∧ p < 4096)) : Ctr Try.prog W0 17 [.pointer (some ⟨m, 0, none⟩), .int .i64 root, .int .i64 p] (RM m n bs :: Fr) (fun _ : Unit => True) (fun _ => .int .i64 2) (fun _ => RM m n bs :: Fr) := by
  refine Ctr.of_body Try.func17 rfl Try.ntmps17 rfl ?_
  refine CG.seq ?_
  refine CG.region ?_
  refine OG.yield (Yield.assign rfl) rfl ?_
  refine OG.nil ?_
  refine QG.then ?_
  refine CG.seq ?_
  refine CG.region ?_
  refine OG.yield (Yield.move rfl) rfl ?_
  refine OG.yield (Yield.move rfl) rfl ?_
  refine OG.yield (Yield.move rfl) rfl ?_
  refine OG.callo call18 rfl (Imp.refl _) (walk_bad W0 _ (m := m) (n := n) (bs := bs) h) rfl ?_
  rintro ⟨⟩ -
  refine OG.yield (Yield.move rfl) rfl ?_
  refine OG.yield (Yield.extract rfl rfl) rfl ?_
  refine OG.yield (Yield.extract rfl rfl) rfl ?_
  refine OG.yield (Yield.extract rfl rfl) rfl ?_
  refine OG.yield (Yield.assign rfl) rfl ?_
  refine OG.yield (Yield.assign rfl) rfl ?_
  refine OG.yield (Yield.assign rfl) rfl ?_
  refine OG.nil ?_
  refine QG.then ?_
  refine CG.seq ?_
  refine CG.seq ?_
  refine CG.region ?_
  refine OG.yield (Yield.move rfl) rfl ?_
  refine OG.yield (by first | exact Yield.as (Yield.neq rfl rfl) (bT (by omega)) | exact Yield.as (Yield.neq rfl rfl) (bF (by omega)) | exact Yield.neq rfl rfl) rfl ?_
  refine OG.nil ?_
  refine QG.then ?_
  refine CG.cond_t rfl ?_
  refine CG.seq ?_
  refine CG.region ?_
  refine OG.yield (Yield.move rfl) rfl ?_
  refine OG.yield (Yield.assign rfl) rfl ?_
  refine OG.nil ?_
  refine QG.then ?_
  refine CG.ret ?_
  refine QG.pass_ret ?_
  exact QG.ret1 rfl rfl () trivial rfl (Imp.refl _)
theorem st_at {t i : Nat} (ht : t ≤ 1023) (hi : i < 64) : IntKind.u32.wrap ((t : Int) * 256 + (i : Int) * 4) = ((t * 256 + i * 4 : Nat) : Int) := by
  rw [show (t : Int) * 256 + (i : Int) * 4 = ((t * 256 + i * 4 : Nat) : Int) by omega]; exact wu32 (by omega) (by omega)
theorem merr_0 {n a : Nat} (h1 : a % 4 = 0) (h2 : a + 4 ≤ n * 256) : merr n a 4 = 0 := by
  unfold merr; rw [if_neg (by omega), if_neg (by omega), if_neg (by omega)]
theorem clear_spec {m n root p : Nat} {bs : List UInt8} (hl : bs.length = n * 256 ∧ 1 ≤ n ∧ n ≤ 1024) (hr : root < n) (hp : p < 4096) : Ctr Try.prog W0 17 [.pointer (some ⟨m, 0, none⟩), .int .i64 root, .int .i64 p] (RM m n bs :: Fr) (fun _ : Unit => True) (fun _ => .int .i64 (walkR n bs root p).2.2) (fun _ => RM m n (clearR n bs root p) :: Fr) := by
  have hl0 := hl
  obtain ⟨hl1, hn1, hn2⟩ := hl0
  have hi : p % 64 < 64 := Nat.mod_lt _ (by decide)
  refine Ctr.of_body Try.func17 rfl Try.ntmps17 rfl ?_
  refine CG.seq ?_
  refine CG.region ?_
  refine OG.yield (Yield.assign rfl) rfl ?_
  refine OG.nil ?_
  refine QG.then ?_
  refine CG.seq ?_
  refine CG.region ?_
  refine OG.yield (Yield.move rfl) rfl ?_
  refine OG.yield (Yield.move rfl) rfl ?_
  refine OG.yield (Yield.move rfl) rfl ?_
  refine OG.callo call18 rfl (Imp.refl _) (walk_spec W0 _ (m := m) (n := n) (root := root) (p := p) (bs := bs) hl hr hp) rfl ?_
  rintro ⟨⟩ -
  refine OG.yield (Yield.move rfl) rfl ?_
  refine OG.yield (Yield.extract rfl rfl) rfl ?_
  refine OG.yield (Yield.extract rfl rfl) rfl ?_
  refine OG.yield (Yield.extract rfl rfl) rfl ?_
  refine OG.yield (Yield.assign rfl) rfl ?_
  refine OG.yield (Yield.assign rfl) rfl ?_
  refine OG.yield (Yield.assign rfl) rfl ?_
  refine OG.nil ?_
  refine QG.then ?_
  refine CG.seq ?_
  refine CG.seq ?_
  rcases walkR_0 (n := n) (bs := bs) (root := root) (p := p) with ⟨hw, hs⟩ | hw
  · skip
    obtain ⟨t, ht, htn⟩ := secR_in hs
    have hcl : clearR n bs root p = stW bs t (p % 64) 0 := by unfold clearR; rw [if_pos hw, ht, Int.toNat_natCast]
    rw [hcl, hw]
    refine CG.region ?_
    refine OG.yield (Yield.move rfl) rfl ?_
    refine OG.yield (by first | exact Yield.as (Yield.neq rfl rfl) (bT (by omega)) | exact Yield.as (Yield.neq rfl rfl) (bF (by omega)) | exact Yield.neq rfl rfl) rfl ?_
    refine OG.nil ?_
    refine QG.then ?_
    refine CG.cond_f rfl ?_
    refine CG.skip ?_
    refine QG.then ?_
    refine CG.seq ?_
    refine CG.region ?_
    refine OG.yield (Yield.move rfl) rfl ?_
    refine OG.yield (Yield.move rfl) rfl ?_
    refine OG.yield (Yield.move rfl) rfl ?_
    refine OG.callo call48 rfl (Imp.refl _) (second_spec W0 _ (m := m) (n := n) (root := root) (p := p) (bs := bs) hl hr hp) rfl ?_
    rintro ⟨⟩ -
    rw [ht]
    refine OG.yield (Yield.move rfl) rfl ?_
    refine OG.yield (Yield.extract rfl rfl) rfl ?_
    refine OG.yield (Yield.extract rfl rfl) rfl ?_
    refine OG.yield (Yield.assign rfl) rfl ?_
    refine OG.yield (Yield.assign rfl) rfl ?_
    refine OG.nil ?_
    refine QG.then ?_
    refine CG.seq ?_
    refine CG.region ?_
    refine OG.yield (Yield.move rfl) rfl ?_
    refine OG.yield (Yield.move rfl) rfl ?_
    refine OG.yield (Yield.mul rfl rfl (w64 (by omega) (by omega))) rfl ?_
    refine OG.yield (Yield.move rfl) rfl ?_
    refine OG.yield (Yield.rem (c := ((p % 64 : Nat) : Int)) rfl rfl (by decide) (tmod_nat p 64 (by decide))) rfl ?_
    refine OG.yield (Yield.mul rfl rfl (w64 (by omega) (by omega))) rfl ?_
    refine OG.yield (Yield.add rfl rfl (w64 (by omega) (by omega))) rfl ?_
    refine OG.yield (Yield.conv (c := ((t * 256 + p % 64 * 4 : Nat) : Int)) Try.underlying32 rfl rfl (st_at (by omega) hi)) rfl ?_
    refine OG.callo call20 rfl (Imp.refl _) (rstore_ok W0 _ (m := m) (n := n) (a := t * 256 + p % 64 * 4) (s := 4) (v := 0) (bs := bs) (by omega) (by omega) (by omega) (merr_0 (by omega) (by omega)) (by decide)) rfl ?_
    rintro ⟨⟩ -
    refine OG.nil ?_
    refine QG.then ?_
    refine CG.seq ?_
    refine CG.region ?_
    refine OG.yield (Yield.assign rfl) rfl ?_
    refine OG.nil ?_
    refine QG.then ?_
    refine CG.ret ?_
    exact QG.ret1 rfl rfl () trivial rfl (Imp.refl _)
  · skip
    have hcl : clearR n bs root p = bs := by unfold clearR; rw [if_neg (by rw [hw]; decide)]
    rw [hcl, hw]
    refine CG.region ?_
    refine OG.yield (Yield.move rfl) rfl ?_
    refine OG.yield (by first | exact Yield.as (Yield.neq rfl rfl) (bT (by omega)) | exact Yield.as (Yield.neq rfl rfl) (bF (by omega)) | exact Yield.neq rfl rfl) rfl ?_
    refine OG.nil ?_
    refine QG.then ?_
    refine CG.cond_t rfl ?_
    refine CG.seq ?_
    refine CG.region ?_
    refine OG.yield (Yield.move rfl) rfl ?_
    refine OG.yield (Yield.assign rfl) rfl ?_
    refine OG.nil ?_
    refine QG.then ?_
    refine CG.ret ?_
    refine QG.pass_ret ?_
    exact QG.ret1 rfl rfl () trivial rfl (Imp.refl _)
theorem set_bad {m n : Nat} {root p f pm spare : Int} {bs : List UInt8} (h : ¬(0 ≤ root ∧ root < n) ∨ ¬(0 ≤ p ∧ p < 4096) ∨ entryOf f pm = 0 ∨ ¬(0 ≤ f ∧ f < n)) : Ctr Try.prog W0 16 [.pointer (some ⟨m, 0, none⟩), .int .i64 root, .agg #[.int .i64 p, .int .i64 f, .int .i64 pm, .int .i64 spare]] (RM m n bs :: Fr) (fun _ : Unit => True) (fun _ => .tuple #[.bool false, .int .i64 2]) (fun _ => RM m n bs :: Fr) := by
  have her := entryOf_range f pm
  refine Ctr.of_body Try.func16 rfl Try.ntmps16 rfl ?_
  refine CG.seq ?_
  refine CG.region ?_
  refine OG.effd (Eff.box rfl) rfl ?_
  rintro b5 -
  refine OG.yield (Yield.assign rfl) rfl ?_
  refine OG.yield (Yield.assign rfl) rfl ?_
  refine OG.nil ?_
  refine QG.then ?_
  refine CG.seq ?_
  refine CG.region ?_
  refine OG.yield (Yield.fieldAddr fa31_1 rfl) rfl ?_
  refine OG.yield (Yield.load ti3 rfl (by first | exact Cel.of_blk (by repeat (first | exact Ext.here | apply Ext.there)) rfl | exact (hrow (by repeat (first | exact Ext.here | apply Ext.there))) _ _ rfl)) rfl ?_
  refine OG.yield (Yield.fieldAddr fa31_2 rfl) rfl ?_
  refine OG.yield (Yield.load ti3 rfl (by first | exact Cel.of_blk (by repeat (first | exact Ext.here | apply Ext.there)) rfl | exact (hrow (by repeat (first | exact Ext.here | apply Ext.there))) _ _ rfl)) rfl ?_
  refine OG.callo call45 rfl (Imp.refl _) (rentry_spec W0 _ f pm) rfl ?_
  rintro ⟨⟩ -
  refine OG.yield (Yield.assign rfl) rfl ?_
  refine OG.nil ?_
  refine QG.then ?_
  refine CG.seq ?_
  refine CG.seq ?_
  rcases (show ¬(0 ≤ root ∧ root < (n : Int)) ∨ ((0 ≤ root ∧ root < (n : Int)) ∧ ¬(0 ≤ p ∧ p < 4096)) ∨ ((0 ≤ root ∧ root < (n : Int)) ∧ (0 ≤ p ∧ p < 4096) ∧ entryOf f pm = 0) ∨ ((0 ≤ root ∧ root < (n : Int)) ∧ (0 ≤ p ∧ p < 4096) ∧ entryOf f pm ≠ 0 ∧ ¬(0 ≤ f ∧ f < (n : Int))) by omega) with hh | hh | hh | hh
  · skip
    refine CG.region ?_
    refine OG.yield (Yield.move rfl) rfl ?_
    refine OG.yield (Yield.move rfl) rfl ?_
    refine OG.callo call46 rfl ((by repeat (first | exact Imp.refl _ | exact Imp.none _ | apply Imp.pull (by repeat (first | exact Ext.here | apply Ext.there)) | apply Imp.trans Imp.drop))) (frame_spec W0 _ (m := m) (n := n) (bs := bs) root) rfl ?_
    rintro ⟨⟩ -
    first | rw [decide_eq_false hh] | rw [decide_eq_true hh.1]
    refine OG.yield (Yield.not rfl) rfl ?_
    refine OG.yield (Yield.move rfl) rfl ?_
    refine OG.guard_no rfl rfl rfl rfl rfl (by decide) (by decide) ?_
    refine OG.guard_no rfl rfl rfl rfl rfl (by decide) (by decide) ?_
    refine OG.guard_no rfl rfl rfl rfl rfl (by decide) (by decide) ?_
    refine OG.guard_no rfl rfl rfl rfl rfl (by decide) (by decide) ?_
    refine OG.yield (by first | exact Yield.pick_t rfl rfl | exact Yield.pick_f rfl rfl | exact Yield.pick rfl (fun _ => rfl) (fun _ => rfl)) rfl ?_
    refine OG.yield (Yield.move rfl) rfl ?_
    refine OG.guard_no rfl rfl rfl rfl rfl (by decide) (by decide) ?_
    refine OG.guard_no rfl rfl rfl rfl rfl (by decide) (by decide) ?_
    refine OG.yield (by first | exact Yield.pick_t rfl rfl | exact Yield.pick_f rfl rfl | exact Yield.pick rfl (fun _ => rfl) (fun _ => rfl)) rfl ?_
    refine OG.yield (Yield.move rfl) rfl ?_
    refine OG.guard_no rfl rfl rfl rfl rfl (by decide) (by decide) ?_
    refine OG.guard_no rfl rfl rfl rfl rfl (by decide) (by decide) ?_
    refine OG.guard_no rfl rfl rfl rfl rfl (by decide) (by decide) ?_
    refine OG.guard_no rfl rfl rfl rfl rfl (by decide) (by decide) ?_
    refine OG.guard_no rfl rfl rfl rfl rfl (by decide) (by decide) ?_
    refine OG.yield (by first | exact Yield.pick_t rfl rfl | exact Yield.pick_f rfl rfl | exact Yield.pick rfl (fun _ => rfl) (fun _ => rfl)) rfl ?_
    refine OG.nil ?_
    refine QG.then ?_
    refine CG.cond_t rfl ?_
    refine CG.seq ?_
    refine CG.region ?_
    refine OG.yield (Yield.assign rfl) rfl ?_
    refine OG.yield (Yield.assign rfl) rfl ?_
    refine OG.nil ?_
    refine QG.then ?_
    refine CG.ret ?_
    refine QG.pass_ret ?_
    exact QG.rets [.bool false, .int .i64 2] rfl ⟨rfl, rfl, trivial⟩ () trivial rfl (by repeat (first | exact Imp.refl _ | exact Imp.none _ | apply Imp.pull (by repeat (first | exact Ext.here | apply Ext.there)) | apply Imp.trans Imp.drop))
  · skip
    refine CG.region ?_
    refine OG.yield (Yield.move rfl) rfl ?_
    refine OG.yield (Yield.move rfl) rfl ?_
    refine OG.callo call46 rfl ((by repeat (first | exact Imp.refl _ | exact Imp.none _ | apply Imp.pull (by repeat (first | exact Ext.here | apply Ext.there)) | apply Imp.trans Imp.drop))) (frame_spec W0 _ (m := m) (n := n) (bs := bs) root) rfl ?_
    rintro ⟨⟩ -
    first | rw [decide_eq_false hh] | rw [decide_eq_true hh.1]
    refine OG.yield (Yield.not rfl) rfl ?_
    refine OG.yield (Yield.move rfl) rfl ?_
    refine OG.guard_yes rfl rfl rfl (by decide) ?_
    refine OG.yield (Yield.fieldAddr fa31_0 rfl) rfl ?_
    refine OG.guard_yes rfl rfl rfl (by decide) ?_
    refine OG.yield (Yield.load ti3 rfl (by first | exact Cel.of_blk (by repeat (first | exact Ext.here | apply Ext.there)) rfl | exact (hrow (by repeat (first | exact Ext.here | apply Ext.there))) _ _ rfl)) rfl ?_
    refine OG.guard_yes rfl rfl rfl (by decide) ?_
    refine OG.callo call47 rfl (Imp.refl _) (page_spec W0 _ p) rfl ?_
    rintro ⟨⟩ -
    first | rw [decide_eq_false hh.2] | rw [decide_eq_true hh.2.1]
    refine OG.guard_yes rfl rfl rfl (by decide) ?_
    refine OG.yield (Yield.not rfl) rfl ?_
    refine OG.yield (by first | exact Yield.pick_t rfl rfl | exact Yield.pick_f rfl rfl | exact Yield.pick rfl (fun _ => rfl) (fun _ => rfl)) rfl ?_
    refine OG.yield (Yield.move rfl) rfl ?_
    refine OG.guard_no rfl rfl rfl rfl rfl (by decide) (by decide) ?_
    refine OG.guard_no rfl rfl rfl rfl rfl (by decide) (by decide) ?_
    refine OG.yield (by first | exact Yield.pick_t rfl rfl | exact Yield.pick_f rfl rfl | exact Yield.pick rfl (fun _ => rfl) (fun _ => rfl)) rfl ?_
    refine OG.yield (Yield.move rfl) rfl ?_
    refine OG.guard_no rfl rfl rfl rfl rfl (by decide) (by decide) ?_
    refine OG.guard_no rfl rfl rfl rfl rfl (by decide) (by decide) ?_
    refine OG.guard_no rfl rfl rfl rfl rfl (by decide) (by decide) ?_
    refine OG.guard_no rfl rfl rfl rfl rfl (by decide) (by decide) ?_
    refine OG.guard_no rfl rfl rfl rfl rfl (by decide) (by decide) ?_
    refine OG.yield (by first | exact Yield.pick_t rfl rfl | exact Yield.pick_f rfl rfl | exact Yield.pick rfl (fun _ => rfl) (fun _ => rfl)) rfl ?_
    refine OG.nil ?_
    refine QG.then ?_
    refine CG.cond_t rfl ?_
    refine CG.seq ?_
    refine CG.region ?_
    refine OG.yield (Yield.assign rfl) rfl ?_
    refine OG.yield (Yield.assign rfl) rfl ?_
    refine OG.nil ?_
    refine QG.then ?_
    refine CG.ret ?_
    refine QG.pass_ret ?_
    exact QG.rets [.bool false, .int .i64 2] rfl ⟨rfl, rfl, trivial⟩ () trivial rfl (by repeat (first | exact Imp.refl _ | exact Imp.none _ | apply Imp.pull (by repeat (first | exact Ext.here | apply Ext.there)) | apply Imp.trans Imp.drop))
  · skip
    refine CG.region ?_
    refine OG.yield (Yield.move rfl) rfl ?_
    refine OG.yield (Yield.move rfl) rfl ?_
    refine OG.callo call46 rfl ((by repeat (first | exact Imp.refl _ | exact Imp.none _ | apply Imp.pull (by repeat (first | exact Ext.here | apply Ext.there)) | apply Imp.trans Imp.drop))) (frame_spec W0 _ (m := m) (n := n) (bs := bs) root) rfl ?_
    rintro ⟨⟩ -
    first | rw [decide_eq_false hh] | rw [decide_eq_true hh.1]
    refine OG.yield (Yield.not rfl) rfl ?_
    refine OG.yield (Yield.move rfl) rfl ?_
    refine OG.guard_yes rfl rfl rfl (by decide) ?_
    refine OG.yield (Yield.fieldAddr fa31_0 rfl) rfl ?_
    refine OG.guard_yes rfl rfl rfl (by decide) ?_
    refine OG.yield (Yield.load ti3 rfl (by first | exact Cel.of_blk (by repeat (first | exact Ext.here | apply Ext.there)) rfl | exact (hrow (by repeat (first | exact Ext.here | apply Ext.there))) _ _ rfl)) rfl ?_
    refine OG.guard_yes rfl rfl rfl (by decide) ?_
    refine OG.callo call47 rfl (Imp.refl _) (page_spec W0 _ p) rfl ?_
    rintro ⟨⟩ -
    first | rw [decide_eq_false hh.2] | rw [decide_eq_true hh.2.1]
    refine OG.guard_yes rfl rfl rfl (by decide) ?_
    refine OG.yield (Yield.not rfl) rfl ?_
    refine OG.yield (by first | exact Yield.pick_t rfl rfl | exact Yield.pick_f rfl rfl | exact Yield.pick rfl (fun _ => rfl) (fun _ => rfl)) rfl ?_
    refine OG.yield (Yield.move rfl) rfl ?_
    refine OG.guard_yes rfl rfl rfl (by decide) ?_
    refine OG.yield (Yield.move rfl) rfl ?_
    refine OG.guard_yes rfl rfl rfl (by decide) ?_
    refine OG.yield (Yield.as (Yield.eql rfl rfl) (v' := .bool true) (by rw [hh.2.2]; rfl)) rfl ?_
    refine OG.yield (by first | exact Yield.pick_t rfl rfl | exact Yield.pick_f rfl rfl | exact Yield.pick rfl (fun _ => rfl) (fun _ => rfl)) rfl ?_
    refine OG.yield (Yield.move rfl) rfl ?_
    refine OG.guard_no rfl rfl rfl rfl rfl (by decide) (by decide) ?_
    refine OG.guard_no rfl rfl rfl rfl rfl (by decide) (by decide) ?_
    refine OG.guard_no rfl rfl rfl rfl rfl (by decide) (by decide) ?_
    refine OG.guard_no rfl rfl rfl rfl rfl (by decide) (by decide) ?_
    refine OG.guard_no rfl rfl rfl rfl rfl (by decide) (by decide) ?_
    refine OG.yield (by first | exact Yield.pick_t rfl rfl | exact Yield.pick_f rfl rfl | exact Yield.pick rfl (fun _ => rfl) (fun _ => rfl)) rfl ?_
    refine OG.nil ?_
    refine QG.then ?_
    refine CG.cond_t rfl ?_
    refine CG.seq ?_
    refine CG.region ?_
    refine OG.yield (Yield.assign rfl) rfl ?_
    refine OG.yield (Yield.assign rfl) rfl ?_
    refine OG.nil ?_
    refine QG.then ?_
    refine CG.ret ?_
    refine QG.pass_ret ?_
    exact QG.rets [.bool false, .int .i64 2] rfl ⟨rfl, rfl, trivial⟩ () trivial rfl (by repeat (first | exact Imp.refl _ | exact Imp.none _ | apply Imp.pull (by repeat (first | exact Ext.here | apply Ext.there)) | apply Imp.trans Imp.drop))
  · skip
    refine CG.region ?_
    refine OG.yield (Yield.move rfl) rfl ?_
    refine OG.yield (Yield.move rfl) rfl ?_
    refine OG.callo call46 rfl ((by repeat (first | exact Imp.refl _ | exact Imp.none _ | apply Imp.pull (by repeat (first | exact Ext.here | apply Ext.there)) | apply Imp.trans Imp.drop))) (frame_spec W0 _ (m := m) (n := n) (bs := bs) root) rfl ?_
    rintro ⟨⟩ -
    first | rw [decide_eq_false hh] | rw [decide_eq_true hh.1]
    refine OG.yield (Yield.not rfl) rfl ?_
    refine OG.yield (Yield.move rfl) rfl ?_
    refine OG.guard_yes rfl rfl rfl (by decide) ?_
    refine OG.yield (Yield.fieldAddr fa31_0 rfl) rfl ?_
    refine OG.guard_yes rfl rfl rfl (by decide) ?_
    refine OG.yield (Yield.load ti3 rfl (by first | exact Cel.of_blk (by repeat (first | exact Ext.here | apply Ext.there)) rfl | exact (hrow (by repeat (first | exact Ext.here | apply Ext.there))) _ _ rfl)) rfl ?_
    refine OG.guard_yes rfl rfl rfl (by decide) ?_
    refine OG.callo call47 rfl (Imp.refl _) (page_spec W0 _ p) rfl ?_
    rintro ⟨⟩ -
    first | rw [decide_eq_false hh.2] | rw [decide_eq_true hh.2.1]
    refine OG.guard_yes rfl rfl rfl (by decide) ?_
    refine OG.yield (Yield.not rfl) rfl ?_
    refine OG.yield (by first | exact Yield.pick_t rfl rfl | exact Yield.pick_f rfl rfl | exact Yield.pick rfl (fun _ => rfl) (fun _ => rfl)) rfl ?_
    refine OG.yield (Yield.move rfl) rfl ?_
    refine OG.guard_yes rfl rfl rfl (by decide) ?_
    refine OG.yield (Yield.move rfl) rfl ?_
    refine OG.guard_yes rfl rfl rfl (by decide) ?_
    refine OG.yield (Yield.as (Yield.eql rfl rfl) (v' := .bool false) (by rw [decide_eq_false hh.2.2.1])) rfl ?_
    refine OG.yield (by first | exact Yield.pick_t rfl rfl | exact Yield.pick_f rfl rfl | exact Yield.pick rfl (fun _ => rfl) (fun _ => rfl)) rfl ?_
    refine OG.yield (Yield.move rfl) rfl ?_
    refine OG.guard_yes rfl rfl rfl (by decide) ?_
    refine OG.yield (Yield.move rfl) rfl ?_
    refine OG.guard_yes rfl rfl rfl (by decide) ?_
    refine OG.yield (Yield.fieldAddr fa31_1 rfl) rfl ?_
    refine OG.guard_yes rfl rfl rfl (by decide) ?_
    refine OG.yield (Yield.load ti3 rfl (by first | exact Cel.of_blk (by repeat (first | exact Ext.here | apply Ext.there)) rfl | exact (hrow (by repeat (first | exact Ext.here | apply Ext.there))) _ _ rfl)) rfl ?_
    refine OG.guard_yes rfl rfl rfl (by decide) ?_
    refine OG.callo call46 rfl ((by repeat (first | exact Imp.refl _ | exact Imp.none _ | apply Imp.pull (by repeat (first | exact Ext.here | apply Ext.there)) | apply Imp.trans Imp.drop))) (frame_spec W0 _ (m := m) (n := n) (bs := bs) f) rfl ?_
    rintro ⟨⟩ -
    rw [decide_eq_false hh.2.2.2]
    refine OG.guard_yes rfl rfl rfl (by decide) ?_
    refine OG.yield (Yield.not rfl) rfl ?_
    refine OG.yield (by first | exact Yield.pick_t rfl rfl | exact Yield.pick_f rfl rfl | exact Yield.pick rfl (fun _ => rfl) (fun _ => rfl)) rfl ?_
    refine OG.nil ?_
    refine QG.then ?_
    refine CG.cond_t rfl ?_
    refine CG.seq ?_
    refine CG.region ?_
    refine OG.yield (Yield.assign rfl) rfl ?_
    refine OG.yield (Yield.assign rfl) rfl ?_
    refine OG.nil ?_
    refine QG.then ?_
    refine CG.ret ?_
    refine QG.pass_ret ?_
    exact QG.rets [.bool false, .int .i64 2] rfl ⟨rfl, rfl, trivial⟩ () trivial rfl (by repeat (first | exact Imp.refl _ | exact Imp.none _ | apply Imp.pull (by repeat (first | exact Ext.here | apply Ext.there)) | apply Imp.trans Imp.drop))
theorem set_spec {m n root p e : Nat} {f pm spare : Int} {bs : List UInt8} (hl : bs.length = n * 256 ∧ 1 ≤ n ∧ n ≤ 1024) (hr : root < n) (hp : p < 4096) (he : entryOf f pm = e) (he0 : e ≠ 0) (hf : 0 ≤ f ∧ f < n) : Ctr Try.prog W0 16 [.pointer (some ⟨m, 0, none⟩), .int .i64 root, .agg #[.int .i64 p, .int .i64 f, .int .i64 pm, .int .i64 spare]] (RM m n bs :: Fr) (fun _ : Unit => True) (fun _ => .tuple #[.bool (setR n bs root p e spare).1, .int .i64 (setR n bs root p e spare).2.1]) (fun _ => RM m n (setR n bs root p e spare).2.2 :: Fr) := by
  have her := entryOf_range f pm
  have hl0 := hl
  obtain ⟨hl1, hn1, hn2⟩ := hl0
  have hi : p % 64 < 64 := Nat.mod_lt _ (by decide)
  have hi2 : p / 64 < 64 := by omega
  refine Ctr.of_body Try.func16 rfl Try.ntmps16 rfl ?_
  refine CG.seq ?_
  refine CG.region ?_
  refine OG.effd (Eff.box rfl) rfl ?_
  rintro b5 -
  refine OG.yield (Yield.assign rfl) rfl ?_
  refine OG.yield (Yield.assign rfl) rfl ?_
  refine OG.nil ?_
  refine QG.then ?_
  refine CG.seq ?_
  refine CG.region ?_
  refine OG.yield (Yield.fieldAddr fa31_1 rfl) rfl ?_
  refine OG.yield (Yield.load ti3 rfl (by first | exact Cel.of_blk (by repeat (first | exact Ext.here | apply Ext.there)) rfl | exact (hrow (by repeat (first | exact Ext.here | apply Ext.there))) _ _ rfl)) rfl ?_
  refine OG.yield (Yield.fieldAddr fa31_2 rfl) rfl ?_
  refine OG.yield (Yield.load ti3 rfl (by first | exact Cel.of_blk (by repeat (first | exact Ext.here | apply Ext.there)) rfl | exact (hrow (by repeat (first | exact Ext.here | apply Ext.there))) _ _ rfl)) rfl ?_
  refine OG.callo call45 rfl (Imp.refl _) (rentry_spec W0 _ f pm) rfl ?_
  rintro ⟨⟩ -
  rw [he]
  refine OG.yield (Yield.assign rfl) rfl ?_
  refine OG.nil ?_
  refine QG.then ?_
  refine CG.seq ?_
  refine CG.seq ?_
  refine CG.region ?_
  refine OG.yield (Yield.move rfl) rfl ?_
  refine OG.yield (Yield.move rfl) rfl ?_
  refine OG.callo call46 rfl ((by repeat (first | exact Imp.refl _ | exact Imp.none _ | apply Imp.pull (by repeat (first | exact Ext.here | apply Ext.there)) | apply Imp.trans Imp.drop))) (frame_spec W0 _ (m := m) (n := n) (bs := bs) (root : Int)) rfl ?_
  rintro ⟨⟩ -
  rw [decide_eq_true (p := 0 ≤ (root : Int) ∧ (root : Int) < (n : Int)) (by omega)]
  refine OG.yield (Yield.not rfl) rfl ?_
  refine OG.yield (Yield.move rfl) rfl ?_
  refine OG.guard_yes rfl rfl rfl (by decide) ?_
  refine OG.yield (Yield.fieldAddr fa31_0 rfl) rfl ?_
  refine OG.guard_yes rfl rfl rfl (by decide) ?_
  refine OG.yield (Yield.load ti3 rfl (by first | exact Cel.of_blk (by repeat (first | exact Ext.here | apply Ext.there)) rfl | exact (hrow (by repeat (first | exact Ext.here | apply Ext.there))) _ _ rfl)) rfl ?_
  refine OG.guard_yes rfl rfl rfl (by decide) ?_
  refine OG.callo call47 rfl (Imp.refl _) (page_spec W0 _ (p : Int)) rfl ?_
  rintro ⟨⟩ -
  rw [decide_eq_true (p := 0 ≤ (p : Int) ∧ (p : Int) < 4096) (by omega)]
  refine OG.guard_yes rfl rfl rfl (by decide) ?_
  refine OG.yield (Yield.not rfl) rfl ?_
  refine OG.yield (by first | exact Yield.pick_t rfl rfl | exact Yield.pick_f rfl rfl | exact Yield.pick rfl (fun _ => rfl) (fun _ => rfl)) rfl ?_
  refine OG.yield (Yield.move rfl) rfl ?_
  refine OG.guard_yes rfl rfl rfl (by decide) ?_
  refine OG.yield (Yield.move rfl) rfl ?_
  refine OG.guard_yes rfl rfl rfl (by decide) ?_
  refine OG.yield (Yield.as (Yield.eql rfl rfl) (v' := .bool false) (by rw [decide_eq_false (by omega)])) rfl ?_
  refine OG.yield (by first | exact Yield.pick_t rfl rfl | exact Yield.pick_f rfl rfl | exact Yield.pick rfl (fun _ => rfl) (fun _ => rfl)) rfl ?_
  refine OG.yield (Yield.move rfl) rfl ?_
  refine OG.guard_yes rfl rfl rfl (by decide) ?_
  refine OG.yield (Yield.move rfl) rfl ?_
  refine OG.guard_yes rfl rfl rfl (by decide) ?_
  refine OG.yield (Yield.fieldAddr fa31_1 rfl) rfl ?_
  refine OG.guard_yes rfl rfl rfl (by decide) ?_
  refine OG.yield (Yield.load ti3 rfl (by first | exact Cel.of_blk (by repeat (first | exact Ext.here | apply Ext.there)) rfl | exact (hrow (by repeat (first | exact Ext.here | apply Ext.there))) _ _ rfl)) rfl ?_
  refine OG.guard_yes rfl rfl rfl (by decide) ?_
  refine OG.callo call46 rfl ((by repeat (first | exact Imp.refl _ | exact Imp.none _ | apply Imp.pull (by repeat (first | exact Ext.here | apply Ext.there)) | apply Imp.trans Imp.drop))) (frame_spec W0 _ (m := m) (n := n) (bs := bs) f) rfl ?_
  rintro ⟨⟩ -
  rw [decide_eq_true hf]
  refine OG.guard_yes rfl rfl rfl (by decide) ?_
  refine OG.yield (Yield.not rfl) rfl ?_
  refine OG.yield (by first | exact Yield.pick_t rfl rfl | exact Yield.pick_f rfl rfl | exact Yield.pick rfl (fun _ => rfl) (fun _ => rfl)) rfl ?_
  refine OG.nil ?_
  refine QG.then ?_
  refine CG.cond_f rfl ?_
  refine CG.skip ?_
  refine QG.then ?_
  refine CG.seq ?_
  refine CG.region ?_
  refine OG.yield (Yield.move rfl) rfl ?_
  refine OG.yield (Yield.move rfl) rfl ?_
  refine OG.yield (Yield.fieldAddr fa31_0 rfl) rfl ?_
  refine OG.yield (Yield.load ti3 rfl (by first | exact Cel.of_blk (by repeat (first | exact Ext.here | apply Ext.there)) rfl | exact (hrow (by repeat (first | exact Ext.here | apply Ext.there))) _ _ rfl)) rfl ?_
  refine OG.callo call48 rfl ((by repeat (first | exact Imp.refl _ | exact Imp.none _ | apply Imp.pull (by repeat (first | exact Ext.here | apply Ext.there)) | apply Imp.trans Imp.drop))) (second_spec W0 _ (m := m) (n := n) (root := root) (p := p) (bs := bs) hl hr hp) rfl ?_
  rintro ⟨⟩ -
  refine OG.yield (Yield.move rfl) rfl ?_
  refine OG.yield (Yield.extract rfl rfl) rfl ?_
  refine OG.yield (Yield.extract rfl rfl) rfl ?_
  refine OG.yield (Yield.assign rfl) rfl ?_
  refine OG.yield (Yield.assign rfl) rfl ?_
  refine OG.nil ?_
  refine QG.then ?_
  refine CG.seq ?_
  refine CG.seq ?_
  rcases (show (secR n bs root p).2 = true ∨ ((secR n bs root p).2 = false ∧ (0 ≤ spare ∧ spare < (n : Int))) ∨ ((secR n bs root p).2 = false ∧ ¬(0 ≤ spare ∧ spare < (n : Int))) by cases (secR n bs root p).2 <;> simp <;> omega) with hs | ⟨hs, hsp⟩ | ⟨hs, hsp⟩
  · skip
    obtain ⟨t, ht, htn⟩ := secR_in hs
    have hset : setR n bs root p e spare = (false, 0, stW bs t (p % 64) e) := by unfold setR; rw [if_pos hs, ht, Int.toNat_natCast]
    rw [hset, hs, ht]
    refine CG.region ?_
    refine OG.yield (Yield.move rfl) rfl ?_
    refine OG.yield (Yield.not rfl) rfl ?_
    refine OG.nil ?_
    refine QG.then ?_
    refine CG.cond_f rfl ?_
    refine CG.skip ?_
    refine QG.then ?_
    refine CG.seq ?_
    refine CG.region ?_
    refine OG.yield (Yield.move rfl) rfl ?_
    refine OG.yield (Yield.move rfl) rfl ?_
    refine OG.yield (Yield.mul rfl rfl (w64 (by omega) (by omega))) rfl ?_
    refine OG.yield (Yield.fieldAddr fa31_0 rfl) rfl ?_
    refine OG.yield (Yield.load ti3 rfl (by first | exact Cel.of_blk (by repeat (first | exact Ext.here | apply Ext.there)) rfl | exact (hrow (by repeat (first | exact Ext.here | apply Ext.there))) _ _ rfl)) rfl ?_
    refine OG.yield (Yield.rem (c := ((p % 64 : Nat) : Int)) rfl rfl (by decide) (tmod_nat p 64 (by decide))) rfl ?_
    refine OG.yield (Yield.mul rfl rfl (w64 (by omega) (by omega))) rfl ?_
    refine OG.yield (Yield.add rfl rfl (w64 (by omega) (by omega))) rfl ?_
    refine OG.yield (Yield.conv (c := ((t * 256 + p % 64 * 4 : Nat) : Int)) Try.underlying32 rfl rfl (st_at (by omega) hi)) rfl ?_
    refine OG.yield (Yield.move rfl) rfl ?_
    refine OG.yield (Yield.conv (c := (e : Int)) Try.underlying29 rfl rfl (by rw [IntKind.wrap_u64]; omega)) rfl ?_
    refine OG.callo call20 rfl ((by repeat (first | exact Imp.refl _ | exact Imp.none _ | apply Imp.pull (by repeat (first | exact Ext.here | apply Ext.there)) | apply Imp.trans Imp.drop))) (rstore_ok W0 _ (m := m) (n := n) (a := t * 256 + p % 64 * 4) (s := 4) (v := e) (bs := bs) (by omega) (by omega) (by omega) (merr_0 (by omega) (by omega)) (by omega)) rfl ?_
    rintro ⟨⟩ -
    refine OG.nil ?_
    refine QG.then ?_
    refine CG.seq ?_
    refine CG.region ?_
    refine OG.yield (Yield.move rfl) rfl ?_
    refine OG.yield (Yield.not rfl) rfl ?_
    refine OG.yield (Yield.assign rfl) rfl ?_
    refine OG.yield (Yield.assign rfl) rfl ?_
    refine OG.nil ?_
    refine QG.then ?_
    refine CG.ret ?_
    exact QG.rets [.bool false, .int .i64 0] rfl ⟨rfl, rfl, trivial⟩ () trivial rfl (by repeat (first | exact Imp.refl _ | exact Imp.none _ | apply Imp.pull (by repeat (first | exact Ext.here | apply Ext.there)) | apply Imp.trans Imp.drop))
  · skip
    obtain ⟨q, rfl⟩ := Int.eq_ofNat_of_zero_le hsp.1
    have hqn : q < n := by omega
    have hset : setR n bs root p e (q : Int) = (true, 0, stW (stW (overB bs (q * 256) (fillB [])) root (p / 64) (entryOf (q : Int) 0).toNat) q (p % 64) e) := by unfold setR; rw [if_neg (by rw [hs]; decide), if_pos hsp, Int.toNat_natCast]
    rw [hset, hs]
    have heq := entryOf_range (q : Int) 0
    refine CG.region ?_
    refine OG.yield (Yield.move rfl) rfl ?_
    refine OG.yield (Yield.not rfl) rfl ?_
    refine OG.nil ?_
    refine QG.then ?_
    refine CG.cond_t rfl ?_
    refine CG.seq ?_
    refine CG.seq ?_
    refine CG.region ?_
    refine OG.yield (Yield.move rfl) rfl ?_
    refine OG.yield (Yield.fieldAddr fa31_3 rfl) rfl ?_
    refine OG.yield (Yield.load ti3 rfl (by first | exact Cel.of_blk (by repeat (first | exact Ext.here | apply Ext.there)) rfl | exact (hrow (by repeat (first | exact Ext.here | apply Ext.there))) _ _ rfl)) rfl ?_
    refine OG.callo call46 rfl ((by repeat (first | exact Imp.refl _ | exact Imp.none _ | apply Imp.pull (by repeat (first | exact Ext.here | apply Ext.there)) | apply Imp.trans Imp.drop))) (frame_spec W0 _ (m := m) (n := n) (bs := bs) (q : Int)) rfl ?_
    rintro ⟨⟩ -
    rw [decide_eq_true (p := 0 ≤ (q : Int) ∧ (q : Int) < (n : Int)) hsp]
    refine OG.yield (Yield.not rfl) rfl ?_
    refine OG.nil ?_
    refine QG.then ?_
    refine CG.cond_f rfl ?_
    refine CG.skip ?_
    refine QG.then ?_
    refine CG.seq ?_
    refine CG.region ?_
    refine OG.yield (Yield.fieldAddr fa31_3 rfl) rfl ?_
    refine OG.yield (Yield.load ti3 rfl (by first | exact Cel.of_blk (by repeat (first | exact Ext.here | apply Ext.there)) rfl | exact (hrow (by repeat (first | exact Ext.here | apply Ext.there))) _ _ rfl)) rfl ?_
    refine OG.yield (Yield.assign rfl) rfl ?_
    refine OG.nil ?_
    refine QG.then ?_
    refine CG.seq ?_
    refine CG.region ?_
    refine OG.yield (Yield.move rfl) rfl ?_
    refine OG.yield (Yield.move rfl) rfl ?_
    refine OG.callo call49 rfl ((by repeat (first | exact Imp.refl _ | exact Imp.none _ | apply Imp.pull (by repeat (first | exact Ext.here | apply Ext.there)) | apply Imp.trans Imp.drop))) (rfill_ok W0 _ (m := m) (n := n) (k := q) (bs := bs) (ws := []) (a := none) (c2 := 0) (RdB.of_slR SlR.nil (Nat.le_refl _)) hqn (by decide)) rfl ?_
    rintro ⟨⟩ -
    refine OG.nil ?_
    refine QG.then ?_
    refine CG.draw (.look 0 0 (.look 1 0 (.look 2 0 (.look 3 0 (.look 4 0 (.look 5 0 (.look 6 0 (.look 7 0 (.look 8 0 (.look 9 1 (.eff1 10 false (.look 11 1 (.eff1 12 false (.done)))))))))))))) [10, 12] [] ([blk b5 [.int .i64 p, .int .i64 f, .int .i64 pm, .int .i64 (q : Int)] 31]) ([]) mixed (by kernel_rfl) (by repeat (first | exact Imp.refl _ | exact Imp.none _ | apply Imp.pull (by repeat (first | exact Ext.here | apply Ext.there)) | apply Imp.trans Imp.drop)) (Imp.none _) ?_
    refine DG.look rfl rfl (Yield.move rfl) rfl ?_
    refine DG.look rfl rfl (Yield.move rfl) rfl ?_
    refine DG.look rfl rfl (Yield.mul rfl rfl (w64 (by omega) (by omega))) rfl ?_
    refine DG.look rfl rfl (Yield.fieldAddr fa31_0 rfl) rfl ?_
    refine DG.look rfl rfl (Yield.load ti3 rfl (by first | exact Cel.of_blk (by repeat (first | exact Ext.here | apply Ext.there)) rfl | exact (hrow (by repeat (first | exact Ext.here | apply Ext.there))) _ _ rfl)) rfl ?_
    refine DG.look rfl rfl (Yield.quo (c := ((p / 64 : Nat) : Int)) rfl rfl (by decide) (quo_nat (b := 64) (by decide) (by omega))) rfl ?_
    refine DG.look rfl rfl (Yield.mul rfl rfl (w64 (by omega) (by omega))) rfl ?_
    refine DG.look rfl rfl (Yield.add rfl rfl (w64 (by omega) (by omega))) rfl ?_
    refine DG.look rfl rfl (Yield.conv (c := ((root * 256 + p / 64 * 4 : Nat) : Int)) Try.underlying32 rfl rfl (st_at (by omega) hi2)) rfl ?_
    refine DG.look rfl rfl (Yield.move rfl) rfl ?_
    refine DG.eff1 ?_
    refine Chg.callo rfl rfl call45 rfl (Imp.refl _) (rentry_spec W0 _ (q : Int) 0) rfl (fun _ => (by repeat (first | exact Imp.refl _ | exact Imp.none _ | apply Imp.pull (by repeat (first | exact Ext.here | apply Ext.there)) | apply Imp.trans Imp.drop))) (fun _ => Imp.refl _) (fun _ => (by repeat (first | exact Imp.refl _ | exact Imp.none _ | apply Imp.pull (by repeat (first | exact Ext.here | apply Ext.there)) | apply Imp.trans Imp.drop))) ?_
    rintro ⟨⟩ -
    refine DG.look rfl rfl (Yield.conv (c := ((entryOf (q : Int) 0).toNat : Int)) Try.underlying29 rfl rfl (by rw [IntKind.wrap_u64]; omega)) rfl ?_
    refine DG.eff1 ?_
    refine Chg.callo rfl rfl call20 rfl ((by repeat (first | exact Imp.refl _ | exact Imp.none _ | apply Imp.pull (by repeat (first | exact Ext.here | apply Ext.there)) | apply Imp.trans Imp.drop))) (rstore_ok W0 _ (m := m) (n := n) (a := root * 256 + p / 64 * 4) (s := 4) (v := (entryOf (q : Int) 0).toNat) (bs := overB bs (q * 256) (fillB [])) (by omega) (by omega) (by omega) (merr_0 (by omega) (by omega)) (by omega)) rfl (fun _ => (by repeat (first | exact Imp.refl _ | exact Imp.none _ | apply Imp.pull (by repeat (first | exact Ext.here | apply Ext.there)) | apply Imp.trans Imp.drop))) (fun _ => Imp.refl _) (fun _ => (by repeat (first | exact Imp.refl _ | exact Imp.none _ | apply Imp.pull (by repeat (first | exact Ext.here | apply Ext.there)) | apply Imp.trans Imp.drop))) ?_
    rintro ⟨⟩ -
    refine DG.done ?_
    refine QG.then ?_
    refine CG.seq ?_
    refine CG.region ?_
    refine OG.yield (Yield.move rfl) rfl ?_
    refine OG.yield (Yield.move rfl) rfl ?_
    refine OG.yield (Yield.mul rfl rfl (w64 (by omega) (by omega))) rfl ?_
    refine OG.yield (Yield.fieldAddr fa31_0 rfl) rfl ?_
    refine OG.yield (Yield.load ti3 rfl (by first | exact Cel.of_blk (by repeat (first | exact Ext.here | apply Ext.there)) rfl | exact (hrow (by repeat (first | exact Ext.here | apply Ext.there))) _ _ rfl)) rfl ?_
    refine OG.yield (Yield.rem (c := ((p % 64 : Nat) : Int)) rfl rfl (by decide) (tmod_nat p 64 (by decide))) rfl ?_
    refine OG.yield (Yield.mul rfl rfl (w64 (by omega) (by omega))) rfl ?_
    refine OG.yield (Yield.add rfl rfl (w64 (by omega) (by omega))) rfl ?_
    refine OG.yield (Yield.conv (c := ((q * 256 + p % 64 * 4 : Nat) : Int)) Try.underlying32 rfl rfl (st_at (by omega) hi)) rfl ?_
    refine OG.yield (Yield.move rfl) rfl ?_
    refine OG.yield (Yield.conv (c := (e : Int)) Try.underlying29 rfl rfl (by rw [IntKind.wrap_u64]; omega)) rfl ?_
    refine OG.callo call20 rfl ((by repeat (first | exact Imp.refl _ | exact Imp.none _ | apply Imp.pull (by repeat (first | exact Ext.here | apply Ext.there)) | apply Imp.trans Imp.drop))) (rstore_ok W0 _ (m := m) (n := n) (a := q * 256 + p % 64 * 4) (s := 4) (v := e) (bs := stW (overB bs (q * 256) (fillB [])) root (p / 64) (entryOf (q : Int) 0).toNat) (by omega) (by omega) (by omega) (merr_0 (by omega) (by omega)) (by omega)) rfl ?_
    rintro ⟨⟩ -
    refine OG.nil ?_
    refine QG.then ?_
    refine CG.seq ?_
    refine CG.region ?_
    refine OG.yield (Yield.move rfl) rfl ?_
    refine OG.yield (Yield.not rfl) rfl ?_
    refine OG.yield (Yield.assign rfl) rfl ?_
    refine OG.yield (Yield.assign rfl) rfl ?_
    refine OG.nil ?_
    refine QG.then ?_
    refine CG.ret ?_
    exact QG.rets [.bool true, .int .i64 0] rfl ⟨rfl, rfl, trivial⟩ () trivial rfl (by repeat (first | exact Imp.refl _ | exact Imp.none _ | apply Imp.pull (by repeat (first | exact Ext.here | apply Ext.there)) | apply Imp.trans Imp.drop))
  · skip
    have hset : setR n bs root p e spare = (false, 4, bs) := by unfold setR; rw [if_neg (by rw [hs]; decide), if_neg hsp]
    rw [hset, hs]
    refine CG.region ?_
    refine OG.yield (Yield.move rfl) rfl ?_
    refine OG.yield (Yield.not rfl) rfl ?_
    refine OG.nil ?_
    refine QG.then ?_
    refine CG.cond_t rfl ?_
    refine CG.seq ?_
    refine CG.seq ?_
    refine CG.region ?_
    refine OG.yield (Yield.move rfl) rfl ?_
    refine OG.yield (Yield.fieldAddr fa31_3 rfl) rfl ?_
    refine OG.yield (Yield.load ti3 rfl (by first | exact Cel.of_blk (by repeat (first | exact Ext.here | apply Ext.there)) rfl | exact (hrow (by repeat (first | exact Ext.here | apply Ext.there))) _ _ rfl)) rfl ?_
    refine OG.callo call46 rfl ((by repeat (first | exact Imp.refl _ | exact Imp.none _ | apply Imp.pull (by repeat (first | exact Ext.here | apply Ext.there)) | apply Imp.trans Imp.drop))) (frame_spec W0 _ (m := m) (n := n) (bs := bs) spare) rfl ?_
    rintro ⟨⟩ -
    rw [decide_eq_false hsp]
    refine OG.yield (Yield.not rfl) rfl ?_
    refine OG.nil ?_
    refine QG.then ?_
    refine CG.cond_t rfl ?_
    refine CG.seq ?_
    refine CG.region ?_
    refine OG.yield (Yield.assign rfl) rfl ?_
    refine OG.yield (Yield.assign rfl) rfl ?_
    refine OG.nil ?_
    refine QG.then ?_
    refine CG.ret ?_
    refine QG.pass_ret ?_
    refine QG.pass_ret ?_
    exact QG.rets [.bool false, .int .i64 4] rfl ⟨rfl, rfl, trivial⟩ () trivial rfl (by repeat (first | exact Imp.refl _ | exact Imp.none _ | apply Imp.pull (by repeat (first | exact Ext.here | apply Ext.there)) | apply Imp.trans Imp.drop))
end
end Go.Proofs.Ytmlfcfbblfcpdaa.Pr
