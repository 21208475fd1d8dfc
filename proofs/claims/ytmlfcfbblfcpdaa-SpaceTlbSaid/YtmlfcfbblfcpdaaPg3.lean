/- package page over a memory: Clear, Set. -/
import Derived.Test.YtmlfcfbblfcpdaaPg2
namespace Go.Proofs.Ytmlfcfbblfcpdaa.Pg
open Go Go.Sl Go.RowKit Go.Proofs Go.Proofs.Ytmlfcfbblfcpdaa.T Go.Proofs.Ytmlfcfbblfcpdaa.Me Go.Proofs.Ytmlfcfbblfcpdaa.Pe
set_option linter.unusedVariables false
set_option linter.unusedSimpArgs false
set_option maxRecDepth 100000
/-- A word of a table is stored. -/
def stW (bs : List UInt8) (t i v : Nat) : List UInt8 := overB bs (t * 256 + i * 4) (putB v 4)
def clearR (n : Nat) (bs : List UInt8) (root p : Nat) : List UInt8 := if (walkR n bs root p).2.2 = 0 then stW bs (secR n bs root p).1.toNat (p % 64) 0 else bs
/-- What Set does: whether the spare frame was used, the answer, and the bytes behind it. -/
def setR (n : Nat) (bs : List UInt8) (root p e : Nat) (spare : Int) : Bool × Int × List UInt8 :=
  if (secR n bs root p).2 = true then (false, 0, stW bs (secR n bs root p).1.toNat (p % 64) e)
  else if 0 ≤ spare ∧ spare < n then (true, 0, stW (stW (overB bs (spare.toNat * 256) (fillB [])) root (p / 64) (entryOf spare 0).toNat) spare.toNat (p % 64) e)
  else (false, 4, bs)
theorem walkR_0 {n : Nat} {bs : List UInt8} {root p : Nat} : ((walkR n bs root p).2.2 = 0 ∧ (secR n bs root p).2 = true) ∨ (walkR n bs root p).2.2 = 90 := by
  unfold walkR
  split
  · rename_i h; exact .inl ⟨rfl, h.1⟩
  · exact .inr rfl
section
variable (W0 : World) (Fr : List HProp)
theorem clear_bad {m n : Nat} {root p : Int} {bs : List UInt8} (h : ¬(0 ≤ root ∧ root < n) ∨ ¬(0 ≤ p ∧ p < 4096)) : Ctr Try.prog W0 11 [.pointer (some ⟨m, 0, none⟩), .int .i64 root, .int .i64 p] (M m n bs :: Fr) (fun _ : Unit => True) (fun _ => .int .i64 2) (fun _ => M m n bs :: Fr) := by
  refine Ctr.of_body Try.func11 rfl Try.ntmps11 rfl ?_
  refine CG.seq ?_
  refine CG.region ?_
  refine OG.yield (Yield.assign rfl) rfl ?_
  refine OG.nil ?_
  refine QG.then ?_
  refine CG.seq ?_
  refine CG.seq ?_
  refine CG.region ?_
  refine OG.yield (Yield.move rfl) rfl ?_
  refine OG.yield (Yield.move rfl) rfl ?_
  refine OG.yield (Yield.move rfl) rfl ?_
  refine OG.callo call13 rfl (Imp.refl _) (walk_bad W0 _ (m := m) (n := n) (bs := bs) h) rfl ?_
  rintro ⟨⟩ -
  refine OG.yield (Yield.move rfl) rfl ?_
  refine OG.yield (Yield.extract rfl rfl) rfl ?_
  refine OG.yield (Yield.extract rfl rfl) rfl ?_
  refine OG.yield (Yield.extract rfl rfl) rfl ?_
  refine OG.yield (Yield.assign rfl) rfl ?_
  refine OG.yield (Yield.assign rfl) rfl ?_
  refine OG.yield (Yield.assign rfl) rfl ?_
  refine OG.nil ?_
  refine QG.then ?_
  refine CG.seq ?_
  refine CG.region ?_
  refine OG.yield (Yield.move rfl) rfl ?_
  refine OG.yield (by first | exact Yield.as (Yield.neq rfl rfl) (bT (by omega)) | exact Yield.as (Yield.neq rfl rfl) (bF (by omega)) | exact Yield.neq rfl rfl) rfl ?_
  refine OG.nil ?_
  refine QG.then ?_
  refine CG.cond_t rfl ?_
  refine CG.seq ?_
  refine CG.region ?_
  refine OG.yield (Yield.move rfl) rfl ?_
  refine OG.yield (Yield.assign rfl) rfl ?_
  refine OG.nil ?_
  refine QG.then ?_
  refine CG.ret ?_
  refine QG.pass_ret ?_
  exact QG.ret1 rfl rfl () trivial rfl (Imp.refl _)
theorem clear_spec {m n root p : Nat} {bs : List UInt8} (hr : root < n) (hp : p < 4096) : Ctr Try.prog W0 11 [.pointer (some ⟨m, 0, none⟩), .int .i64 root, .int .i64 p] (M m n bs :: Fr) (fun _ : Unit => True) (fun _ => .int .i64 (walkR n bs root p).2.2) (fun _ => M m n (clearR n bs root p) :: Fr) := by
  refine Ctr.pure (fun w hw => m_facts (m := m) (n := n) (bs := bs) Ext.here w hw) ?_
  rintro ⟨hl, hn1, hn2⟩
  have hi : p % 64 < 64 := Nat.mod_lt _ (by decide)
  refine Ctr.of_body Try.func11 rfl Try.ntmps11 rfl ?_
  refine CG.seq ?_
  refine CG.region ?_
  refine OG.yield (Yield.assign rfl) rfl ?_
  refine OG.nil ?_
  refine QG.then ?_
  refine CG.seq ?_
  refine CG.seq ?_
  refine CG.region ?_
  refine OG.yield (Yield.move rfl) rfl ?_
  refine OG.yield (Yield.move rfl) rfl ?_
  refine OG.yield (Yield.move rfl) rfl ?_
  refine OG.callo call13 rfl (Imp.refl _) (walk_spec W0 _ (m := m) (n := n) (root := root) (p := p) (bs := bs) hr hp) rfl ?_
  rintro ⟨⟩ -
  refine OG.yield (Yield.move rfl) rfl ?_
  refine OG.yield (Yield.extract rfl rfl) rfl ?_
  refine OG.yield (Yield.extract rfl rfl) rfl ?_
  refine OG.yield (Yield.extract rfl rfl) rfl ?_
  refine OG.yield (Yield.assign rfl) rfl ?_
  refine OG.yield (Yield.assign rfl) rfl ?_
  refine OG.yield (Yield.assign rfl) rfl ?_
  refine OG.nil ?_
  refine QG.then ?_
  refine CG.seq ?_
  rcases walkR_0 (n := n) (bs := bs) (root := root) (p := p) with ⟨hw, hs⟩ | hw
  · skip
    obtain ⟨t, ht, htn⟩ := secR_in hs
    have hcl : clearR n bs root p = stW bs t (p % 64) 0 := by unfold clearR; rw [if_pos hw, ht, Int.toNat_natCast]
    rw [hcl, hw]
    refine CG.region ?_
    refine OG.yield (Yield.move rfl) rfl ?_
    refine OG.yield (by first | exact Yield.as (Yield.neq rfl rfl) (bT (by omega)) | exact Yield.as (Yield.neq rfl rfl) (bF (by omega)) | exact Yield.neq rfl rfl) rfl ?_
    refine OG.nil ?_
    refine QG.then ?_
    refine CG.cond_f rfl ?_
    refine CG.skip ?_
    refine QG.then ?_
    refine CG.seq ?_
    refine CG.region ?_
    refine OG.yield (Yield.move rfl) rfl ?_
    refine OG.yield (Yield.move rfl) rfl ?_
    refine OG.yield (Yield.move rfl) rfl ?_
    refine OG.callo call38 rfl (Imp.refl _) (second_spec W0 _ (m := m) (n := n) (root := root) (p := p) (bs := bs) hr hp) rfl ?_
    rintro ⟨⟩ -
    rw [ht]
    refine OG.yield (Yield.move rfl) rfl ?_
    refine OG.yield (Yield.extract rfl rfl) rfl ?_
    refine OG.yield (Yield.extract rfl rfl) rfl ?_
    refine OG.yield (Yield.assign rfl) rfl ?_
    refine OG.yield (Yield.assign rfl) rfl ?_
    refine OG.nil ?_
    refine QG.then ?_
    refine CG.seq ?_
    refine CG.region ?_
    refine OG.yield (Yield.move rfl) rfl ?_
    refine OG.yield (Yield.move rfl) rfl ?_
    refine OG.yield (Yield.move rfl) rfl ?_
    refine OG.yield (Yield.rem (c := ((p % 64 : Nat) : Int)) rfl rfl (by decide) (tmod_nat p 64 (by decide))) rfl ?_
    refine OG.callo call39 rfl (Imp.refl _) (slot_spec W0 _ (t := t) (i := p % 64) (by omega) hi) rfl ?_
    rintro ⟨⟩ -
    refine OG.callo call19 rfl (Imp.refl _) (store_ok W0 _ (m := m) (n := n) (a := t * 256 + p % 64 * 4) (s := 4) (v := 0) (bs := bs) (by omega) (by omega) (by omega) (by decide)) rfl ?_
    rintro ⟨⟩ -
    refine OG.nil ?_
    refine QG.then ?_
    refine CG.seq ?_
    refine CG.region ?_
    refine OG.yield (Yield.assign rfl) rfl ?_
    refine OG.nil ?_
    refine QG.then ?_
    refine CG.ret ?_
    exact QG.ret1 rfl rfl () trivial rfl (Imp.refl _)
  · skip
    have hcl : clearR n bs root p = bs := by unfold clearR; rw [if_neg (by rw [hw]; decide)]
    rw [hcl, hw]
    refine CG.region ?_
    refine OG.yield (Yield.move rfl) rfl ?_
    refine OG.yield (by first | exact Yield.as (Yield.neq rfl rfl) (bT (by omega)) | exact Yield.as (Yield.neq rfl rfl) (bF (by omega)) | exact Yield.neq rfl rfl) rfl ?_
    refine OG.nil ?_
    refine QG.then ?_
    refine CG.cond_t rfl ?_
    refine CG.seq ?_
    refine CG.region ?_
    refine OG.yield (Yield.move rfl) rfl ?_
    refine OG.yield (Yield.assign rfl) rfl ?_
    refine OG.nil ?_
    refine QG.then ?_
    refine CG.ret ?_
    refine QG.pass_ret ?_
    exact QG.ret1 rfl rfl () trivial rfl (Imp.refl _)
theorem set_bad {m n : Nat} {root p f pm spare : Int} {bs : List UInt8} (h : ¬(0 ≤ root ∧ root < n) ∨ ¬(0 ≤ p ∧ p < 4096) ∨ entryOf f pm = 0 ∨ ¬(0 ≤ f ∧ f < n)) : Ctr Try.prog W0 12 [.pointer (some ⟨m, 0, none⟩), .int .i64 root, .int .i64 p, .int .i64 f, .int .i64 pm, .int .i64 spare] (M m n bs :: Fr) (fun _ : Unit => True) (fun _ => .tuple #[.bool false, .int .i64 2]) (fun _ => M m n bs :: Fr) := by
  have her := entryOf_range f pm
  refine Ctr.of_body Try.func12 rfl Try.ntmps12 rfl ?_
  refine CG.seq ?_
  refine CG.region ?_
  refine OG.yield (Yield.assign rfl) rfl ?_
  refine OG.yield (Yield.assign rfl) rfl ?_
  refine OG.nil ?_
  refine QG.then ?_
  refine CG.seq ?_
  refine CG.region ?_
  refine OG.yield (Yield.move rfl) rfl ?_
  refine OG.yield (Yield.move rfl) rfl ?_
  refine OG.callo call37 rfl (Imp.refl _) (entry_spec W0 _ f pm) rfl ?_
  rintro ⟨⟩ -
  refine OG.yield (Yield.assign rfl) rfl ?_
  refine OG.nil ?_
  refine QG.then ?_
  refine CG.seq ?_
  refine CG.seq ?_
  rcases (show ¬(0 ≤ root ∧ root < (n : Int)) ∨ ((0 ≤ root ∧ root < (n : Int)) ∧ ¬(0 ≤ p ∧ p < 4096)) ∨ ((0 ≤ root ∧ root < (n : Int)) ∧ (0 ≤ p ∧ p < 4096) ∧ entryOf f pm = 0) ∨ ((0 ≤ root ∧ root < (n : Int)) ∧ (0 ≤ p ∧ p < 4096) ∧ entryOf f pm ≠ 0 ∧ ¬(0 ≤ f ∧ f < (n : Int))) by omega) with hh | hh | hh | hh
  · skip
    refine CG.region ?_
    refine OG.yield (Yield.move rfl) rfl ?_
    refine OG.yield (Yield.move rfl) rfl ?_
    refine OG.callo call40 rfl (Imp.refl _) (has_spec W0 _ (m := m) (n := n) (bs := bs) root) rfl ?_
    rintro ⟨⟩ -
    first | rw [decide_eq_false hh] | rw [decide_eq_true hh.1]
    refine OG.yield (Yield.not rfl) rfl ?_
    refine OG.yield (Yield.move rfl) rfl ?_
    refine OG.guard_no rfl rfl rfl rfl rfl (by decide) (by decide) ?_
    refine OG.guard_no rfl rfl rfl rfl rfl (by decide) (by decide) ?_
    refine OG.guard_no rfl rfl rfl rfl rfl (by decide) (by decide) ?_
    refine OG.yield (by first | exact Yield.pick_t rfl rfl | exact Yield.pick_f rfl rfl | exact Yield.pick rfl (fun _ => rfl) (fun _ => rfl)) rfl ?_
    refine OG.yield (Yield.move rfl) rfl ?_
    refine OG.guard_no rfl rfl rfl rfl rfl (by decide) (by decide) ?_
    refine OG.guard_no rfl rfl rfl rfl rfl (by decide) (by decide) ?_
    refine OG.yield (by first | exact Yield.pick_t rfl rfl | exact Yield.pick_f rfl rfl | exact Yield.pick rfl (fun _ => rfl) (fun _ => rfl)) rfl ?_
    refine OG.yield (Yield.move rfl) rfl ?_
    refine OG.guard_no rfl rfl rfl rfl rfl (by decide) (by decide) ?_
    refine OG.guard_no rfl rfl rfl rfl rfl (by decide) (by decide) ?_
    refine OG.guard_no rfl rfl rfl rfl rfl (by decide) (by decide) ?_
    refine OG.guard_no rfl rfl rfl rfl rfl (by decide) (by decide) ?_
    refine OG.yield (by first | exact Yield.pick_t rfl rfl | exact Yield.pick_f rfl rfl | exact Yield.pick rfl (fun _ => rfl) (fun _ => rfl)) rfl ?_
    refine OG.nil ?_
    refine QG.then ?_
    refine CG.cond_t rfl ?_
    refine CG.seq ?_
    refine CG.region ?_
    refine OG.yield (Yield.assign rfl) rfl ?_
    refine OG.yield (Yield.assign rfl) rfl ?_
    refine OG.nil ?_
    refine QG.then ?_
    refine CG.ret ?_
    refine QG.pass_ret ?_
    exact QG.ret2 rfl rfl rfl () trivial rfl (Imp.refl _)
  · skip
    refine CG.region ?_
    refine OG.yield (Yield.move rfl) rfl ?_
    refine OG.yield (Yield.move rfl) rfl ?_
    refine OG.callo call40 rfl (Imp.refl _) (has_spec W0 _ (m := m) (n := n) (bs := bs) root) rfl ?_
    rintro ⟨⟩ -
    first | rw [decide_eq_false hh] | rw [decide_eq_true hh.1]
    refine OG.yield (Yield.not rfl) rfl ?_
    refine OG.yield (Yield.move rfl) rfl ?_
    refine OG.guard_yes rfl rfl rfl (by decide) ?_
    refine OG.yield (Yield.move rfl) rfl ?_
    refine OG.guard_yes rfl rfl rfl (by decide) ?_
    refine OG.callo call41 rfl (Imp.refl _) (known_spec W0 _ p) rfl ?_
    rintro ⟨⟩ -
    first | rw [decide_eq_false hh.2] | rw [decide_eq_true hh.2.1]
    refine OG.guard_yes rfl rfl rfl (by decide) ?_
    refine OG.yield (Yield.not rfl) rfl ?_
    refine OG.yield (by first | exact Yield.pick_t rfl rfl | exact Yield.pick_f rfl rfl | exact Yield.pick rfl (fun _ => rfl) (fun _ => rfl)) rfl ?_
    refine OG.yield (Yield.move rfl) rfl ?_
    refine OG.guard_no rfl rfl rfl rfl rfl (by decide) (by decide) ?_
    refine OG.guard_no rfl rfl rfl rfl rfl (by decide) (by decide) ?_
    refine OG.yield (by first | exact Yield.pick_t rfl rfl | exact Yield.pick_f rfl rfl | exact Yield.pick rfl (fun _ => rfl) (fun _ => rfl)) rfl ?_
    refine OG.yield (Yield.move rfl) rfl ?_
    refine OG.guard_no rfl rfl rfl rfl rfl (by decide) (by decide) ?_
    refine OG.guard_no rfl rfl rfl rfl rfl (by decide) (by decide) ?_
    refine OG.guard_no rfl rfl rfl rfl rfl (by decide) (by decide) ?_
    refine OG.guard_no rfl rfl rfl rfl rfl (by decide) (by decide) ?_
    refine OG.yield (by first | exact Yield.pick_t rfl rfl | exact Yield.pick_f rfl rfl | exact Yield.pick rfl (fun _ => rfl) (fun _ => rfl)) rfl ?_
    refine OG.nil ?_
    refine QG.then ?_
    refine CG.cond_t rfl ?_
    refine CG.seq ?_
    refine CG.region ?_
    refine OG.yield (Yield.assign rfl) rfl ?_
    refine OG.yield (Yield.assign rfl) rfl ?_
    refine OG.nil ?_
    refine QG.then ?_
    refine CG.ret ?_
    refine QG.pass_ret ?_
    exact QG.ret2 rfl rfl rfl () trivial rfl (Imp.refl _)
  · skip
    refine CG.region ?_
    refine OG.yield (Yield.move rfl) rfl ?_
    refine OG.yield (Yield.move rfl) rfl ?_
    refine OG.callo call40 rfl (Imp.refl _) (has_spec W0 _ (m := m) (n := n) (bs := bs) root) rfl ?_
    rintro ⟨⟩ -
    first | rw [decide_eq_false hh] | rw [decide_eq_true hh.1]
    refine OG.yield (Yield.not rfl) rfl ?_
    refine OG.yield (Yield.move rfl) rfl ?_
    refine OG.guard_yes rfl rfl rfl (by decide) ?_
    refine OG.yield (Yield.move rfl) rfl ?_
    refine OG.guard_yes rfl rfl rfl (by decide) ?_
    refine OG.callo call41 rfl (Imp.refl _) (known_spec W0 _ p) rfl ?_
    rintro ⟨⟩ -
    first | rw [decide_eq_false hh.2] | rw [decide_eq_true hh.2.1]
    refine OG.guard_yes rfl rfl rfl (by decide) ?_
    refine OG.yield (Yield.not rfl) rfl ?_
    refine OG.yield (by first | exact Yield.pick_t rfl rfl | exact Yield.pick_f rfl rfl | exact Yield.pick rfl (fun _ => rfl) (fun _ => rfl)) rfl ?_
    refine OG.yield (Yield.move rfl) rfl ?_
    refine OG.guard_yes rfl rfl rfl (by decide) ?_
    refine OG.yield (Yield.move rfl) rfl ?_
    refine OG.guard_yes rfl rfl rfl (by decide) ?_
    refine OG.yield (Yield.as (Yield.eql rfl rfl) (bT hh.2.2)) rfl ?_
    refine OG.yield (by first | exact Yield.pick_t rfl rfl | exact Yield.pick_f rfl rfl | exact Yield.pick rfl (fun _ => rfl) (fun _ => rfl)) rfl ?_
    refine OG.yield (Yield.move rfl) rfl ?_
    refine OG.guard_no rfl rfl rfl rfl rfl (by decide) (by decide) ?_
    refine OG.guard_no rfl rfl rfl rfl rfl (by decide) (by decide) ?_
    refine OG.guard_no rfl rfl rfl rfl rfl (by decide) (by decide) ?_
    refine OG.guard_no rfl rfl rfl rfl rfl (by decide) (by decide) ?_
    refine OG.yield (by first | exact Yield.pick_t rfl rfl | exact Yield.pick_f rfl rfl | exact Yield.pick rfl (fun _ => rfl) (fun _ => rfl)) rfl ?_
    refine OG.nil ?_
    refine QG.then ?_
    refine CG.cond_t rfl ?_
    refine CG.seq ?_
    refine CG.region ?_
    refine OG.yield (Yield.assign rfl) rfl ?_
    refine OG.yield (Yield.assign rfl) rfl ?_
    refine OG.nil ?_
    refine QG.then ?_
    refine CG.ret ?_
    refine QG.pass_ret ?_
    exact QG.ret2 rfl rfl rfl () trivial rfl (Imp.refl _)
  · skip
    refine CG.region ?_
    refine OG.yield (Yield.move rfl) rfl ?_
    refine OG.yield (Yield.move rfl) rfl ?_
    refine OG.callo call40 rfl (Imp.refl _) (has_spec W0 _ (m := m) (n := n) (bs := bs) root) rfl ?_
    rintro ⟨⟩ -
    first | rw [decide_eq_false hh] | rw [decide_eq_true hh.1]
    refine OG.yield (Yield.not rfl) rfl ?_
    refine OG.yield (Yield.move rfl) rfl ?_
    refine OG.guard_yes rfl rfl rfl (by decide) ?_
    refine OG.yield (Yield.move rfl) rfl ?_
    refine OG.guard_yes rfl rfl rfl (by decide) ?_
    refine OG.callo call41 rfl (Imp.refl _) (known_spec W0 _ p) rfl ?_
    rintro ⟨⟩ -
    first | rw [decide_eq_false hh.2] | rw [decide_eq_true hh.2.1]
    refine OG.guard_yes rfl rfl rfl (by decide) ?_
    refine OG.yield (Yield.not rfl) rfl ?_
    refine OG.yield (by first | exact Yield.pick_t rfl rfl | exact Yield.pick_f rfl rfl | exact Yield.pick rfl (fun _ => rfl) (fun _ => rfl)) rfl ?_
    refine OG.yield (Yield.move rfl) rfl ?_
    refine OG.guard_yes rfl rfl rfl (by decide) ?_
    refine OG.yield (Yield.move rfl) rfl ?_
    refine OG.guard_yes rfl rfl rfl (by decide) ?_
    refine OG.yield (Yield.as (Yield.eql rfl rfl) (bF hh.2.2.1)) rfl ?_
    refine OG.yield (by first | exact Yield.pick_t rfl rfl | exact Yield.pick_f rfl rfl | exact Yield.pick rfl (fun _ => rfl) (fun _ => rfl)) rfl ?_
    refine OG.yield (Yield.move rfl) rfl ?_
    refine OG.guard_yes rfl rfl rfl (by decide) ?_
    refine OG.yield (Yield.move rfl) rfl ?_
    refine OG.guard_yes rfl rfl rfl (by decide) ?_
    refine OG.yield (Yield.move rfl) rfl ?_
    refine OG.guard_yes rfl rfl rfl (by decide) ?_
    refine OG.callo call40 rfl (Imp.refl _) (has_spec W0 _ (m := m) (n := n) (bs := bs) f) rfl ?_
    rintro ⟨⟩ -
    rw [decide_eq_false hh.2.2.2]
    refine OG.guard_yes rfl rfl rfl (by decide) ?_
    refine OG.yield (Yield.not rfl) rfl ?_
    refine OG.yield (by first | exact Yield.pick_t rfl rfl | exact Yield.pick_f rfl rfl | exact Yield.pick rfl (fun _ => rfl) (fun _ => rfl)) rfl ?_
    refine OG.nil ?_
    refine QG.then ?_
    refine CG.cond_t rfl ?_
    refine CG.seq ?_
    refine CG.region ?_
    refine OG.yield (Yield.assign rfl) rfl ?_
    refine OG.yield (Yield.assign rfl) rfl ?_
    refine OG.nil ?_
    refine QG.then ?_
    refine CG.ret ?_
    refine QG.pass_ret ?_
    exact QG.ret2 rfl rfl rfl () trivial rfl (Imp.refl _)
theorem set_spec {m n root p e : Nat} {f pm spare : Int} {bs : List UInt8} (hr : root < n) (hp : p < 4096) (he : entryOf f pm = e) (he0 : e ≠ 0) (hf : 0 ≤ f ∧ f < n) : Ctr Try.prog W0 12 [.pointer (some ⟨m, 0, none⟩), .int .i64 root, .int .i64 p, .int .i64 f, .int .i64 pm, .int .i64 spare] (M m n bs :: Fr) (fun _ : Unit => True) (fun _ => .tuple #[.bool (setR n bs root p e spare).1, .int .i64 (setR n bs root p e spare).2.1]) (fun _ => M m n (setR n bs root p e spare).2.2 :: Fr) := by
  have her := entryOf_range f pm
  rw [he] at her
  refine Ctr.pure (fun w hw => m_facts (m := m) (n := n) (bs := bs) Ext.here w hw) ?_
  rintro ⟨hl, hn1, hn2⟩
  have hi : p % 64 < 64 := Nat.mod_lt _ (by decide)
  have hi2 : p / 64 < 64 := by omega
  refine Ctr.of_body Try.func12 rfl Try.ntmps12 rfl ?_
  refine CG.seq ?_
  refine CG.region ?_
  refine OG.yield (Yield.assign rfl) rfl ?_
  refine OG.yield (Yield.assign rfl) rfl ?_
  refine OG.nil ?_
  refine QG.then ?_
  refine CG.seq ?_
  refine CG.region ?_
  refine OG.yield (Yield.move rfl) rfl ?_
  refine OG.yield (Yield.move rfl) rfl ?_
  refine OG.callo call37 rfl (Imp.refl _) (entry_spec W0 _ f pm) rfl ?_
  rintro ⟨⟩ -
  rw [he]
  refine OG.yield (Yield.assign rfl) rfl ?_
  refine OG.nil ?_
  refine QG.then ?_
  refine CG.seq ?_
  refine CG.seq ?_
  refine CG.region ?_
  refine OG.yield (Yield.move rfl) rfl ?_
  refine OG.yield (Yield.move rfl) rfl ?_
  refine OG.callo call40 rfl (Imp.refl _) (has_spec W0 _ (m := m) (n := n) (bs := bs) (root : Int)) rfl ?_
  rintro ⟨⟩ -
  rw [decide_eq_true (p := 0 ≤ (root : Int) ∧ (root : Int) < (n : Int)) (by omega)]
  refine OG.yield (Yield.not rfl) rfl ?_
  refine OG.yield (Yield.move rfl) rfl ?_
  refine OG.guard_yes rfl rfl rfl (by decide) ?_
  refine OG.yield (Yield.move rfl) rfl ?_
  refine OG.guard_yes rfl rfl rfl (by decide) ?_
  refine OG.callo call41 rfl (Imp.refl _) (known_spec W0 _ (p : Int)) rfl ?_
  rintro ⟨⟩ -
  rw [decide_eq_true (p := 0 ≤ (p : Int) ∧ (p : Int) < 4096) (by omega)]
  refine OG.guard_yes rfl rfl rfl (by decide) ?_
  refine OG.yield (Yield.not rfl) rfl ?_
  refine OG.yield (by first | exact Yield.pick_t rfl rfl | exact Yield.pick_f rfl rfl | exact Yield.pick rfl (fun _ => rfl) (fun _ => rfl)) rfl ?_
  refine OG.yield (Yield.move rfl) rfl ?_
  refine OG.guard_yes rfl rfl rfl (by decide) ?_
  refine OG.yield (Yield.move rfl) rfl ?_
  refine OG.guard_yes rfl rfl rfl (by decide) ?_
  refine OG.yield (Yield.as (Yield.eql rfl rfl) (bF (by omega))) rfl ?_
  refine OG.yield (by first | exact Yield.pick_t rfl rfl | exact Yield.pick_f rfl rfl | exact Yield.pick rfl (fun _ => rfl) (fun _ => rfl)) rfl ?_
  refine OG.yield (Yield.move rfl) rfl ?_
  refine OG.guard_yes rfl rfl rfl (by decide) ?_
  refine OG.yield (Yield.move rfl) rfl ?_
  refine OG.guard_yes rfl rfl rfl (by decide) ?_
  refine OG.yield (Yield.move rfl) rfl ?_
  refine OG.guard_yes rfl rfl rfl (by decide) ?_
  refine OG.callo call40 rfl (Imp.refl _) (has_spec W0 _ (m := m) (n := n) (bs := bs) f) rfl ?_
  rintro ⟨⟩ -
  rw [decide_eq_true (p := 0 ≤ f ∧ f < (n : Int)) hf]
  refine OG.guard_yes rfl rfl rfl (by decide) ?_
  refine OG.yield (Yield.not rfl) rfl ?_
  refine OG.yield (by first | exact Yield.pick_t rfl rfl | exact Yield.pick_f rfl rfl | exact Yield.pick rfl (fun _ => rfl) (fun _ => rfl)) rfl ?_
  refine OG.nil ?_
  refine QG.then ?_
  refine CG.cond_f rfl ?_
  refine CG.skip ?_
  refine QG.then ?_
  refine CG.seq ?_
  refine CG.region ?_
  refine OG.yield (Yield.move rfl) rfl ?_
  refine OG.yield (Yield.move rfl) rfl ?_
  refine OG.yield (Yield.move rfl) rfl ?_
  refine OG.callo call38 rfl (Imp.refl _) (second_spec W0 _ (m := m) (n := n) (root := root) (p := p) (bs := bs) hr hp) rfl ?_
  rintro ⟨⟩ -
  refine OG.yield (Yield.move rfl) rfl ?_
  refine OG.yield (Yield.extract rfl rfl) rfl ?_
  refine OG.yield (Yield.extract rfl rfl) rfl ?_
  refine OG.yield (Yield.assign rfl) rfl ?_
  refine OG.yield (Yield.assign rfl) rfl ?_
  refine OG.nil ?_
  refine QG.then ?_
  refine CG.seq ?_
  refine CG.seq ?_
  rcases (show (secR n bs root p).2 = true ∨ ((secR n bs root p).2 = false ∧ (0 ≤ spare ∧ spare < (n : Int))) ∨ ((secR n bs root p).2 = false ∧ ¬(0 ≤ spare ∧ spare < (n : Int))) by cases (secR n bs root p).2 <;> simp <;> omega) with hs | ⟨hs, hsp⟩ | ⟨hs, hsp⟩
  · skip
    obtain ⟨t, ht, htn⟩ := secR_in hs
    have hset : setR n bs root p e spare = (false, 0, stW bs t (p % 64) e) := by unfold setR; rw [if_pos hs, ht, Int.toNat_natCast]
    rw [hset, hs, ht]
    refine CG.region ?_
    refine OG.yield (Yield.move rfl) rfl ?_
    refine OG.yield (Yield.not rfl) rfl ?_
    refine OG.nil ?_
    refine QG.then ?_
    refine CG.cond_f rfl ?_
    refine CG.skip ?_
    refine QG.then ?_
    refine CG.seq ?_
    refine CG.region ?_
    refine OG.yield (Yield.move rfl) rfl ?_
    refine OG.yield (Yield.move rfl) rfl ?_
    refine OG.yield (Yield.move rfl) rfl ?_
    refine OG.yield (Yield.rem (c := ((p % 64 : Nat) : Int)) rfl rfl (by decide) (tmod_nat p 64 (by decide))) rfl ?_
    refine OG.callo call39 rfl (Imp.refl _) (slot_spec W0 _ (t := t) (i := p % 64) (by omega) hi) rfl ?_
    rintro ⟨⟩ -
    refine OG.yield (Yield.move rfl) rfl ?_
    refine OG.yield (Yield.conv (c := (e : Int)) Try.underlying29 rfl rfl (by rw [IntKind.wrap_u64]; omega)) rfl ?_
    refine OG.callo call19 rfl (Imp.refl _) (store_ok W0 _ (m := m) (n := n) (a := t * 256 + p % 64 * 4) (s := 4) (v := e) (bs := bs) (by omega) (by omega) (by omega) (by omega)) rfl ?_
    rintro ⟨⟩ -
    refine OG.nil ?_
    refine QG.then ?_
    refine CG.seq ?_
    refine CG.region ?_
    refine OG.yield (Yield.move rfl) rfl ?_
    refine OG.yield (Yield.not rfl) rfl ?_
    refine OG.yield (Yield.assign rfl) rfl ?_
    refine OG.yield (Yield.assign rfl) rfl ?_
    refine OG.nil ?_
    refine QG.then ?_
    refine CG.ret ?_
    exact QG.ret2 rfl rfl rfl () trivial rfl (Imp.refl _)
  · skip
    obtain ⟨q, rfl⟩ := Int.eq_ofNat_of_zero_le hsp.1
    have hqn : q < n := by omega
    have hset : setR n bs root p e (q : Int) = (true, 0, stW (stW (overB bs (q * 256) (fillB [])) root (p / 64) (entryOf (q : Int) 0).toNat) q (p % 64) e) := by unfold setR; rw [if_neg (by rw [hs]; decide), if_pos hsp, Int.toNat_natCast]
    rw [hset, hs]
    have heq := entryOf_range (q : Int) 0
    refine CG.region ?_
    refine OG.yield (Yield.move rfl) rfl ?_
    refine OG.yield (Yield.not rfl) rfl ?_
    refine OG.nil ?_
    refine QG.then ?_
    refine CG.cond_t rfl ?_
    refine CG.seq ?_
    refine CG.seq ?_
    refine CG.region ?_
    refine OG.yield (Yield.move rfl) rfl ?_
    refine OG.yield (Yield.move rfl) rfl ?_
    refine OG.callo call40 rfl (Imp.refl _) (has_spec W0 _ (m := m) (n := n) (bs := bs) (q : Int)) rfl ?_
    rintro ⟨⟩ -
    rw [decide_eq_true (p := 0 ≤ (q : Int) ∧ (q : Int) < (n : Int)) hsp]
    refine OG.yield (Yield.not rfl) rfl ?_
    refine OG.nil ?_
    refine QG.then ?_
    refine CG.cond_f rfl ?_
    refine CG.skip ?_
    refine QG.then ?_
    refine CG.seq ?_
    refine CG.region ?_
    refine OG.yield (Yield.move rfl) rfl ?_
    refine OG.yield (Yield.assign rfl) rfl ?_
    refine OG.nil ?_
    refine QG.then ?_
    refine CG.seq ?_
    refine CG.region ?_
    refine OG.yield (Yield.move rfl) rfl ?_
    refine OG.yield (Yield.move rfl) rfl ?_
    refine OG.callo call42 rfl (Imp.refl _) (fill_ok W0 _ (m := m) (n := n) (k := q) (bs := bs) (ws := []) (a := none) (c2 := 0) (RdB.of_slR SlR.nil (Nat.le_refl _)) hqn (by decide)) rfl ?_
    rintro ⟨⟩ -
    refine OG.nil ?_
    refine QG.then ?_
    refine CG.region ?_
    refine OG.yield (Yield.move rfl) rfl ?_
    refine OG.yield (Yield.move rfl) rfl ?_
    refine OG.yield (Yield.move rfl) rfl ?_
    refine OG.yield (Yield.quo (c := ((p / 64 : Nat) : Int)) rfl rfl (by decide) (quo_nat (b := 64) (by decide) (by omega))) rfl ?_
    refine OG.callo call39 rfl (Imp.refl _) (slot_spec W0 _ (t := root) (i := p / 64) (by omega) hi2) rfl ?_
    rintro ⟨⟩ -
    refine OG.yield (Yield.move rfl) rfl ?_
    refine OG.callo call37 rfl (Imp.refl _) (entry_spec W0 _ (q : Int) 0) rfl ?_
    rintro ⟨⟩ -
    refine OG.yield (Yield.conv (c := ((entryOf (q : Int) 0).toNat : Int)) Try.underlying29 rfl rfl (by rw [IntKind.wrap_u64]; omega)) rfl ?_
    refine OG.callo call19 rfl (Imp.refl _) (store_ok W0 _ (m := m) (n := n) (a := root * 256 + p / 64 * 4) (s := 4) (v := (entryOf (q : Int) 0).toNat) (bs := overB bs (q * 256) (fillB [])) (by omega) (by omega) (by omega) (by omega)) rfl ?_
    rintro ⟨⟩ -
    refine OG.nil ?_
    refine QG.then ?_
    refine CG.seq ?_
    refine CG.region ?_
    refine OG.yield (Yield.move rfl) rfl ?_
    refine OG.yield (Yield.move rfl) rfl ?_
    refine OG.yield (Yield.move rfl) rfl ?_
    refine OG.yield (Yield.rem (c := ((p % 64 : Nat) : Int)) rfl rfl (by decide) (tmod_nat p 64 (by decide))) rfl ?_
    refine OG.callo call39 rfl (Imp.refl _) (slot_spec W0 _ (t := q) (i := p % 64) (by omega) hi) rfl ?_
    rintro ⟨⟩ -
    refine OG.yield (Yield.move rfl) rfl ?_
    refine OG.yield (Yield.conv (c := (e : Int)) Try.underlying29 rfl rfl (by rw [IntKind.wrap_u64]; omega)) rfl ?_
    refine OG.callo call19 rfl (Imp.refl _) (store_ok W0 _ (m := m) (n := n) (a := q * 256 + p % 64 * 4) (s := 4) (v := e) (bs := stW (overB bs (q * 256) (fillB [])) root (p / 64) (entryOf (q : Int) 0).toNat) (by omega) (by omega) (by omega) (by omega)) rfl ?_
    rintro ⟨⟩ -
    refine OG.nil ?_
    refine QG.then ?_
    refine CG.seq ?_
    refine CG.region ?_
    refine OG.yield (Yield.move rfl) rfl ?_
    refine OG.yield (Yield.not rfl) rfl ?_
    refine OG.yield (Yield.assign rfl) rfl ?_
    refine OG.yield (Yield.assign rfl) rfl ?_
    refine OG.nil ?_
    refine QG.then ?_
    refine CG.ret ?_
    exact QG.ret2 rfl rfl rfl () trivial rfl (Imp.refl _)
  · skip
    have hset : setR n bs root p e spare = (false, 4, bs) := by unfold setR; rw [if_neg (by rw [hs]; decide), if_neg hsp]
    rw [hset, hs]
    refine CG.region ?_
    refine OG.yield (Yield.move rfl) rfl ?_
    refine OG.yield (Yield.not rfl) rfl ?_
    refine OG.nil ?_
    refine QG.then ?_
    refine CG.cond_t rfl ?_
    refine CG.seq ?_
    refine CG.seq ?_
    refine CG.region ?_
    refine OG.yield (Yield.move rfl) rfl ?_
    refine OG.yield (Yield.move rfl) rfl ?_
    refine OG.callo call40 rfl (Imp.refl _) (has_spec W0 _ (m := m) (n := n) (bs := bs) spare) rfl ?_
    rintro ⟨⟩ -
    rw [decide_eq_false hsp]
    refine OG.yield (Yield.not rfl) rfl ?_
    refine OG.nil ?_
    refine QG.then ?_
    refine CG.cond_t rfl ?_
    refine CG.seq ?_
    refine CG.region ?_
    refine OG.yield (Yield.assign rfl) rfl ?_
    refine OG.yield (Yield.assign rfl) rfl ?_
    refine OG.nil ?_
    refine QG.then ?_
    refine CG.ret ?_
    refine QG.pass_ret ?_
    refine QG.pass_ret ?_
    exact QG.ret2 rfl rfl rfl () trivial rfl (Imp.refl _)
end
end Go.Proofs.Ytmlfcfbblfcpdaa.Pg
