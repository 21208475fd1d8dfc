/- package page over a memory: slot, has, known, read, second, Walk. -/
import Derived.Test.YtmlfcfbblfcpdaaMemo
import Derived.Test.YtmlfcfbblfcpdaaPent
import Derived.Test.YtmlfcfbblfcpdaaRet
namespace Go.Proofs.Ytmlfcfbblfcpdaa.Pg
open Go Go.Sl Go.RowKit Go.Proofs Go.Proofs.Ytmlfcfbblfcpdaa.T Go.Proofs.Ytmlfcfbblfcpdaa.Me Go.Proofs.Ytmlfcfbblfcpdaa.Pe
set_option linter.unusedVariables false
set_option linter.unusedSimpArgs false
set_option maxRecDepth 100000
/-- The word i of the table t. -/
def word (bs : List UInt8) (t i : Nat) : Nat := leN ((bs.drop (t * 256 + i * 4)).take 4)
theorem word_lt (bs : List UInt8) (t i : Nat) : word bs t i < 4294967296 := by
  have h := leN_lt ((bs.drop (t * 256 + i * 4)).take 4)
  have h2 : ((bs.drop (t * 256 + i * 4)).take 4).length ≤ 4 := by rw [List.length_take]; omega
  exact Nat.lt_of_lt_of_le h (Nat.pow_le_pow_right (by decide) (by omega) : 2 ^ (8 * ((bs.drop (t * 256 + i * 4)).take 4).length) ≤ 2 ^ 32)
section
variable (W0 : World) (Fr : List HProp)
theorem slot_spec {t i : Nat} (ht : t ≤ 1024) (hi : i < 64) : Ctr Try.prog W0 39 [.int .i64 t, .int .i64 i] Fr (fun _ : Unit => True) (fun _ => .int .u32 ((t * 256 + i * 4 : Nat) : Int)) (fun _ => Fr) := by
  refine Ctr.of_body Try.func39 rfl Try.ntmps39 rfl ?_
  refine CG.seq ?_
  refine CG.region ?_
  refine OG.yield (Yield.assign rfl) rfl ?_
  refine OG.nil ?_
  refine QG.then ?_
  refine CG.seq ?_
  refine CG.region ?_
  refine OG.yield (Yield.move rfl) rfl ?_
  refine OG.yield (Yield.mul rfl rfl (w64 (by omega) (by omega))) rfl ?_
  refine OG.yield (Yield.move rfl) rfl ?_
  refine OG.yield (Yield.mul rfl rfl (w64 (by omega) (by omega))) rfl ?_
  refine OG.yield (Yield.add rfl rfl (w64 (by omega) (by omega))) rfl ?_
  refine OG.yield (Yield.conv (c := ((t * 256 + i * 4 : Nat) : Int)) Try.underlying32 rfl rfl (by rw [show (t : Int) * 256 + 4 * (i : Int) = ((t * 256 + i * 4 : Nat) : Int) by omega]; exact wu32 (by omega) (by omega))) rfl ?_
  refine OG.yield (Yield.assign rfl) rfl ?_
  refine OG.nil ?_
  refine QG.then ?_
  refine CG.ret ?_
  exact QG.ret1 rfl rfl () trivial rfl (Imp.refl _)
theorem has_spec {m n : Nat} {bs : List UInt8} (k : Int) : Ctr Try.prog W0 40 [.pointer (some ⟨m, 0, none⟩), .int .i64 k] (M m n bs :: Fr) (fun _ : Unit => True) (fun _ => .bool (decide (0 ≤ k ∧ k < n))) (fun _ => M m n bs :: Fr) := by
  refine Ctr.of_body Try.func40 rfl Try.ntmps40 rfl ?_
  refine CG.seq ?_
  refine CG.region ?_
  refine OG.yield (Yield.assign rfl) rfl ?_
  refine OG.nil ?_
  refine QG.then ?_
  refine CG.seq ?_
  rcases (show k < 0 ∨ 0 ≤ k by omega) with hh | hh
  · skip
    refine CG.region ?_
    refine OG.yield (Yield.move rfl) rfl ?_
    refine OG.yield (by first | exact Yield.as (Yield.geq rfl rfl) (bT (by omega)) | exact Yield.as (Yield.geq rfl rfl) (bF (by omega)) | exact Yield.geq rfl rfl) rfl ?_
    refine OG.yield (Yield.move rfl) rfl ?_
    refine OG.guard_no rfl rfl rfl rfl rfl (by decide) (by decide) ?_
    refine OG.guard_no rfl rfl rfl rfl rfl (by decide) (by decide) ?_
    refine OG.guard_no rfl rfl rfl rfl rfl (by decide) (by decide) ?_
    refine OG.guard_no rfl rfl rfl rfl rfl (by decide) (by decide) ?_
    refine OG.yield (by first | exact Yield.pick_t rfl rfl | exact Yield.pick_f rfl rfl | exact Yield.pick rfl (fun _ => rfl) (fun _ => rfl)) rfl ?_
    refine OG.yield (Yield.assign rfl) rfl ?_
    refine OG.nil ?_
    refine QG.then ?_
    refine CG.ret ?_
    exact QG.ret1 rfl rfl () trivial (by rw [decide_eq_false (by omega)]) (Imp.refl _)
  · skip
    refine CG.region ?_
    refine OG.yield (Yield.move rfl) rfl ?_
    refine OG.yield (by first | exact Yield.as (Yield.geq rfl rfl) (bT (by omega)) | exact Yield.as (Yield.geq rfl rfl) (bF (by omega)) | exact Yield.geq rfl rfl) rfl ?_
    refine OG.yield (Yield.move rfl) rfl ?_
    refine OG.guard_yes rfl rfl rfl (by decide) ?_
    refine OG.yield (Yield.move rfl) rfl ?_
    refine OG.guard_yes rfl rfl rfl (by decide) ?_
    refine OG.yield (Yield.move rfl) rfl ?_
    refine OG.guard_yes rfl rfl rfl (by decide) ?_
    refine OG.callo call58 rfl (Imp.refl _) (frames_spec W0 _ (m := m) (n := n) (bs := bs)) rfl ?_
    rintro ⟨⟩ -
    refine OG.guard_yes rfl rfl rfl (by decide) ?_
    refine OG.yield (Yield.lss rfl rfl) rfl ?_
    refine OG.yield (by first | exact Yield.pick_t rfl rfl | exact Yield.pick_f rfl rfl | exact Yield.pick rfl (fun _ => rfl) (fun _ => rfl)) rfl ?_
    refine OG.yield (Yield.assign rfl) rfl ?_
    refine OG.nil ?_
    refine QG.then ?_
    refine CG.ret ?_
    exact QG.ret1 rfl rfl () trivial (by rw [show decide (0 ≤ k ∧ k < (n : Int)) = decide (k < (n : Int)) by simp [hh]]) (Imp.refl _)
theorem known_spec (p : Int) : Ctr Try.prog W0 41 [.int .i64 p] Fr (fun _ : Unit => True) (fun _ => .bool (decide (0 ≤ p ∧ p < 4096))) (fun _ => Fr) := by
  refine Ctr.of_body Try.func41 rfl Try.ntmps41 rfl ?_
  refine CG.seq ?_
  refine CG.region ?_
  refine OG.yield (Yield.assign rfl) rfl ?_
  refine OG.nil ?_
  refine QG.then ?_
  refine CG.seq ?_
  rcases (show p < 0 ∨ 0 ≤ p by omega) with hh | hh
  · skip
    refine CG.region ?_
    refine OG.yield (Yield.move rfl) rfl ?_
    refine OG.yield (by first | exact Yield.as (Yield.geq rfl rfl) (bT (by omega)) | exact Yield.as (Yield.geq rfl rfl) (bF (by omega)) | exact Yield.geq rfl rfl) rfl ?_
    refine OG.yield (Yield.move rfl) rfl ?_
    refine OG.guard_no rfl rfl rfl rfl rfl (by decide) (by decide) ?_
    refine OG.guard_no rfl rfl rfl rfl rfl (by decide) (by decide) ?_
    refine OG.yield (by first | exact Yield.pick_t rfl rfl | exact Yield.pick_f rfl rfl | exact Yield.pick rfl (fun _ => rfl) (fun _ => rfl)) rfl ?_
    refine OG.yield (Yield.assign rfl) rfl ?_
    refine OG.nil ?_
    refine QG.then ?_
    refine CG.ret ?_
    exact QG.ret1 rfl rfl () trivial (by rw [decide_eq_false (by omega)]) (Imp.refl _)
  · skip
    refine CG.region ?_
    refine OG.yield (Yield.move rfl) rfl ?_
    refine OG.yield (by first | exact Yield.as (Yield.geq rfl rfl) (bT (by omega)) | exact Yield.as (Yield.geq rfl rfl) (bF (by omega)) | exact Yield.geq rfl rfl) rfl ?_
    refine OG.yield (Yield.move rfl) rfl ?_
    refine OG.guard_yes rfl rfl rfl (by decide) ?_
    refine OG.yield (Yield.move rfl) rfl ?_
    refine OG.guard_yes rfl rfl rfl (by decide) ?_
    refine OG.yield (Yield.lss rfl rfl) rfl ?_
    refine OG.yield (by first | exact Yield.pick_t rfl rfl | exact Yield.pick_f rfl rfl | exact Yield.pick rfl (fun _ => rfl) (fun _ => rfl)) rfl ?_
    refine OG.yield (Yield.assign rfl) rfl ?_
    refine OG.nil ?_
    refine QG.then ?_
    refine CG.ret ?_
    exact QG.ret1 rfl rfl () trivial (by rw [show decide (0 ≤ p ∧ p < 4096) = decide (p < 4096) by simp [hh]]) (Imp.refl _)
/-- What an entry says: its frame, its rights, whether it is one. -/
def sp (w : Nat) : Int × Int × Bool := if isEntry w then ((w / 256 : Nat), (w / 2 % 8 : Nat), true) else (0, 0, false)
theorem split_sp (w : Nat) : splitOf (w : Int) = .tuple #[.int .i64 (sp w).1, .int .i64 (sp w).2.1, .bool (sp w).2.2] := by
  unfold sp splitOf
  split <;> rfl
theorem read_spec {m n t i : Nat} {bs : List UInt8} (ht : t < n) (hi : i < 64) : Ctr Try.prog W0 43 [.pointer (some ⟨m, 0, none⟩), .int .i64 t, .int .i64 i] (M m n bs :: Fr) (fun _ : Unit => True) (fun _ => .tuple #[.int .i64 (sp (word bs t i)).1, .int .i64 (sp (word bs t i)).2.1, .bool (sp (word bs t i)).2.2]) (fun _ => M m n bs :: Fr) := by
  refine Ctr.pure (fun w hw => m_facts (m := m) (n := n) (bs := bs) Ext.here w hw) ?_
  rintro ⟨hl, hn1, hn2⟩
  have hw := word_lt bs t i
  refine Ctr.of_body Try.func43 rfl Try.ntmps43 rfl ?_
  refine CG.seq ?_
  refine CG.region ?_
  refine OG.yield (Yield.assign rfl) rfl ?_
  refine OG.yield (Yield.assign rfl) rfl ?_
  refine OG.yield (Yield.assign rfl) rfl ?_
  refine OG.nil ?_
  refine QG.then ?_
  refine CG.seq ?_
  refine CG.region ?_
  refine OG.yield (Yield.move rfl) rfl ?_
  refine OG.yield (Yield.move rfl) rfl ?_
  refine OG.yield (Yield.move rfl) rfl ?_
  refine OG.callo call39 rfl (Imp.refl _) (slot_spec W0 _ (t := t) (i := i) (by omega) hi) rfl ?_
  rintro ⟨⟩ -
  refine OG.callo call69 rfl (Imp.refl _) (load_ok W0 _ (m := m) (n := n) (a := t * 256 + i * 4) (s := 4) (bs := bs) (by omega) (by omega) (by omega)) rfl ?_
  rintro ⟨⟩ -
  refine OG.yield (Yield.move rfl) rfl ?_
  refine OG.yield (Yield.extract rfl rfl) rfl ?_
  refine OG.yield (Yield.extract rfl rfl) rfl ?_
  refine OG.yield (Yield.assign rfl) rfl ?_
  refine OG.yield (Yield.assign rfl) rfl ?_
  refine OG.nil ?_
  refine QG.then ?_
  refine CG.seq ?_
  refine CG.seq ?_
  refine CG.region ?_
  refine OG.yield (Yield.move rfl) rfl ?_
  refine OG.yield (by first | exact Yield.as (Yield.neq rfl rfl) (bT (by omega)) | exact Yield.as (Yield.neq rfl rfl) (bF (by omega)) | exact Yield.neq rfl rfl) rfl ?_
  refine OG.nil ?_
  refine QG.then ?_
  refine CG.cond_f rfl ?_
  refine CG.skip ?_
  refine QG.then ?_
  refine CG.seq ?_
  refine CG.region ?_
  refine OG.yield (Yield.move rfl) rfl ?_
  refine OG.yield (Yield.conv (c := (word bs t i : Int)) Try.underlying32 rfl rfl (wu32 (by omega) (by show ((word bs t i : Nat) : Int) ≤ _; omega))) rfl ?_
  refine OG.callo call77 rfl (Imp.refl _) (split_spec W0 _ (word bs t i : Int) (by omega) (by omega)) rfl ?_
  rintro ⟨⟩ -
  rw [split_sp]
  refine OG.yield (Yield.extract rfl rfl) rfl ?_
  refine OG.yield (Yield.extract rfl rfl) rfl ?_
  refine OG.yield (Yield.extract rfl rfl) rfl ?_
  refine OG.yield (Yield.assign rfl) rfl ?_
  refine OG.yield (Yield.assign rfl) rfl ?_
  refine OG.yield (Yield.assign rfl) rfl ?_
  refine OG.nil ?_
  refine QG.then ?_
  refine CG.ret ?_
  exact QG.rets [.int .i64 (sp (word bs t i)).1, .int .i64 (sp (word bs t i)).2.1, .bool (sp (word bs t i)).2.2] rfl ⟨rfl, rfl, rfl, trivial⟩ () trivial rfl (Imp.refl _)
end
end Go.Proofs.Ytmlfcfbblfcpdaa.Pg
