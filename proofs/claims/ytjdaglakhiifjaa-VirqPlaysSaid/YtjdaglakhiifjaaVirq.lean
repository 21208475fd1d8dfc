/- virq.Virq: its lines as the bits of two numbers, its timer; what each function does. -/
import Derived.Test.YtjdaglakhiifjaaTab
import Derived.Test.YtjdaglakhiifjaaRow
namespace Go.Proofs.Ytjdaglakhiifjaa.Vi
open Go Go.Sl Go.RowKit Go.Proofs Go.Proofs.Ytjdaglakhiifjaa.T
set_option linter.unusedVariables false
set_option linter.unusedSimpArgs false
set_option maxRecDepth 100000
/-- Eight lines, as cells. -/
def lineC (q : Nat) : List Value := (List.range 8).map fun i => .bool (q.testBit i)
theorem lineC_len (q : Nat) : (lineC q).length = 8 := by simp [lineC]
theorem lineC_get (q : Nat) {i : Nat} (h : i < 8) : (lineC q)[i]? = some (.bool (q.testBit i)) := by simp [lineC, h]
/-- Bit i of q, laid anew. -/
def setBit (q i : Nat) (b : Bool) : Nat := if b then q ||| 2 ^ i else q ^^^ (q &&& 2 ^ i)
theorem setBit_test (q i j : Nat) (b : Bool) : (setBit q i b).testBit j = if i = j then b else q.testBit j := by
  unfold setBit
  cases b with
  | true => simp only [if_true, Nat.testBit_or, Nat.testBit_two_pow]; by_cases h : i = j <;> simp [h]
  | false => simp only [Bool.false_eq_true, if_false, Nat.testBit_xor, Nat.testBit_and, Nat.testBit_two_pow]; by_cases h : i = j <;> simp [h]
theorem lt_of_bits {q : Nat} (h : ∀ j, 8 ≤ j → q.testBit j = false) : q < 256 := by
  rw [show (256 : Nat) = 2 ^ 8 by rfl]
  exact Nat.lt_pow_two_of_testBit q h
theorem bits_of_lt {q : Nat} (h : q < 256) {j : Nat} (hj : 8 ≤ j) : q.testBit j = false :=
  Nat.testBit_lt_two_pow (Nat.lt_of_lt_of_le h (by rw [show (256 : Nat) = 2 ^ 8 by rfl]; exact Nat.pow_le_pow_right (by decide) hj))
theorem setBit_lt {q i : Nat} (h : q < 256) (hi : i < 8) (b : Bool) : setBit q i b < 256 := lt_of_bits fun j hj => by
  rw [setBit_test, if_neg (by omega)]; exact bits_of_lt h hj
theorem lineC_ext {a b : Nat} (h : ∀ j, j < 8 → a.testBit j = b.testBit j) : lineC a = lineC b := by
  unfold lineC
  apply List.map_congr_left
  intro j hj
  rw [h j (by simpa using hj)]
theorem lineC_set (q i : Nat) (b : Bool) : (lineC q).set i (.bool b) = lineC (setBit q i b) := by
  apply List.ext_getElem?
  intro j
  rw [List.getElem?_set]
  by_cases h : j < 8
  · rw [lineC_get q h, lineC_get (setBit q i b) h, setBit_test, lineC_len]
    by_cases hij : i = j
    · subst hij; simp [h]
    · simp [hij]
  · have e1 : ∀ q, (lineC q)[j]? = none := fun q => List.getElem?_eq_none (by rw [lineC_len]; omega)
    rw [e1, e1, lineC_len]
    by_cases hij : i = j
    · subst hij; simp [h]
    · rw [if_neg hij]
/-- The cells of a Virq: what is queued, what is pending, the timer. -/
def VC (q p : Nat) (at' : Int) (set : Bool) : List Value := lineC q ++ lineC p ++ [.int .i64 at', .bool set]
theorem VC_len (q p : Nat) (a : Int) (s : Bool) : (VC q p a s).length = 18 := by simp [VC, lineC_len]
theorem VC_q (q p : Nat) (a : Int) (s : Bool) {i : Nat} (h : i < 8) : (VC q p a s)[i]? = some (.bool (q.testBit i)) := by
  unfold VC; rw [List.append_assoc, List.getElem?_append_left (by rw [lineC_len]; exact h), lineC_get q h]
theorem VC_p (q p : Nat) (a : Int) (s : Bool) {i : Nat} (h : i < 8) : (VC q p a s)[8 + i]? = some (.bool (p.testBit i)) := by
  unfold VC; rw [List.append_assoc, List.getElem?_append_right (by rw [lineC_len]; omega), lineC_len, Nat.add_sub_cancel_left, List.getElem?_append_left (by rw [lineC_len]; exact h), lineC_get p h]
theorem VC_at (q p : Nat) (a : Int) (s : Bool) : (VC q p a s)[16]? = some (.int .i64 a) := by
  unfold VC; rw [List.getElem?_append_right (by simp [lineC_len])]; simp [lineC_len]
theorem VC_set (q p : Nat) (a : Int) (s : Bool) : (VC q p a s)[17]? = some (.bool s) := by
  unfold VC; rw [List.getElem?_append_right (by simp [lineC_len])]; simp [lineC_len]
theorem VC_setq (q p : Nat) (a : Int) (s b : Bool) {i : Nat} (h : i < 8) : (VC q p a s).set i (.bool b) = VC (setBit q i b) p a s := by
  unfold VC; rw [List.append_assoc, List.set_append_left _ _ (by rw [lineC_len]; exact h), lineC_set, ← List.append_assoc]
theorem VC_setp (q p : Nat) (a : Int) (s b : Bool) {i : Nat} (h : i < 8) : (VC q p a s).set (8 + i) (.bool b) = VC q (setBit p i b) a s := by
  unfold VC; rw [List.append_assoc, List.set_append_right _ _ (by rw [lineC_len]; omega), lineC_len, Nat.add_sub_cancel_left, List.set_append_left _ _ (by rw [lineC_len]; exact h), lineC_set, ← List.append_assoc]
theorem VC_setat (q p : Nat) (a a' : Int) (s : Bool) : (VC q p a s).set 16 (.int .i64 a') = VC q p a' s := by
  unfold VC; rw [List.set_append_right _ _ (by simp [lineC_len])]; simp [lineC_len]
theorem VC_setset (q p : Nat) (a : Int) (s s' : Bool) : (VC q p a s).set 17 (.bool s') = VC q p a s' := by
  unfold VC; rw [List.set_append_right _ _ (by simp [lineC_len])]; simp [lineC_len]
theorem VC_rowq (q p : Nat) (a : Int) (s : Bool) : ((VC q p a s).drop 0).take 8 = lineC q := by
  unfold VC; rw [List.drop_zero, List.append_assoc, List.take_append_of_le_length (by rw [lineC_len]; omega), List.take_of_length_le (by rw [lineC_len]; omega)]
theorem VC_rowp (q p : Nat) (a : Int) (s : Bool) : ((VC q p a s).drop 8).take 8 = lineC p := by
  unfold VC; rw [List.append_assoc, List.drop_append, List.drop_eq_nil_of_le (by rw [lineC_len]; omega), lineC_len, Nat.sub_self, List.drop_zero, List.nil_append, List.take_append_of_le_length (by rw [lineC_len]; omega), List.take_of_length_le (by rw [lineC_len]; omega)]
theorem lineC_ones (q : Nat) : ∀ v ∈ lineC q, one v = true := by
  intro v hv; simp only [lineC, List.mem_map] at hv; obtain ⟨i, _, rfl⟩ := hv; rfl
theorem VC_ones (q p : Nat) (a : Int) (s : Bool) : ∀ v ∈ VC q p a s, one v = true := by
  intro v hv
  unfold VC at hv
  simp only [List.mem_append, List.mem_cons, List.not_mem_nil, or_false] at hv
  rcases hv with (h | h) | h | h
  · exact lineC_ones q v h
  · exact lineC_ones p v h
  · subst h; rfl
  · subst h; rfl
theorem lineC_fit (q : Nat) : fitK [none, none, none, none, none, none, none, none] (lineC q) = true := by rfl
theorem lineC_zero {q : Nat} (h : q < 256) : eqCells (lineC q) (lineC 0) = decide (q = 0) := by
  by_cases hq : q = 0
  · subst hq; decide
  · rw [decide_eq_false hq]
    obtain ⟨j, hj⟩ := Nat.exists_testBit_of_ne_zero hq
    have hj8 : j < 8 := by
      rcases Nat.lt_or_ge j 8 with h1 | h1
      · exact h1
      · rw [bits_of_lt h h1] at hj; cases hj
    have e : eqCells (lineC q) (lineC 0) = ((List.range 8).all fun j => !q.testBit j) := by
      simp only [lineC, List.range, List.range.loop, List.map_cons, List.map_nil, eqCells, cellEq, List.all_cons, List.all_nil, Nat.zero_testBit]
      cases q.testBit 0 <;> cases q.testBit 1 <;> cases q.testBit 2 <;> cases q.testBit 3 <;> cases q.testBit 4 <;> cases q.testBit 5 <;> cases q.testBit 6 <;> cases q.testBit 7 <;> rfl
    rw [e]
    rw [List.all_eq_false]
    exact ⟨j, by simpa using hj8, by simp [hj]⟩
theorem wraps_word (n : Int) (h₀ : 0 ≤ n) (h₁ : n < 2 ^ 32) : IntKind.u32.wrap n = n := by rw [IntKind.wrap_u32]; omega
theorem pow_u32 {i : Nat} (h : i < 32) : IntKind.u32.wrap (1 * 2 ^ i) = ((2 ^ i : Nat) : Int) := by
  rw [Int.one_mul, show ((2 : Int) ^ i) = ((2 ^ i : Nat) : Int) by simp]
  have h1 : 2 ^ i < 2 ^ 32 := Nat.pow_lt_pow_right (by decide) h
  generalize 2 ^ i = z at h1
  exact wu32 (by omega) (by omega)
theorem or_nat {a b : Nat} (ha : a < 2 ^ 32) (hb : b < 2 ^ 32) : Go.bits .or .u32 (a : Int) (b : Int) = ((a ||| b : Nat) : Int) := (bits_nat .u32 32 (by decide) wraps_word a b ha hb).2
theorem and_nat {a b : Nat} (ha : a < 2 ^ 32) (hb : b < 2 ^ 32) : Go.bits .and .u32 (a : Int) (b : Int) = ((a &&& b : Nat) : Int) := (bits_nat .u32 32 (by decide) wraps_word a b ha hb).1
/-- The bits below i, one more. -/
theorem mod_step (q i : Nat) : q % 2 ^ (i + 1) = if q.testBit i then (q % 2 ^ i) ||| 2 ^ i else q % 2 ^ i := by
  apply Nat.eq_of_testBit_eq
  intro j
  by_cases h : q.testBit i = true
  · rw [if_pos h]
    simp only [Nat.testBit_or, Nat.testBit_mod_two_pow, Nat.testBit_two_pow]
    by_cases hj : i = j
    · subst hj; simp [h]
    · have : (j < i + 1) = (j < i) := by apply propext; omega
      simp [hj, this]
  · rw [if_neg h]
    simp only [Nat.testBit_mod_two_pow]
    by_cases hj : i = j
    · subst hj; simp [h]
    · have : (j < i + 1) = (j < i) := by apply propext; omega
      simp [this]
theorem andNot_nat {a b : Nat} (ha : a < 2 ^ 32) (hb : b < 2 ^ 32) : Go.bits .andNot .u32 (a : Int) (b : Int) = ((a ^^^ (a &&& b) : Nat) : Int) := by
  have h1 : (BitVec.ofNat 32 a &&& ~~~ BitVec.ofNat 32 b).toNat = a ^^^ (a &&& b) := by
    apply Nat.eq_of_testBit_eq
    intro j
    have q1 : ∀ x : BitVec 32, x.toNat.testBit j = x.getLsbD j := fun x => rfl
    rw [q1, BitVec.getLsbD_and, BitVec.getLsbD_not, BitVec.getLsbD_ofNat, BitVec.getLsbD_ofNat, Nat.testBit_xor, Nat.testBit_and]
    by_cases hj : j < 32
    · simp only [hj, decide_true, Bool.true_and]
      cases a.testBit j <;> cases b.testBit j <;> rfl
    · have e1 : a.testBit j = false := Nat.testBit_lt_two_pow (Nat.lt_of_lt_of_le ha (Nat.pow_le_pow_right (by decide) (by omega)))
      rw [e1]; simp [hj]
  show IntKind.u32.wrap ((BitVec.ofInt 32 a &&& ~~~ BitVec.ofInt 32 b).toNat : Int) = _
  rw [BitVec.ofInt_natCast, BitVec.ofInt_natCast, h1]
  refine wraps_word _ (by omega) ?_
  have : a ^^^ (a &&& b) < 2 ^ 32 := Nat.xor_lt_two_pow ha (Nat.lt_of_le_of_lt Nat.and_le_left ha)
  omega
abbrev V (v q p : Nat) (at' : Int) (set : Bool) : HProp := blk v (VC q p at' set) 105
section
variable (W0 : World) (Fr : List HProp)
theorem bits_spec {q : Nat} (hq : q < 256) : Ctr Try.prog W0 62 [.agg (lineC q).toArray] Fr (fun _ : Unit => True) (fun _ => .int .u32 q) (fun _ => Fr) := by
  refine Ctr.of_body Try.func62 rfl Try.ntmps62 rfl ?_
  refine CG.seq ?_
  refine CG.region ?_
  refine OG.effd (Eff.box rfl) rfl ?_
  rintro b1 -
  show OG Try.prog W0 _ _ _ _ _ _ (blk b1 (lineC q) 103 :: Fr)
  refine OG.yield (Yield.assign rfl) rfl ?_
  refine OG.nil ?_
  refine QG.then ?_
  refine CG.seq ?_
  refine CG.region ?_
  refine OG.yield (Yield.assign rfl) rfl ?_
  refine OG.nil ?_
  refine QG.then ?_
  refine CG.seq ?_
  refine CG.seq ?_
  refine CG.region ?_
  refine OG.yield (Yield.load_agg ti103 rfl (lineC_len q) (Row.of_blk (by repeat (first | exact Ext.here | apply Ext.there)) (by rw [lineC_len, List.drop_zero, List.take_of_length_le (by rw [lineC_len]; omega)]))) rfl ?_
  refine OG.yield (Yield.buildArr0 Try.underlying103 ti103 ti4) rfl ?_
  refine OG.yield (Yield.agg_eql 6 rfl (ys := lineC 0) rfl (by decide) flat103 guard103 (lineC_fit q) (lineC_fit 0) (lineC_zero hq)) rfl ?_
  refine OG.nil ?_
  refine QG.then ?_
  refine CG.cond rfl (fun hc => ?_) (fun hc => ?_)
  · try replace hc := of_decide_eq_true hc
    subst hc
    refine CG.seq ?_
    refine CG.region ?_
    refine OG.yield (Yield.move rfl) rfl ?_
    refine OG.yield (Yield.assign rfl) rfl ?_
    refine OG.nil ?_
    refine QG.then ?_
    refine CG.ret ?_
    refine QG.pass_ret ?_
    exact QG.ret1 rfl rfl () trivial rfl (by repeat (first | exact Imp.refl _ | exact Imp.none _ | apply Imp.pull (by repeat (first | exact Ext.here | apply Ext.there)) | apply Imp.trans Imp.drop))
  · try replace hc := of_decide_eq_false hc
    refine CG.skip ?_
    refine QG.then ?_
    refine CG.seq ?_
    refine CG.seq ?_
    refine CG.region ?_
    refine OG.yield (Yield.load_agg ti103 rfl (lineC_len q) (Row.of_blk (by repeat (first | exact Ext.here | apply Ext.there)) (by rw [lineC_len, List.drop_zero, List.take_of_length_le (by rw [lineC_len]; omega)]))) rfl ?_
    refine OG.yield (Yield.move rfl) rfl ?_
    refine OG.nil ?_
    refine QG.then ?_
    refine CG.block ?_
    refine CG.loop (fun i : Nat => i ≤ 8) (fun i => [(1, .pointer (some ⟨b1, 0, none⟩)), (3, .int .u32 (q % 2 ^ i : Nat)), (10, .agg (lineC q).toArray), (11, .int .i64 i)]) (fun _ => [blk b1 (lineC q) 103] ++ Fr) (fun i => 8 - i) 0 (by decide) (by rw [Nat.pow_zero, Nat.mod_one]; exact (by repeat (first | exact Env.sub_nil _ | refine Env.sub_cons rfl ?_))) (Imp.refl _) ?_
    intro i hi
    refine CG.seq ?_
    refine CG.region ?_
    refine OG.yield (by first | exact Yield.as (Yield.lss rfl rfl) (bT (by omega)) | exact Yield.as (Yield.lss rfl rfl) (bF (by omega)) | exact Yield.lss rfl rfl) rfl ?_
    refine OG.nil ?_
    refine QG.then ?_
    refine CG.seq ?_
    refine CG.cond rfl (fun hc => ?_) (fun hc => ?_)
    · try replace hc := of_decide_eq_true hc
      have hi' : i < 8 := by omega
      have hp : 2 ^ i < 2 ^ 32 := Nat.pow_lt_pow_right (by decide) (by omega)
      have hm : q % 2 ^ i < 2 ^ 32 := Nat.lt_of_le_of_lt (Nat.mod_le _ _) (by omega)
      refine CG.skip ?_
      refine QG.then ?_
      refine CG.seq ?_
      refine CG.block ?_
      refine CG.seq ?_
      refine CG.region ?_
      refine OG.yield (Yield.move rfl) rfl ?_
      refine OG.yield (Yield.index_agg (v := .bool (q.testBit i)) Try.underlying103 ti4 rfl rfl (by omega) (by omega) (by rw [Nat.mul_one]; exact lineC_get q hi')) rfl ?_
      refine OG.yield (Yield.assign rfl) rfl ?_
      refine OG.yield (Yield.assign rfl) rfl ?_
      refine OG.nil ?_
      refine QG.then ?_
      refine CG.seq ?_
      refine CG.region ?_
      refine OG.yield (Yield.move rfl) rfl ?_
      refine OG.nil ?_
      refine QG.then ?_
      refine CG.cond rfl (fun hc => ?_) (fun hc => ?_)
      · try replace hc := of_decide_eq_true hc
        refine CG.region ?_
        refine OG.yield (Yield.move rfl) rfl ?_
        refine OG.yield (Yield.move rfl) rfl ?_
        refine OG.yield (Yield.shl (m := i) (c := ((2 ^ i : Nat) : Int)) rfl rfl rfl (by simp [IntKind.bits]; omega) (by rw [Int.one_mul, show ((2 : Int) ^ i) = ((2 ^ i : Nat) : Int) by simp]; exact wu32 (by omega) (by omega))) rfl ?_
        refine OG.yield (Yield.bitop rfl rfl rfl (or_nat hm hp)) rfl ?_
        refine OG.yield (Yield.assign rfl) rfl ?_
        refine OG.nil ?_
        refine QG.block_normal ?_
        refine QG.then ?_
        refine CG.region ?_
        refine OG.yield (Yield.add rfl rfl (w64 (by omega) (by omega))) rfl ?_
        refine OG.yield (Yield.move rfl) rfl ?_
        refine OG.nil ?_
        refine QG.next (i + 1) (show i + 1 ≤ 8 by omega) (show 8 - (i + 1) < 8 - i by omega) ?_ (by repeat (first | exact Imp.refl _ | exact Imp.none _ | apply Imp.pull (by repeat (first | exact Ext.here | apply Ext.there)) | apply Imp.trans Imp.drop))
        rw [mod_step, if_pos hc]; exact (by repeat (first | exact Env.sub_nil _ | refine Env.sub_cons rfl ?_))
      · try replace hc := of_decide_eq_false hc
        refine CG.skip ?_
        refine QG.block_normal ?_
        refine QG.then ?_
        refine CG.region ?_
        refine OG.yield (Yield.add rfl rfl (w64 (by omega) (by omega))) rfl ?_
        refine OG.yield (Yield.move rfl) rfl ?_
        refine OG.nil ?_
        refine QG.next (i + 1) (show i + 1 ≤ 8 by omega) (show 8 - (i + 1) < 8 - i by omega) ?_ (by repeat (first | exact Imp.refl _ | exact Imp.none _ | apply Imp.pull (by repeat (first | exact Ext.here | apply Ext.there)) | apply Imp.trans Imp.drop))
        rw [mod_step, if_neg (by rw [hc]; decide)]; exact (by repeat (first | exact Env.sub_nil _ | refine Env.sub_cons rfl ?_))
    · try replace hc := of_decide_eq_false hc
      refine CG.exit ?_
      refine QG.pass_exit ?_
      refine QG.pass_exit ?_
      refine QG.block_exit ?_
      refine QG.then ?_
      refine CG.seq ?_
      refine CG.region ?_
      refine OG.yield (Yield.move rfl) rfl ?_
      refine OG.yield (Yield.assign rfl) rfl ?_
      refine OG.nil ?_
      refine QG.then ?_
      refine CG.ret ?_
      have : i = 8 := by omega
      subst this
      exact QG.ret1 rfl rfl () trivial (by rw [Nat.mod_eq_of_lt (by omega)]) (by repeat (first | exact Imp.refl _ | exact Imp.none _ | apply Imp.pull (by repeat (first | exact Ext.here | apply Ext.there)) | apply Imp.trans Imp.drop))
theorem new_spec : Ctr Try.prog W0 19 [] Fr (fun _ : Nat => True) (fun v => .pointer (some ⟨v, 0, none⟩)) (fun v => V v 0 0 0 false :: Fr) := by
  refine Ctr.of_body Try.func19 rfl Try.ntmps19 rfl ?_
  refine CG.seq ?_
  refine CG.region ?_
  refine OG.yield (Yield.assign rfl) rfl ?_
  refine OG.nil ?_
  refine QG.then ?_
  refine CG.seq ?_
  refine CG.region ?_
  refine OG.yield (Yield.build0 bu105 ti105) rfl ?_
  refine OG.effd (Eff.box rfl) rfl ?_
  rintro b2 -
  refine OG.yield (Yield.assign rfl) rfl ?_
  refine OG.nil ?_
  refine QG.then ?_
  refine CG.ret ?_
  exact QG.ret1 rfl rfl b2 trivial rfl (Imp.refl _)
theorem timer_spec {v q p : Nat} {a : Int} {s : Bool} (n : Int) : Ctr Try.prog W0 21 [.pointer (some ⟨v, 0, none⟩), .int .i64 n] (V v q p a s :: Fr) (fun _ : Unit => True)
    (fun _ => .int .i64 (if 0 ≤ n ∧ n ≤ 281474976710656 then 0 else 2)) (fun _ => (if 0 ≤ n ∧ n ≤ 281474976710656 then V v q p n true else V v q p a s) :: Fr) := by
  refine Ctr.of_body Try.func21 rfl Try.ntmps21 rfl ?_
  refine CG.seq ?_
  refine CG.region ?_
  refine OG.yield (Yield.assign rfl) rfl ?_
  refine OG.nil ?_
  refine QG.then ?_
  refine CG.seq ?_
  refine CG.seq ?_
  rcases (show n < 0 ∨ (0 ≤ n ∧ n > 281474976710656) ∨ (0 ≤ n ∧ n ≤ 281474976710656) by omega) with hh | hh | hh
  · skip
    refine CG.region ?_
    refine OG.yield (Yield.move rfl) rfl ?_
    refine OG.yield (by first | exact Yield.as (Yield.lss rfl rfl) (bT (by omega)) | exact Yield.as (Yield.lss rfl rfl) (bF (by omega)) | exact Yield.lss rfl rfl) rfl ?_
    refine OG.yield (Yield.move rfl) rfl ?_
    refine OG.guard_no rfl rfl rfl rfl rfl (by decide) (by decide) ?_
    refine OG.guard_no rfl rfl rfl rfl rfl (by decide) (by decide) ?_
    refine OG.yield (by first | exact Yield.pick_t rfl rfl | exact Yield.pick_f rfl rfl | exact Yield.pick rfl (fun _ => rfl) (fun _ => rfl)) rfl ?_
    refine OG.nil ?_
    refine QG.then ?_
    refine CG.cond_t rfl ?_
    refine CG.seq ?_
    refine CG.region ?_
    refine OG.yield (Yield.assign rfl) rfl ?_
    refine OG.nil ?_
    refine QG.then ?_
    refine CG.ret ?_
    refine QG.pass_ret ?_
    rw [if_neg (by omega), if_neg (by omega)]
    exact QG.ret1 rfl rfl () trivial rfl (Imp.refl _)
  · skip
    refine CG.region ?_
    refine OG.yield (Yield.move rfl) rfl ?_
    refine OG.yield (by first | exact Yield.as (Yield.lss rfl rfl) (bT (by omega)) | exact Yield.as (Yield.lss rfl rfl) (bF (by omega)) | exact Yield.lss rfl rfl) rfl ?_
    refine OG.yield (Yield.move rfl) rfl ?_
    refine OG.guard_yes rfl rfl rfl (by decide) ?_
    refine OG.yield (Yield.move rfl) rfl ?_
    refine OG.guard_yes rfl rfl rfl (by decide) ?_
    refine OG.yield (by first | exact Yield.as (Yield.gtr rfl rfl) (bT (by omega)) | exact Yield.as (Yield.gtr rfl rfl) (bF (by omega)) | exact Yield.gtr rfl rfl) rfl ?_
    refine OG.yield (by first | exact Yield.pick_t rfl rfl | exact Yield.pick_f rfl rfl | exact Yield.pick rfl (fun _ => rfl) (fun _ => rfl)) rfl ?_
    refine OG.nil ?_
    refine QG.then ?_
    refine CG.cond_t rfl ?_
    refine CG.seq ?_
    refine CG.region ?_
    refine OG.yield (Yield.assign rfl) rfl ?_
    refine OG.nil ?_
    refine QG.then ?_
    refine CG.ret ?_
    refine QG.pass_ret ?_
    rw [if_neg (by omega), if_neg (by omega)]
    exact QG.ret1 rfl rfl () trivial rfl (Imp.refl _)
  · skip
    refine CG.region ?_
    refine OG.yield (Yield.move rfl) rfl ?_
    refine OG.yield (by first | exact Yield.as (Yield.lss rfl rfl) (bT (by omega)) | exact Yield.as (Yield.lss rfl rfl) (bF (by omega)) | exact Yield.lss rfl rfl) rfl ?_
    refine OG.yield (Yield.move rfl) rfl ?_
    refine OG.guard_yes rfl rfl rfl (by decide) ?_
    refine OG.yield (Yield.move rfl) rfl ?_
    refine OG.guard_yes rfl rfl rfl (by decide) ?_
    refine OG.yield (by first | exact Yield.as (Yield.gtr rfl rfl) (bT (by omega)) | exact Yield.as (Yield.gtr rfl rfl) (bF (by omega)) | exact Yield.gtr rfl rfl) rfl ?_
    refine OG.yield (by first | exact Yield.pick_t rfl rfl | exact Yield.pick_f rfl rfl | exact Yield.pick rfl (fun _ => rfl) (fun _ => rfl)) rfl ?_
    refine OG.nil ?_
    refine QG.then ?_
    refine CG.cond_f rfl ?_
    refine CG.skip ?_
    refine QG.then ?_
    refine CG.seq ?_
    refine CG.region ?_
    refine OG.yield (Yield.move rfl) rfl ?_
    refine OG.yield (Yield.move rfl) rfl ?_
    refine OG.yield (Yield.move rfl) rfl ?_
    refine OG.yield (Yield.nilCheck rfl) rfl ?_
    refine OG.yield (Yield.fieldAddr fa105_2 rfl) rfl ?_
    refine OG.eff (Eff.store1 ti3 rfl rfl (by repeat (first | exact Foc.here | apply Foc.there)) rfl (by rw [VC_len]; decide)) rfl ?_
    rintro ⟨⟩ -
    rw [show 0 + 16 = 16 from rfl, VC_setat]
    refine OG.yield (Yield.nilCheck rfl) rfl ?_
    refine OG.yield (Yield.fieldAddr fa105_3 rfl) rfl ?_
    refine OG.eff (Eff.store1 ti4 rfl rfl (by repeat (first | exact Foc.here | apply Foc.there)) rfl (by rw [VC_len]; decide)) rfl ?_
    rintro ⟨⟩ -
    rw [show 0 + 17 = 17 from rfl, VC_setset]
    refine OG.nil ?_
    refine QG.then ?_
    refine CG.seq ?_
    refine CG.region ?_
    refine OG.yield (Yield.assign rfl) rfl ?_
    refine OG.nil ?_
    refine QG.then ?_
    refine CG.ret ?_
    rw [if_pos hh, if_pos hh]
    exact QG.ret1 rfl rfl () trivial rfl (Imp.refl _)
theorem stop_spec {v q p : Nat} {a : Int} {s : Bool} : Ctr Try.prog W0 31 [.pointer (some ⟨v, 0, none⟩)] (V v q p a s :: Fr) (fun _ : Unit => True) (fun _ => .tuple #[]) (fun _ => V v q p 0 false :: Fr) := by
  refine Ctr.of_body Try.func31 rfl Try.ntmps31 rfl ?_
  refine CG.region ?_
  refine OG.yield (Yield.move rfl) rfl ?_
  refine OG.yield (Yield.move rfl) rfl ?_
  refine OG.yield (Yield.nilCheck rfl) rfl ?_
  refine OG.yield (Yield.fieldAddr fa105_2 rfl) rfl ?_
  refine OG.eff (Eff.store1 ti3 rfl rfl (by repeat (first | exact Foc.here | apply Foc.there)) rfl (by rw [VC_len]; decide)) rfl ?_
  rintro ⟨⟩ -
  rw [show 0 + 16 = 16 from rfl, VC_setat]
  refine OG.yield (Yield.nilCheck rfl) rfl ?_
  refine OG.yield (Yield.fieldAddr fa105_3 rfl) rfl ?_
  refine OG.eff (Eff.store1 ti4 rfl rfl (by repeat (first | exact Foc.here | apply Foc.there)) rfl (by rw [VC_len]; decide)) rfl ?_
  rintro ⟨⟩ -
  rw [show 0 + 17 = 17 from rfl, VC_setset]
  refine OG.nil ?_
  exact QG.end0 rfl () trivial rfl (Imp.refl _)
theorem time_spec {v q p : Nat} {a : Int} {s : Bool} : Ctr Try.prog W0 23 [.pointer (some ⟨v, 0, none⟩)] (V v q p a s :: Fr) (fun _ : Unit => True) (fun _ => .tuple #[.int .i64 a, .bool s]) (fun _ => V v q p a s :: Fr) := by
  refine Ctr.of_body Try.func23 rfl Try.ntmps23 rfl ?_
  refine CG.seq ?_
  refine CG.region ?_
  refine OG.yield (Yield.assign rfl) rfl ?_
  refine OG.yield (Yield.assign rfl) rfl ?_
  refine OG.nil ?_
  refine QG.then ?_
  refine CG.seq ?_
  refine CG.draw (.look 0 1 (.look 1 1 (.look 2 1 (.look 3 1 (.look 4 1 (.look 5 1 (.look 6 1 (.look 7 1 (.look 8 1 (.look 9 1 (.done))))))))))) [] [] ([]) ([]) mixed (by kernel_rfl) (Imp.none _) (Imp.none _) ?_
  refine DG.look rfl rfl (Yield.move rfl) rfl ?_
  refine DG.look rfl rfl (Yield.nilCheck rfl) rfl ?_
  refine DG.look rfl rfl (Yield.fieldAddr fa105_2 rfl) rfl ?_
  refine DG.look rfl rfl (Yield.load ti3 rfl (Cel.of_blk (by repeat (first | exact Ext.here | apply Ext.there)) (VC_at q p a s))) rfl ?_
  refine DG.look rfl rfl (Yield.move rfl) rfl ?_
  refine DG.look rfl rfl (Yield.nilCheck rfl) rfl ?_
  refine DG.look rfl rfl (Yield.fieldAddr fa105_3 rfl) rfl ?_
  refine DG.look rfl rfl (Yield.load ti4 rfl (Cel.of_blk (by repeat (first | exact Ext.here | apply Ext.there)) (VC_set q p a s))) rfl ?_
  refine DG.look rfl rfl (Yield.assign rfl) rfl ?_
  refine DG.look rfl rfl (Yield.assign rfl) rfl ?_
  refine DG.done ?_
  refine QG.then ?_
  refine CG.ret ?_
  exact QG.ret2 rfl rfl rfl () trivial rfl (Imp.refl _)
theorem queue_spec {v q p : Nat} {a : Int} {s : Bool} (n : Int) : Ctr Try.prog W0 29 [.pointer (some ⟨v, 0, none⟩), .int .i64 n] (V v q p a s :: Fr) (fun _ : Unit => True)
    (fun _ => .int .i64 (if 0 ≤ n ∧ n < 8 then 0 else 2)) (fun _ => V v (if 0 ≤ n ∧ n < 8 then setBit q n.toNat true else q) p a s :: Fr) := by
  refine Ctr.of_body Try.func29 rfl Try.ntmps29 rfl ?_
  refine CG.seq ?_
  refine CG.region ?_
  refine OG.yield (Yield.assign rfl) rfl ?_
  refine OG.nil ?_
  refine QG.then ?_
  refine CG.seq ?_
  refine CG.seq ?_
  rcases (show n < 0 ∨ (0 ≤ n ∧ n ≥ 8) ∨ (0 ≤ n ∧ n < 8) by omega) with hh | hh | hh
  · skip
    refine CG.region ?_
    refine OG.yield (Yield.move rfl) rfl ?_
    refine OG.yield (by first | exact Yield.as (Yield.lss rfl rfl) (bT (by omega)) | exact Yield.as (Yield.lss rfl rfl) (bF (by omega)) | exact Yield.lss rfl rfl) rfl ?_
    refine OG.yield (Yield.move rfl) rfl ?_
    refine OG.guard_no rfl rfl rfl rfl rfl (by decide) (by decide) ?_
    refine OG.guard_no rfl rfl rfl rfl rfl (by decide) (by decide) ?_
    refine OG.yield (by first | exact Yield.pick_t rfl rfl | exact Yield.pick_f rfl rfl | exact Yield.pick rfl (fun _ => rfl) (fun _ => rfl)) rfl ?_
    refine OG.nil ?_
    refine QG.then ?_
    refine CG.cond_t rfl ?_
    refine CG.seq ?_
    refine CG.region ?_
    refine OG.yield (Yield.assign rfl) rfl ?_
    refine OG.nil ?_
    refine QG.then ?_
    refine CG.ret ?_
    refine QG.pass_ret ?_
    rw [if_neg (by omega), if_neg (by omega)]
    exact QG.ret1 rfl rfl () trivial rfl (Imp.refl _)
  · skip
    refine CG.region ?_
    refine OG.yield (Yield.move rfl) rfl ?_
    refine OG.yield (by first | exact Yield.as (Yield.lss rfl rfl) (bT (by omega)) | exact Yield.as (Yield.lss rfl rfl) (bF (by omega)) | exact Yield.lss rfl rfl) rfl ?_
    refine OG.yield (Yield.move rfl) rfl ?_
    refine OG.guard_yes rfl rfl rfl (by decide) ?_
    refine OG.yield (Yield.move rfl) rfl ?_
    refine OG.guard_yes rfl rfl rfl (by decide) ?_
    refine OG.yield (by first | exact Yield.as (Yield.geq rfl rfl) (bT (by omega)) | exact Yield.as (Yield.geq rfl rfl) (bF (by omega)) | exact Yield.geq rfl rfl) rfl ?_
    refine OG.yield (by first | exact Yield.pick_t rfl rfl | exact Yield.pick_f rfl rfl | exact Yield.pick rfl (fun _ => rfl) (fun _ => rfl)) rfl ?_
    refine OG.nil ?_
    refine QG.then ?_
    refine CG.cond_t rfl ?_
    refine CG.seq ?_
    refine CG.region ?_
    refine OG.yield (Yield.assign rfl) rfl ?_
    refine OG.nil ?_
    refine QG.then ?_
    refine CG.ret ?_
    refine QG.pass_ret ?_
    rw [if_neg (by omega), if_neg (by omega)]
    exact QG.ret1 rfl rfl () trivial rfl (Imp.refl _)
  · skip
    refine CG.region ?_
    refine OG.yield (Yield.move rfl) rfl ?_
    refine OG.yield (by first | exact Yield.as (Yield.lss rfl rfl) (bT (by omega)) | exact Yield.as (Yield.lss rfl rfl) (bF (by omega)) | exact Yield.lss rfl rfl) rfl ?_
    refine OG.yield (Yield.move rfl) rfl ?_
    refine OG.guard_yes rfl rfl rfl (by decide) ?_
    refine OG.yield (Yield.move rfl) rfl ?_
    refine OG.guard_yes rfl rfl rfl (by decide) ?_
    refine OG.yield (by first | exact Yield.as (Yield.geq rfl rfl) (bT (by omega)) | exact Yield.as (Yield.geq rfl rfl) (bF (by omega)) | exact Yield.geq rfl rfl) rfl ?_
    refine OG.yield (by first | exact Yield.pick_t rfl rfl | exact Yield.pick_f rfl rfl | exact Yield.pick rfl (fun _ => rfl) (fun _ => rfl)) rfl ?_
    refine OG.nil ?_
    refine QG.then ?_
    refine CG.cond_f rfl ?_
    refine CG.skip ?_
    refine QG.then ?_
    refine CG.seq ?_
    refine CG.region ?_
    refine OG.yield (Yield.move rfl) rfl ?_
    refine OG.yield (Yield.move rfl) rfl ?_
    refine OG.yield (Yield.nilCheck rfl) rfl ?_
    refine OG.yield (Yield.fieldAddr fa105_0 rfl) rfl ?_
    refine OG.yield (Yield.index_array Try.underlying103 ti4 rfl rfl (by omega) (by omega)) rfl ?_
    refine OG.eff (Eff.store1 ti4 rfl rfl (by repeat (first | exact Foc.here | apply Foc.there)) rfl (by rw [VC_len]; omega)) rfl ?_
    rintro ⟨⟩ -
    rw [show 0 + 0 + n.toNat * 1 = n.toNat by omega, VC_setq _ _ _ _ _ (by omega)]
    refine OG.nil ?_
    refine QG.then ?_
    refine CG.seq ?_
    refine CG.region ?_
    refine OG.yield (Yield.assign rfl) rfl ?_
    refine OG.nil ?_
    refine QG.then ?_
    refine CG.ret ?_
    rw [if_pos hh, if_pos hh]
    exact QG.ret1 rfl rfl () trivial rfl (Imp.refl _)
theorem queued_spec {v q p : Nat} {a : Int} {s : Bool} (hq : q < 256) : Ctr Try.prog W0 69 [.pointer (some ⟨v, 0, none⟩)] (V v q p a s :: Fr) (fun _ : Unit => True) (fun _ => .int .u32 q) (fun _ => V v q p a s :: Fr) := by
  refine Ctr.of_body Try.func69 rfl Try.ntmps69 rfl ?_
  refine CG.seq ?_
  refine CG.region ?_
  refine OG.yield (Yield.assign rfl) rfl ?_
  refine OG.nil ?_
  refine QG.then ?_
  refine CG.seq ?_
  refine CG.region ?_
  refine OG.yield (Yield.move rfl) rfl ?_
  refine OG.yield (Yield.nilCheck rfl) rfl ?_
  refine OG.yield (Yield.fieldAddr fa105_0 rfl) rfl ?_
  refine OG.yield (Yield.load_agg ti103 rfl (lineC_len q) (Row.of_blk (by repeat (first | exact Ext.here | apply Ext.there)) (VC_rowq q p a s))) rfl ?_
  refine OG.callo call62 rfl (Imp.refl _) (bits_spec W0 _ hq) rfl ?_
  rintro ⟨⟩ -
  refine OG.yield (Yield.assign rfl) rfl ?_
  refine OG.nil ?_
  refine QG.then ?_
  refine CG.ret ?_
  exact QG.ret1 rfl rfl () trivial rfl (Imp.refl _)
theorem pending_spec {v q p : Nat} {a : Int} {s : Bool} (hp : p < 256) : Ctr Try.prog W0 24 [.pointer (some ⟨v, 0, none⟩)] (V v q p a s :: Fr) (fun _ : Unit => True) (fun _ => .int .u32 p) (fun _ => V v q p a s :: Fr) := by
  refine Ctr.of_body Try.func24 rfl Try.ntmps24 rfl ?_
  refine CG.seq ?_
  refine CG.region ?_
  refine OG.yield (Yield.assign rfl) rfl ?_
  refine OG.nil ?_
  refine QG.then ?_
  refine CG.seq ?_
  refine CG.region ?_
  refine OG.yield (Yield.move rfl) rfl ?_
  refine OG.yield (Yield.nilCheck rfl) rfl ?_
  refine OG.yield (Yield.fieldAddr fa105_1 rfl) rfl ?_
  refine OG.yield (Yield.load_agg ti103 rfl (lineC_len p) (Row.of_blk (by repeat (first | exact Ext.here | apply Ext.there)) (VC_rowp q p a s))) rfl ?_
  refine OG.callo call62 rfl (Imp.refl _) (bits_spec W0 _ hp) rfl ?_
  rintro ⟨⟩ -
  refine OG.yield (Yield.assign rfl) rfl ?_
  refine OG.nil ?_
  refine QG.then ?_
  refine CG.ret ?_
  exact QG.ret1 rfl rfl () trivial rfl (Imp.refl _)
theorem clone_spec {v q p : Nat} {a : Int} {s : Bool} : Ctr Try.prog W0 39 [.pointer (some ⟨v, 0, none⟩)] (V v q p a s :: Fr) (fun _ : Nat => True) (fun v' => .pointer (some ⟨v', 0, none⟩)) (fun v' => V v' q p a s :: V v q p a s :: Fr) := by
  refine Ctr.of_body Try.func39 rfl Try.ntmps39 rfl ?_
  refine CG.seq ?_
  refine CG.region ?_
  refine OG.yield (Yield.assign rfl) rfl ?_
  refine OG.nil ?_
  refine QG.then ?_
  refine CG.seq ?_
  refine CG.region ?_
  refine OG.yield (Yield.move rfl) rfl ?_
  refine OG.yield (Yield.nilCheck rfl) rfl ?_
  refine OG.yield (Yield.load_agg ti105 rfl (VC_len q p a s) (Row.of_blk (by repeat (first | exact Ext.here | apply Ext.there)) (by rw [VC_len, List.drop_zero, List.take_of_length_le (by rw [VC_len]; omega)]))) rfl ?_
  refine OG.effd (Eff.alloc ti105) rfl ?_
  rintro b3 -
  refine OG.eff (Eff.storeAll ti105 rfl rfl (by repeat (first | exact Foc.here | apply Foc.there)) (VC_len q p a s) (VC_ones q p a s) rfl) rfl ?_
  rintro ⟨⟩ -
  refine OG.nil ?_
  refine QG.then ?_
  refine CG.seq ?_
  refine CG.region ?_
  refine OG.yield (Yield.assign rfl) rfl ?_
  refine OG.nil ?_
  refine QG.then ?_
  refine CG.ret ?_
  exact QG.ret1 rfl rfl b3 trivial rfl (Imp.refl _)
/-- Is the timer due? -/
def due (a : Int) (s : Bool) (now : Int) : Bool := s && decide (a ≤ now)
theorem or_lt {p q : Nat} (hp : p < 256) (hq : q < 256) : p ||| q < 256 := Nat.or_lt_two_pow (n := 8) hp hq
/-- The lines below i are pending, too. -/
theorem rel_step (p t i : Nat) : setBit (p ||| (t % 2 ^ i)) i ((p ||| (t % 2 ^ i)).testBit i || t.testBit i) = p ||| (t % 2 ^ (i + 1)) := by
  apply Nat.eq_of_testBit_eq
  intro j
  rw [setBit_test]
  simp only [Nat.testBit_or, Nat.testBit_mod_two_pow]
  by_cases hj : i = j
  · subst hj; simp
  · have : (j < i + 1) = (j < i) := by apply propext; omega
    simp [hj, this]
theorem release_spec {v q p : Nat} {a : Int} {s : Bool} (now : Int) (hq : q < 256) (hp : p < 256) : Ctr Try.prog W0 22 [.pointer (some ⟨v, 0, none⟩), .int .i64 now] (V v q p a s :: Fr) (fun _ : Unit => True)
    (fun _ => .int .u32 (if due a s now then setBit q 0 true else q : Nat)) (fun _ => V v 0 (p ||| (if due a s now then setBit q 0 true else q)) (if due a s now then 0 else a) (s && !due a s now) :: Fr) := by
  have h1 : due a s now = true → setBit q 0 true < 256 := fun _ => setBit_lt hq (by decide) true
  refine Ctr.of_body Try.func22 rfl Try.ntmps22 rfl ?_
  refine CG.seq ?_
  refine CG.region ?_
  refine OG.yield (Yield.assign rfl) rfl ?_
  refine OG.nil ?_
  refine QG.then ?_
  refine CG.cut (fun _ : Unit => True) (fun _ => [(0, .pointer (some ⟨v, 0, none⟩)), (1, .int .i64 now)]) (fun _ => V v (if due a s now then setBit q 0 true else q) p (if due a s now then 0 else a) (s && !due a s now) :: Fr) ?_ ?_
  · skip
    refine CG.seq ?_
    rcases (show (s = true ∧ a ≤ now) ∨ (s = true ∧ ¬ a ≤ now) ∨ s = false by cases s <;> simp; omega) with hh | hh | hh
    · skip
      refine CG.region ?_
      refine OG.yield (Yield.move rfl) rfl ?_
      refine OG.yield (Yield.nilCheck rfl) rfl ?_
      refine OG.yield (Yield.fieldAddr fa105_3 rfl) rfl ?_
      refine OG.yield (Yield.as (Yield.load ti4 rfl (Cel.of_blk (by repeat (first | exact Ext.here | apply Ext.there)) (VC_set q p a s))) (v' := .bool true) (by rw [hh.1])) rfl ?_
      refine OG.yield (Yield.move rfl) rfl ?_
      refine OG.guard_yes rfl rfl rfl (by decide) ?_
      refine OG.yield (Yield.move rfl) rfl ?_
      refine OG.guard_yes rfl rfl rfl (by decide) ?_
      refine OG.yield (Yield.nilCheck rfl) rfl ?_
      refine OG.guard_yes rfl rfl rfl (by decide) ?_
      refine OG.yield (Yield.fieldAddr fa105_2 rfl) rfl ?_
      refine OG.guard_yes rfl rfl rfl (by decide) ?_
      refine OG.yield (Yield.load ti3 rfl (Cel.of_blk (by repeat (first | exact Ext.here | apply Ext.there)) (VC_at q p a s))) rfl ?_
      refine OG.guard_yes rfl rfl rfl (by decide) ?_
      refine OG.yield (Yield.move rfl) rfl ?_
      refine OG.guard_yes rfl rfl rfl (by decide) ?_
      refine OG.yield (by first | exact Yield.as (Yield.leq rfl rfl) (bT (by omega)) | exact Yield.as (Yield.leq rfl rfl) (bF (by omega)) | exact Yield.leq rfl rfl) rfl ?_
      refine OG.yield (by first | exact Yield.pick_t rfl rfl | exact Yield.pick_f rfl rfl | exact Yield.pick rfl (fun _ => rfl) (fun _ => rfl)) rfl ?_
      refine OG.nil ?_
      refine QG.then ?_
      refine CG.cond_t rfl ?_
      refine CG.seq ?_
      refine CG.region ?_
      refine OG.yield (Yield.move rfl) rfl ?_
      refine OG.callo call31 rfl ((by repeat (first | exact Imp.refl _ | exact Imp.none _ | apply Imp.pull (by repeat (first | exact Ext.here | apply Ext.there)) | apply Imp.trans Imp.drop))) (stop_spec W0 Fr) rfl ?_
      rintro ⟨⟩ -
      refine OG.nil ?_
      refine QG.then ?_
      refine CG.region ?_
      refine OG.yield (Yield.move rfl) rfl ?_
      refine OG.yield (Yield.nilCheck rfl) rfl ?_
      refine OG.yield (Yield.fieldAddr fa105_0 rfl) rfl ?_
      refine OG.yield (Yield.index_array Try.underlying103 ti4 rfl rfl (by omega) (by omega)) rfl ?_
      refine OG.eff (Eff.store1 ti4 rfl rfl (by repeat (first | exact Foc.here | apply Foc.there)) rfl (by rw [VC_len]; decide)) rfl ?_
      rintro ⟨⟩ -
      rw [show 0 + 0 + (0 : Int).toNat * 1 = 0 from rfl, VC_setq _ _ _ _ _ (by decide)]
      refine OG.nil ?_
      have hd : due a s now = true := by simp [due, hh.1, hh.2]
      rw [hd]
      refine QG.mid () trivial (by repeat (first | exact Env.sub_nil _ | refine Env.sub_cons rfl ?_)) ?_
      rw [hh.1]
      exact Imp.refl _
    · skip
      refine CG.region ?_
      refine OG.yield (Yield.move rfl) rfl ?_
      refine OG.yield (Yield.nilCheck rfl) rfl ?_
      refine OG.yield (Yield.fieldAddr fa105_3 rfl) rfl ?_
      refine OG.yield (Yield.as (Yield.load ti4 rfl (Cel.of_blk (by repeat (first | exact Ext.here | apply Ext.there)) (VC_set q p a s))) (v' := .bool true) (by rw [hh.1])) rfl ?_
      refine OG.yield (Yield.move rfl) rfl ?_
      refine OG.guard_yes rfl rfl rfl (by decide) ?_
      refine OG.yield (Yield.move rfl) rfl ?_
      refine OG.guard_yes rfl rfl rfl (by decide) ?_
      refine OG.yield (Yield.nilCheck rfl) rfl ?_
      refine OG.guard_yes rfl rfl rfl (by decide) ?_
      refine OG.yield (Yield.fieldAddr fa105_2 rfl) rfl ?_
      refine OG.guard_yes rfl rfl rfl (by decide) ?_
      refine OG.yield (Yield.load ti3 rfl (Cel.of_blk (by repeat (first | exact Ext.here | apply Ext.there)) (VC_at q p a s))) rfl ?_
      refine OG.guard_yes rfl rfl rfl (by decide) ?_
      refine OG.yield (Yield.move rfl) rfl ?_
      refine OG.guard_yes rfl rfl rfl (by decide) ?_
      refine OG.yield (by first | exact Yield.as (Yield.leq rfl rfl) (bT (by omega)) | exact Yield.as (Yield.leq rfl rfl) (bF (by omega)) | exact Yield.leq rfl rfl) rfl ?_
      refine OG.yield (by first | exact Yield.pick_t rfl rfl | exact Yield.pick_f rfl rfl | exact Yield.pick rfl (fun _ => rfl) (fun _ => rfl)) rfl ?_
      refine OG.nil ?_
      refine QG.then ?_
      refine CG.cond_f rfl ?_
      refine CG.skip ?_
      have hd : due a s now = false := by simp [due, hh.1, hh.2]
      rw [hd]
      refine QG.mid () trivial (by repeat (first | exact Env.sub_nil _ | refine Env.sub_cons rfl ?_)) ?_
      rw [hh.1]
      exact Imp.refl _
    · skip
      refine CG.region ?_
      refine OG.yield (Yield.move rfl) rfl ?_
      refine OG.yield (Yield.nilCheck rfl) rfl ?_
      refine OG.yield (Yield.fieldAddr fa105_3 rfl) rfl ?_
      refine OG.yield (Yield.as (Yield.load ti4 rfl (Cel.of_blk (by repeat (first | exact Ext.here | apply Ext.there)) (VC_set q p a s))) (v' := .bool false) (by rw [hh])) rfl ?_
      refine OG.yield (Yield.move rfl) rfl ?_
      refine OG.guard_no rfl rfl rfl rfl rfl (by decide) (by decide) ?_
      refine OG.guard_no rfl rfl rfl rfl rfl (by decide) (by decide) ?_
      refine OG.guard_no rfl rfl rfl rfl rfl (by decide) (by decide) ?_
      refine OG.guard_no rfl rfl rfl rfl rfl (by decide) (by decide) ?_
      refine OG.guard_no rfl rfl rfl rfl rfl (by decide) (by decide) ?_
      refine OG.guard_no rfl rfl rfl rfl rfl (by decide) (by decide) ?_
      refine OG.yield (by first | exact Yield.pick_t rfl rfl | exact Yield.pick_f rfl rfl | exact Yield.pick rfl (fun _ => rfl) (fun _ => rfl)) rfl ?_
      refine OG.nil ?_
      refine QG.then ?_
      refine CG.cond_f rfl ?_
      refine CG.skip ?_
      have hd : due a s now = false := by simp [due, hh]
      rw [hd]
      refine QG.mid () trivial (by repeat (first | exact Env.sub_nil _ | refine Env.sub_cons rfl ?_)) ?_
      rw [hh]
      exact Imp.refl _
  rintro ⟨⟩ -
  have ht : (if due a s now then setBit q 0 true else q) < 256 := by split; exact setBit_lt hq (by decide) true; exact hq
  generalize (if due a s now then setBit q 0 true else q) = t at ht ⊢
  generalize (if due a s now then 0 else a) = a'
  generalize (s && !due a s now) = s'
  refine CG.seq ?_
  refine CG.region ?_
  refine OG.yield (Yield.move rfl) rfl ?_
  refine OG.yield (Yield.nilCheck rfl) rfl ?_
  refine OG.yield (Yield.fieldAddr fa105_0 rfl) rfl ?_
  refine OG.yield (Yield.load_agg ti103 rfl (lineC_len t) (Row.of_blk (by repeat (first | exact Ext.here | apply Ext.there)) (VC_rowq t p a' s'))) rfl ?_
  refine OG.effd (Eff.alloc ti103) rfl ?_
  rintro b5 -
  refine OG.eff (Eff.storeAll ti103 rfl rfl (by repeat (first | exact Foc.here | apply Foc.there)) (lineC_len t) (lineC_ones t) rfl) rfl ?_
  rintro ⟨⟩ -
  refine OG.nil ?_
  refine QG.then ?_
  refine CG.seq ?_
  refine CG.seq ?_
  refine CG.region ?_
  refine OG.yield (Yield.load_agg ti103 rfl (lineC_len t) (Row.of_blk (by repeat (first | exact Ext.here | apply Ext.there)) (by rw [lineC_len, List.drop_zero, List.take_of_length_le (by rw [lineC_len]; omega)]))) rfl ?_
  refine OG.yield (Yield.move rfl) rfl ?_
  refine OG.nil ?_
  refine QG.then ?_
  refine CG.block ?_
  refine CG.loop (fun i : Nat => i ≤ 8) (fun i => [(0, .pointer (some ⟨v, 0, none⟩)), (5, .pointer (some ⟨b5, 0, none⟩)), (30, .agg (lineC t).toArray), (31, .int .i64 i)]) (fun i => blk b5 (lineC t) 103 :: V v t (p ||| (t % 2 ^ i)) a' s' :: Fr) (fun i => 8 - i) 0 (by decide) (by repeat (first | exact Env.sub_nil _ | refine Env.sub_cons rfl ?_)) (by rw [Nat.pow_zero, Nat.mod_one, Nat.or_zero]; exact Imp.refl _) ?_
  intro i hi
  refine CG.seq ?_
  refine CG.region ?_
  refine OG.yield (by first | exact Yield.as (Yield.lss rfl rfl) (bT (by omega)) | exact Yield.as (Yield.lss rfl rfl) (bF (by omega)) | exact Yield.lss rfl rfl) rfl ?_
  refine OG.nil ?_
  refine QG.then ?_
  refine CG.seq ?_
  refine CG.cond rfl (fun hc => ?_) (fun hc => ?_)
  · try replace hc := of_decide_eq_true hc
    have hi' : i < 8 := by omega
    refine CG.skip ?_
    refine QG.then ?_
    refine CG.seq ?_
    refine CG.block ?_
    refine CG.seq ?_
    refine CG.region ?_
    refine OG.yield (Yield.move rfl) rfl ?_
    refine OG.yield (Yield.index_agg (v := .bool (t.testBit i)) Try.underlying103 ti4 rfl rfl (by omega) (by omega) (by rw [Nat.mul_one]; exact lineC_get t hi')) rfl ?_
    refine OG.yield (Yield.assign rfl) rfl ?_
    refine OG.yield (Yield.assign rfl) rfl ?_
    refine OG.nil ?_
    refine QG.then ?_
    rcases Bool.eq_false_or_eq_true ((p ||| (t % 2 ^ i)).testBit i) with hb | hb
    · skip
      refine CG.draw (.look 0 1 (.look 1 1 (.look 2 1 (.look 3 1 (.look 4 1 (.look 5 1 (.look 6 1 (.look 7 1 (.look 8 1 (.look 9 1 (.look 10 1 (.look 11 1 (.look 12 1 (.look 13 1 (.eff1 14 false (.done)))))))))))))))) [14] [] ([]) ([]) mixed (by kernel_rfl) (Imp.none _) (Imp.none _) ?_
      refine DG.look rfl rfl (Yield.move rfl) rfl ?_
      refine DG.look rfl rfl (Yield.move rfl) rfl ?_
      refine DG.look rfl rfl (Yield.move rfl) rfl ?_
      refine DG.look rfl rfl (Yield.move rfl) rfl ?_
      refine DG.look rfl rfl (Yield.nilCheck rfl) rfl ?_
      refine DG.look rfl rfl (Yield.fieldAddr fa105_1 rfl) rfl ?_
      refine DG.look rfl rfl (Yield.index_array Try.underlying103 ti4 rfl rfl (by omega) (by omega)) rfl ?_
      refine DG.look rfl rfl (Yield.as (Yield.load (v := .bool ((p ||| (t % 2 ^ i)).testBit i)) ti4 rfl (Cel.of_blk (by repeat (first | exact Ext.here | apply Ext.there)) (by rw [show 0 + 8 + (i : Int).toNat * 1 = 8 + i by omega]; exact VC_p _ _ _ _ hi'))) (v' := .bool true) (by rw [hb])) rfl ?_
      refine DG.look rfl rfl (Yield.move rfl) rfl ?_
      refine DG.pass rfl rfl rfl ?_
      refine DG.look rfl rfl (by first | exact Yield.pick_t rfl rfl | exact Yield.pick_f rfl rfl | exact Yield.pick rfl (fun _ => rfl) (fun _ => rfl)) rfl ?_
      refine DG.look rfl rfl (Yield.nilCheck rfl) rfl ?_
      refine DG.look rfl rfl (Yield.fieldAddr fa105_1 rfl) rfl ?_
      refine DG.look rfl rfl (Yield.index_array Try.underlying103 ti4 rfl rfl (by omega) (by omega)) rfl ?_
      refine DG.eff1 ?_
      refine Chg.eff rfl rfl (Eff.store1 ti4 rfl rfl (by repeat (first | exact Foc.here | apply Foc.there)) rfl (by rw [VC_len]; omega)) rfl (fun _ => (by repeat (first | exact Imp.refl _ | exact Imp.none _ | apply Imp.pull (by repeat (first | exact Ext.here | apply Ext.there)) | apply Imp.trans Imp.drop))) (fun _ => Imp.refl _) (fun _ => (by repeat (first | exact Imp.refl _ | exact Imp.none _ | apply Imp.pull (by repeat (first | exact Ext.here | apply Ext.there)) | apply Imp.trans Imp.drop))) ?_
      rintro ⟨⟩ -
      rw [show 0 + 8 + (i : Int).toNat * 1 = 8 + i by omega, VC_setp _ _ _ _ _ hi']
      refine DG.done ?_
      refine QG.block_normal ?_
      refine QG.then ?_
      refine CG.region ?_
      refine OG.yield (Yield.add rfl rfl (w64 (by omega) (by omega))) rfl ?_
      refine OG.yield (Yield.move rfl) rfl ?_
      refine OG.nil ?_
      refine QG.next (i + 1) (show i + 1 ≤ 8 by omega) (show 8 - (i + 1) < 8 - i by omega) (by repeat (first | exact Env.sub_nil _ | refine Env.sub_cons rfl ?_)) ?_
      have e := rel_step p t i
      rw [hb, Bool.true_or] at e
      rw [e]
      exact (by repeat (first | exact Imp.refl _ | exact Imp.none _ | apply Imp.pull (by repeat (first | exact Ext.here | apply Ext.there)) | apply Imp.trans Imp.drop))
    · skip
      refine CG.draw (.look 0 1 (.look 1 1 (.look 2 1 (.look 3 1 (.look 4 1 (.look 5 1 (.look 6 1 (.look 7 1 (.look 8 1 (.look 9 1 (.look 10 1 (.look 11 1 (.look 12 1 (.look 13 1 (.eff1 14 false (.done)))))))))))))))) [14] [] ([]) ([]) mixed (by kernel_rfl) (Imp.none _) (Imp.none _) ?_
      refine DG.look rfl rfl (Yield.move rfl) rfl ?_
      refine DG.look rfl rfl (Yield.move rfl) rfl ?_
      refine DG.look rfl rfl (Yield.move rfl) rfl ?_
      refine DG.look rfl rfl (Yield.move rfl) rfl ?_
      refine DG.look rfl rfl (Yield.nilCheck rfl) rfl ?_
      refine DG.look rfl rfl (Yield.fieldAddr fa105_1 rfl) rfl ?_
      refine DG.look rfl rfl (Yield.index_array Try.underlying103 ti4 rfl rfl (by omega) (by omega)) rfl ?_
      refine DG.look rfl rfl (Yield.as (Yield.load (v := .bool ((p ||| (t % 2 ^ i)).testBit i)) ti4 rfl (Cel.of_blk (by repeat (first | exact Ext.here | apply Ext.there)) (by rw [show 0 + 8 + (i : Int).toNat * 1 = 8 + i by omega]; exact VC_p _ _ _ _ hi'))) (v' := .bool false) (by rw [hb])) rfl ?_
      refine DG.look rfl rfl (Yield.move rfl) rfl ?_
      refine DG.look rfl rfl (Yield.move rfl) rfl ?_
      refine DG.look rfl rfl (by first | exact Yield.pick_t rfl rfl | exact Yield.pick_f rfl rfl | exact Yield.pick rfl (fun _ => rfl) (fun _ => rfl)) rfl ?_
      refine DG.look rfl rfl (Yield.nilCheck rfl) rfl ?_
      refine DG.look rfl rfl (Yield.fieldAddr fa105_1 rfl) rfl ?_
      refine DG.look rfl rfl (Yield.index_array Try.underlying103 ti4 rfl rfl (by omega) (by omega)) rfl ?_
      refine DG.eff1 ?_
      refine Chg.eff rfl rfl (Eff.store1 ti4 rfl rfl (by repeat (first | exact Foc.here | apply Foc.there)) rfl (by rw [VC_len]; omega)) rfl (fun _ => (by repeat (first | exact Imp.refl _ | exact Imp.none _ | apply Imp.pull (by repeat (first | exact Ext.here | apply Ext.there)) | apply Imp.trans Imp.drop))) (fun _ => Imp.refl _) (fun _ => (by repeat (first | exact Imp.refl _ | exact Imp.none _ | apply Imp.pull (by repeat (first | exact Ext.here | apply Ext.there)) | apply Imp.trans Imp.drop))) ?_
      rintro ⟨⟩ -
      rw [show 0 + 8 + (i : Int).toNat * 1 = 8 + i by omega, VC_setp _ _ _ _ _ hi']
      refine DG.done ?_
      refine QG.block_normal ?_
      refine QG.then ?_
      refine CG.region ?_
      refine OG.yield (Yield.add rfl rfl (w64 (by omega) (by omega))) rfl ?_
      refine OG.yield (Yield.move rfl) rfl ?_
      refine OG.nil ?_
      refine QG.next (i + 1) (show i + 1 ≤ 8 by omega) (show 8 - (i + 1) < 8 - i by omega) (by repeat (first | exact Env.sub_nil _ | refine Env.sub_cons rfl ?_)) ?_
      have e := rel_step p t i
      rw [hb, Bool.false_or] at e
      rw [e]
      exact (by repeat (first | exact Imp.refl _ | exact Imp.none _ | apply Imp.pull (by repeat (first | exact Ext.here | apply Ext.there)) | apply Imp.trans Imp.drop))
  · try replace hc := of_decide_eq_false hc
    refine CG.exit ?_
    refine QG.pass_exit ?_
    refine QG.pass_exit ?_
    refine QG.block_exit ?_
    refine QG.then ?_
    refine CG.seq ?_
    have h8 : i = 8 := by omega
    subst h8
    rw [Nat.mod_eq_of_lt (show t < 2 ^ 8 by omega)]
    refine CG.region ?_
    refine OG.yield (Yield.move rfl) rfl ?_
    refine OG.yield (Yield.buildArr0 Try.underlying103 ti103 ti4) rfl ?_
    refine OG.yield (Yield.nilCheck rfl) rfl ?_
    refine OG.yield (Yield.fieldAddr fa105_0 rfl) rfl ?_
    refine OG.eff (Eff.store (cs' := VC 0 (p ||| t) a' s') ti103 rfl rfl (by repeat (first | exact Foc.here | apply Foc.there)) rfl ?_ (by rw [VC_len]; decide) ?_) rfl ?_
    · intro c hc; exact lineC_ones 0 c hc
    · unfold over VC
      rw [show 0 + 0 = 0 from rfl, List.take_zero, List.nil_append]
      show lineC 0 ++ List.drop 8 (lineC t ++ lineC (p ||| t) ++ [Value.int IntKind.i64 a', Value.bool s']) = _
      rw [List.append_assoc, List.drop_append, List.drop_eq_nil_of_le (by rw [lineC_len]; omega), lineC_len, List.nil_append, Nat.sub_self, List.drop_zero, List.append_assoc]
    rintro ⟨⟩ -
    refine OG.nil ?_
    refine QG.then ?_
    refine CG.seq ?_
    refine CG.region ?_
    refine OG.yield (Yield.load_agg ti103 rfl (lineC_len t) (Row.of_blk (by repeat (first | exact Ext.here | apply Ext.there)) (by rw [lineC_len, List.drop_zero, List.take_of_length_le (by rw [lineC_len]; omega)]))) rfl ?_
    refine OG.callo call62 rfl (Imp.refl _) (bits_spec W0 _ ht) rfl ?_
    rintro ⟨⟩ -
    refine OG.yield (Yield.assign rfl) rfl ?_
    refine OG.nil ?_
    refine QG.then ?_
    refine CG.ret ?_
    exact QG.ret1 rfl rfl () trivial rfl (by repeat (first | exact Imp.refl _ | exact Imp.none _ | apply Imp.pull (by repeat (first | exact Ext.here | apply Ext.there)) | apply Imp.trans Imp.drop))
/-- The lines of p without those of m. -/
def clr (p m : Nat) : Nat := p ^^^ (p &&& m)
theorem clr_test (p m j : Nat) : (clr p m).testBit j = (p.testBit j && !m.testBit j) := by
  unfold clr; simp only [Nat.testBit_xor, Nat.testBit_and]; cases p.testBit j <;> cases m.testBit j <;> rfl
theorem clr_lt {p : Nat} (h : p < 256) (m : Nat) : clr p m < 256 := lt_of_bits fun j hj => by rw [clr_test, bits_of_lt h hj]; rfl
theorem clr_zero (p : Nat) : clr p 0 = p := by apply Nat.eq_of_testBit_eq; intro j; rw [clr_test]; simp
theorem clr_mod {p : Nat} (h : p < 256) (m : Nat) : clr p (m % 2 ^ 8) = clr p m := by
  apply Nat.eq_of_testBit_eq; intro j
  rw [clr_test, clr_test, Nat.testBit_mod_two_pow]
  by_cases hj : j < 8
  · simp [hj]
  · rw [bits_of_lt h (by omega)]; simp
theorem clr_step (p m i : Nat) : clr p (m % 2 ^ (i + 1)) = if m.testBit i then setBit (clr p (m % 2 ^ i)) i false else clr p (m % 2 ^ i) := by
  apply Nat.eq_of_testBit_eq; intro j
  by_cases h : m.testBit i = true
  · rw [if_pos h, setBit_test, clr_test, clr_test, Nat.testBit_mod_two_pow, Nat.testBit_mod_two_pow]
    by_cases hj : i = j
    · subst hj; simp [h]
    · have : (j < i + 1) = (j < i) := by apply propext; omega
      simp [hj, this]
  · rw [if_neg h, clr_test, clr_test, Nat.testBit_mod_two_pow, Nat.testBit_mod_two_pow]
    by_cases hj : i = j
    · subst hj; simp [h]
    · have : (j < i + 1) = (j < i) := by apply propext; omega
      simp [this]
theorem testBit_int (m i : Nat) : decide (((m : Int) / 2 ^ i) % 2 = 1) = m.testBit i := by
  rw [Nat.testBit_eq_decide_div_mod_eq]
  congr 1
  have : (((m : Int) / 2 ^ i) % 2) = ((m / 2 ^ i % 2 : Nat) : Int) := by simp
  rw [this]
  apply propext; omega
theorem ack_spec {v q p m : Nat} {a : Int} {s : Bool} (hp : p < 256) (hm : m < 4294967296) : Ctr Try.prog W0 30 [.pointer (some ⟨v, 0, none⟩), .int .u32 m] (V v q p a s :: Fr) (fun _ : Unit => True) (fun _ => .tuple #[]) (fun _ => V v q (clr p m) a s :: Fr) := by
  refine Ctr.of_body Try.func30 rfl Try.ntmps30 rfl ?_
  refine CG.seq ?_
  refine CG.region ?_
  refine OG.yield (Yield.move rfl) rfl ?_
  refine OG.nil ?_
  refine QG.then ?_
  refine CG.block ?_
  refine CG.loop (fun i : Nat => i ≤ 8) (fun i => [(0, .pointer (some ⟨v, 0, none⟩)), (1, .int .u32 m), (5, .int .i64 i)]) (fun i => V v q (clr p (m % 2 ^ i)) a s :: Fr) (fun i => 8 - i) 0 (by decide) (by repeat (first | exact Env.sub_nil _ | refine Env.sub_cons rfl ?_)) (by rw [Nat.pow_zero, Nat.mod_one, clr_zero]; exact Imp.refl _) ?_
  intro i hi
  refine CG.seq ?_
  refine CG.region ?_
  refine OG.yield (by first | exact Yield.as (Yield.lss rfl rfl) (bT (by omega)) | exact Yield.as (Yield.lss rfl rfl) (bF (by omega)) | exact Yield.lss rfl rfl) rfl ?_
  refine OG.nil ?_
  refine QG.then ?_
  refine CG.seq ?_
  refine CG.cond rfl (fun hc => ?_) (fun hc => ?_)
  · try replace hc := of_decide_eq_true hc
    have hi' : i < 8 := by omega
    refine CG.skip ?_
    refine QG.then ?_
    refine CG.seq ?_
    refine CG.block ?_
    refine CG.seq ?_
    refine CG.region ?_
    refine OG.yield (Yield.move rfl) rfl ?_
    refine OG.yield (Yield.assign rfl) rfl ?_
    refine OG.nil ?_
    refine QG.then ?_
    refine CG.seq ?_
    refine CG.region ?_
    refine OG.yield (Yield.move rfl) rfl ?_
    refine OG.yield (Yield.move rfl) rfl ?_
    refine OG.yield (Yield.shr (m := i) (c := (m : Int) / 2 ^ i) rfl rfl rfl (by simp [IntKind.bits]; omega) rfl) rfl ?_
    refine OG.yield (Yield.bitop (c := ((m : Int) / 2 ^ i) % 2) rfl rfl rfl (bits_mask .u32 32 (by decide) wraps_word 1 (by decide) _ (Int.ediv_nonneg (by omega) (Int.pow_nonneg (by decide))) (Int.lt_of_le_of_lt (Int.ediv_le_self _ (by omega)) (by omega)))) rfl ?_
    refine OG.yield (Yield.as (Yield.eql rfl rfl) (v' := .bool (m.testBit i)) (by rw [testBit_int])) rfl ?_
    refine OG.nil ?_
    refine QG.then ?_
    refine CG.cond rfl (fun hc => ?_) (fun hc => ?_)
    · try replace hc := of_decide_eq_true hc
      refine CG.region ?_
      refine OG.yield (Yield.move rfl) rfl ?_
      refine OG.yield (Yield.move rfl) rfl ?_
      refine OG.yield (Yield.nilCheck rfl) rfl ?_
      refine OG.yield (Yield.fieldAddr fa105_1 rfl) rfl ?_
      refine OG.yield (Yield.index_array Try.underlying103 ti4 rfl rfl (by omega) (by omega)) rfl ?_
      refine OG.eff (Eff.store1 ti4 rfl rfl (by repeat (first | exact Foc.here | apply Foc.there)) rfl (by rw [VC_len]; omega)) rfl ?_
      rintro ⟨⟩ -
      rw [show 0 + 8 + (i : Int).toNat * 1 = 8 + i by omega, VC_setp _ _ _ _ _ hi']
      refine OG.nil ?_
      refine QG.block_normal ?_
      refine QG.then ?_
      refine CG.region ?_
      refine OG.yield (Yield.add rfl rfl (w64 (by omega) (by omega))) rfl ?_
      refine OG.yield (Yield.move rfl) rfl ?_
      refine OG.nil ?_
      refine QG.next (i + 1) (show i + 1 ≤ 8 by omega) (show 8 - (i + 1) < 8 - i by omega) (by repeat (first | exact Env.sub_nil _ | refine Env.sub_cons rfl ?_)) ?_
      rw [clr_step, if_pos hc]; exact (by repeat (first | exact Imp.refl _ | exact Imp.none _ | apply Imp.pull (by repeat (first | exact Ext.here | apply Ext.there)) | apply Imp.trans Imp.drop))
    · try replace hc := of_decide_eq_false hc
      refine CG.skip ?_
      refine QG.block_normal ?_
      refine QG.then ?_
      refine CG.region ?_
      refine OG.yield (Yield.add rfl rfl (w64 (by omega) (by omega))) rfl ?_
      refine OG.yield (Yield.move rfl) rfl ?_
      refine OG.nil ?_
      refine QG.next (i + 1) (show i + 1 ≤ 8 by omega) (show 8 - (i + 1) < 8 - i by omega) (by repeat (first | exact Env.sub_nil _ | refine Env.sub_cons rfl ?_)) ?_
      rw [clr_step, if_neg (by rw [hc]; decide)]; exact (by repeat (first | exact Imp.refl _ | exact Imp.none _ | apply Imp.pull (by repeat (first | exact Ext.here | apply Ext.there)) | apply Imp.trans Imp.drop))
  · try replace hc := of_decide_eq_false hc
    refine CG.exit ?_
    refine QG.pass_exit ?_
    refine QG.pass_exit ?_
    refine QG.block_exit ?_
    have h8 : i = 8 := by omega
    subst h8
    rw [clr_mod hp]
    exact QG.end0 rfl () trivial rfl (by repeat (first | exact Imp.refl _ | exact Imp.none _ | apply Imp.pull (by repeat (first | exact Ext.here | apply Ext.there)) | apply Imp.trans Imp.drop))
theorem release_due {v q p : Nat} {a : Int} {s : Bool} (now : Int) (hq : q < 256) (hp : p < 256) (hd : due a s now = true) : Ctr Try.prog W0 22 [.pointer (some ⟨v, 0, none⟩), .int .i64 now] (V v q p a s :: Fr) (fun _ : Unit => True)
    (fun _ => .int .u32 (setBit q 0 true : Nat)) (fun _ => V v 0 (p ||| setBit q 0 true) 0 false :: Fr) := by
  have h := release_spec W0 Fr (v := v) (a := a) (s := s) now hq hp
  rw [hd] at h
  simpa using h
theorem release_not {v q p : Nat} {a : Int} {s : Bool} (now : Int) (hq : q < 256) (hp : p < 256) (hd : due a s now = false) : Ctr Try.prog W0 22 [.pointer (some ⟨v, 0, none⟩), .int .i64 now] (V v q p a s :: Fr) (fun _ : Unit => True)
    (fun _ => .int .u32 (q : Nat)) (fun _ => V v 0 (p ||| q) a s :: Fr) := by
  have h := release_spec W0 Fr (v := v) (a := a) (s := s) now hq hp
  rw [hd] at h
  simpa using h
end
end Go.Proofs.Ytjdaglakhiifjaa.Vi
