/- memory.Memory as its bytes: what each function does; and word.Get, word.Put. -/
import Derived.Test.YtmlfcfbblfcpdaaTab
import Derived.Test.YtmlfcfbblfcpdaaArr
namespace Go.Proofs.Ytmlfcfbblfcpdaa.Me
open Go Go.Sl Go.RowKit Go.Proofs Go.Proofs.Ytmlfcfbblfcpdaa.T
set_option linter.unusedVariables false
set_option linter.unusedSimpArgs false
set_option maxRecDepth 100000
/-- The number of bytes, the lowest first. -/
def leN : List UInt8 → Nat
  | [] => 0
  | b :: bs => b.toNat + 256 * leN bs
theorem leN_lt : ∀ bs : List UInt8, leN bs < 2 ^ (8 * bs.length)
  | [] => by simp [leN]
  | b :: bs => by
    have ih := leN_lt bs
    have hb := b.toNat_lt
    have : 2 ^ (8 * (b :: bs).length) = 256 * 2 ^ (8 * bs.length) := by
      rw [List.length_cons, Nat.mul_succ, Nat.pow_add, Nat.mul_comm]
    rw [this]; simp only [leN]; omega
theorem leN_lt64 {bs : List UInt8} (h : bs.length ≤ 8) : leN bs < 18446744073709551616 := by
  have h1 := leN_lt bs
  have h2 : 2 ^ (8 * bs.length) ≤ 2 ^ 64 := Nat.pow_le_pow_right (by decide) (by omega)
  have h3 : (2 : Nat) ^ 64 = 18446744073709551616 := by decide
  omega
theorem leN_append (a b : List UInt8) : leN (a ++ b) = leN a + 2 ^ (8 * a.length) * leN b := by
  induction a with
  | nil => simp [leN]
  | cons x a ih =>
    have e : 2 ^ (8 * (x :: a).length) = 2 ^ (8 * a.length) * 256 := by rw [List.length_cons, Nat.mul_add, Nat.pow_add]
    rw [e]
    simp only [List.cons_append, leN, ih]
    rw [Nat.mul_add, ← Nat.mul_assoc, Nat.mul_comm 256 (2 ^ (8 * a.length)), Nat.add_assoc]
theorem leN_take {bs : List UInt8} {i : Nat} {b : UInt8} (h : bs[i]? = some b) : leN (bs.take (i + 1)) = leN (bs.take i) + b.toNat * 2 ^ (8 * i) := by
  obtain ⟨hi, rfl⟩ := List.getElem?_eq_some_iff.1 h
  rw [List.take_succ_eq_append_getElem hi, leN_append, List.length_take, Nat.min_eq_left (by omega)]
  simp [leN, Nat.mul_comm]
theorem leN_drop {bs : List UInt8} {i : Nat} {b : UInt8} (h : bs[i]? = some b) : leN (bs.drop i) = b.toNat + 256 * leN (bs.drop (i + 1)) := by
  obtain ⟨hi, rfl⟩ := List.getElem?_eq_some_iff.1 h
  rw [List.drop_eq_getElem_cons hi]; rfl
/-- The k lowest bytes of a number, the lowest first. -/
def putB (v k : Nat) : List UInt8 := (List.range k).map fun i => UInt8.ofNat (v / 2 ^ (8 * i))
theorem putB_len (v k : Nat) : (putB v k).length = k := by simp [putB]
theorem putB_succ (v k : Nat) : putB v (k + 1) = putB v k ++ [UInt8.ofNat (v / 2 ^ (8 * k))] := by unfold putB; rw [List.range_succ, List.map_append]; rfl
theorem leN_putB (v k : Nat) : leN (putB v k) = v % 2 ^ (8 * k) := by
  induction k with
  | zero => simp [putB, leN, Nat.mod_one]
  | succ k ih =>
    rw [putB_succ, leN_append, ih, putB_len]
    simp only [leN, Nat.mul_zero, Nat.add_zero, UInt8.toNat_ofNat']
    rw [Nat.mul_succ, Nat.pow_add, Nat.mod_mul]
/-- Bytes with others written over them from a on. -/
def overB (bs : List UInt8) (a : Nat) (ys : List UInt8) : List UInt8 := bs.take a ++ ys ++ bs.drop (a + ys.length)
theorem overB_len {bs : List UInt8} {a : Nat} {ys : List UInt8} (h : a + ys.length ≤ bs.length) : (overB bs a ys).length = bs.length := by unfold overB; simp; omega
theorem over_bytes (bs : List UInt8) (a : Nat) (ys : List UInt8) : over (bytesV bs) a (bytesV ys) = bytesV (overB bs a ys) := by
  unfold over overB; rw [bytesV_length, bytesV_take, bytesV_drop, bytesV_append, bytesV_append]
theorem overB_nil (bs : List UInt8) (a : Nat) : overB bs a [] = bs := by simp [overB]
theorem overB_snoc {bs ys : List UInt8} {a : Nat} {y : UInt8} (h : a + ys.length < bs.length) : overB bs a (ys ++ [y]) = (overB bs a ys).set (a + ys.length) y := by
  unfold overB
  have e1 : (bs.take a ++ ys).length = a + ys.length := by simp; omega
  rw [List.set_append_right _ _ (by omega), e1, Nat.sub_self, List.drop_eq_getElem_cons h, List.set_cons_zero]
  simp [Nat.add_assoc]
theorem overB_at {bs ys : List UInt8} {a : Nat} (h : a ≤ bs.length) : ((overB bs a ys).drop a).take ys.length = ys := by
  unfold overB
  have e0 : (bs.take a).length = a := by rw [List.length_take]; omega
  rw [List.append_assoc, List.drop_append, e0, List.drop_eq_nil_of_le (by omega), List.nil_append, Nat.sub_self, List.drop_zero, List.take_append_of_le_length (Nat.le_refl _), List.take_length]
/-- What is wrong with an access: 0, nothing. -/
def merr (n a : Nat) (s : Int) : Int := if s ≠ 1 ∧ s ≠ 2 ∧ s ≠ 4 ∧ s ≠ 8 then 5 else if (a : Int) % s ≠ 0 then 30 else if (n * 256 : Nat) < a + s then 31 else 0
theorem merr_cases (n a : Nat) (s : Int) : (∃ k : Nat, s = k ∧ (k = 1 ∨ k = 2 ∨ k = 4 ∨ k = 8) ∧ a % k = 0 ∧ a + k ≤ n * 256 ∧ merr n a s = 0) ∨ merr n a s ≠ 0 := by
  by_cases h : merr n a s = 0
  · refine .inl ?_
    unfold merr at h
    split at h
    · cases h
    · split at h
      · cases h
      · split at h
        · cases h
        · refine ⟨s.toNat, by omega, by omega, ?_, by omega, ?_⟩
          · rcases (show s = 1 ∨ s = 2 ∨ s = 4 ∨ s = 8 by omega) with rfl | rfl | rfl | rfl
            · show a % 1 = 0; omega
            · show a % 2 = 0; omega
            · show a % 4 = 0; omega
            · show a % 8 = 0; omega
          · unfold merr; rw [if_neg (by omega), if_neg (by omega), if_neg (by omega)]
  · exact .inr h
theorem quo_nat {a b : Nat} (hb : b ≠ 0) (ha : a ≤ 9223372036854775807) : IntKind.i64.wrap ((a : Int).tdiv (b : Int)) = ((a / b : Nat) : Int) := by
  rw [Int.tdiv_eq_ediv_of_nonneg (by omega), ← Int.natCast_ediv]
  have := Nat.div_le_self a b
  generalize a / b = q at this ⊢
  exact w64 (by omega) (by omega)
theorem quo_nat32 {a b : Nat} (hb : b ≠ 0) (ha : a ≤ 4294967295) : IntKind.u32.wrap ((a : Int).tdiv (b : Int)) = ((a / b : Nat) : Int) := by
  rw [Int.tdiv_eq_ediv_of_nonneg (by omega), ← Int.natCast_ediv]
  have := Nat.div_le_self a b
  generalize a / b = q at this ⊢
  exact wu32 (by omega) (by omega)
theorem quo_nat64 {a b : Nat} (hb : b ≠ 0) (ha : a ≤ 18446744073709551615) : IntKind.u64.wrap ((a : Int).tdiv (b : Int)) = ((a / b : Nat) : Int) := by
  rw [Int.tdiv_eq_ediv_of_nonneg (by omega), ← Int.natCast_ediv]
  have := Nat.div_le_self a b
  generalize a / b = q at this ⊢
  exact wu64 (by omega) (by omega)
theorem shl_bound {x i : Nat} (hx : x < 256) (hi : i < 8) : x * 2 ^ (8 * i) < 18446744073709551616 := by
  have h1 : x * 2 ^ (8 * i) < 256 * 2 ^ (8 * i) := Nat.mul_lt_mul_of_pos_right hx (Nat.two_pow_pos _)
  have h2 : 256 * 2 ^ (8 * i) = 2 ^ (8 * i + 8) := by rw [Nat.pow_add, Nat.mul_comm]
  have h3 : 2 ^ (8 * i + 8) ≤ 2 ^ 64 := Nat.pow_le_pow_right (by decide) (by omega)
  have h4 : (2 : Nat) ^ 64 = 18446744073709551616 := by decide
  omega
theorem or_join {a x i : Nat} (ha : a < 2 ^ (8 * i)) (hx : x < 256) (hi : i < 8) : Go.bits .or .u64 (a : Int) ((x * 2 ^ (8 * i) : Nat) : Int) = ((a + x * 2 ^ (8 * i) : Nat) : Int) := by
  have h4 : (2 : Nat) ^ 64 = 18446744073709551616 := by decide
  have h2 := shl_bound hx hi
  have h3 : (2 : Nat) ^ (8 * i) ≤ 2 ^ 64 := Nat.pow_le_pow_right (by decide) (by omega)
  rw [(bits_nat .u64 64 (by decide) (fun n h0 h1 => wu64 h0 (by omega)) a _ (by omega) (by omega)).2]
  congr 1
  rw [Nat.or_comm, Nat.mul_comm, ← Nat.two_pow_add_eq_or_of_lt ha, Nat.add_comm]
theorem wrap_u8_nat (n : Nat) : IntKind.u8.wrap (n : Int) = ((UInt8.ofNat n).toNat : Int) := by
  rw [IntKind.wrap_u8, UInt8.toNat_ofNat']; omega
theorem SlR.byte {W0 : World} {G : List HProp} {b o m i : Nat} {bs : List UInt8} {x : UInt8} (h : SlR W0 G 1 (some ⟨b, o, none⟩) m (bytesV bs)) (hx : bs[i]? = some x) : Cel W0 G ⟨b, o + i * 1, none⟩ (byteV x) := by
  rw [Nat.mul_one]; exact h.cel (bytesV_get hx)
theorem flat_zeros (n k : Nat) : (List.replicate n (Value.agg (List.replicate k (Value.int .u8 0)).toArray).cells.toList).flatten = bytesV (List.replicate (n * k) 0) := by
  show (List.replicate n (List.replicate k (Value.int .u8 0))).flatten = _
  rw [List.flatten_replicate_replicate]
  simp [bytesV, byteV]
theorem sl_eq {b o o' m m' c c' : Nat} (h1 : o = o') (h2 : m = m') (h3 : c = c') : Value.slice (some ⟨b, o, none⟩) m c = .slice (some ⟨b, o', none⟩) m' c' := by subst h1 h2 h3; rfl
abbrev PA := (Nat × Nat) × Nat
abbrev MO (m n : Nat) (bs : List UInt8) (p : PA) : List HProp :=
  [blk m [.slice (some ⟨p.1.1, p.1.2, none⟩) n p.2] 107, osl 152 256 (some ⟨p.1.1, p.1.2, none⟩) p.2 n (bytesV bs)]
/-- At block m lies a memory of n frames. -/
def M (m n : Nat) (bs : List UInt8) : HProp := fun h => ∃ p, (bs.length = n * 256 ∧ 1 ≤ n ∧ n ≤ 1024) ∧ Star (MO m n bs p) h
theorem m_open {m n : Nat} {bs : List UInt8} (y : Heaplet) (h : M m n bs y) : ∃ p, (bs.length = n * 256 ∧ 1 ≤ n ∧ n ≤ 1024) ∧ Star (MO m n bs p) y := h
theorem m_close {m n : Nat} {bs : List UInt8} {G : List HProp} (p : PA) (hl : bs.length = n * 256 ∧ 1 ≤ n ∧ n ≤ 1024) : Imp (MO m n bs p ++ G) (M m n bs :: G) :=
  Imp.trans star_close (Imp.head fun y hy => ⟨p, hl, hy⟩)
theorem m_facts {W0 : World} {G R : List HProp} {m n : Nat} {bs : List UInt8} (x : Ext G (M m n bs) R) (w : World) (hw : Sat W0 G w) : bs.length = n * 256 ∧ 1 ≤ n ∧ n ≤ 1024 := by
  obtain ⟨f, hf, p, h, _⟩ := Sat.ext x hw
  exact h
section
variable (W0 : World) (Fr : List HProp)
theorem get_spec {b o c : Nat} {bs : List UInt8} (hr : SlR W0 Fr 1 (some ⟨b, o, none⟩) bs.length (bytesV bs)) (hl : bs.length ≤ 8) : Ctr Try.prog W0 85 [.slice (some ⟨b, o, none⟩) bs.length c] Fr (fun _ : Unit => True) (fun _ => .int .u64 (leN bs)) (fun _ => Fr) := by
  refine Ctr.of_body Try.func85 rfl Try.ntmps85 rfl ?_
  refine CG.seq ?_
  refine CG.region ?_
  refine OG.yield (Yield.assign rfl) rfl ?_
  refine OG.nil ?_
  refine QG.then ?_
  refine CG.seq ?_
  refine CG.region ?_
  refine OG.yield (Yield.assign rfl) rfl ?_
  refine OG.nil ?_
  refine QG.then ?_
  refine CG.seq ?_
  refine CG.seq ?_
  refine CG.region ?_
  refine OG.yield (Yield.move rfl) rfl ?_
  refine OG.yield (Yield.len_slice Try.underlying73 rfl rfl) rfl ?_
  refine OG.yield (Yield.as (Yield.min2 rfl rfl) (v' := .int .i64 bs.length) (by congr 1; omega)) rfl ?_
  refine OG.yield (Yield.move rfl) rfl ?_
  refine OG.nil ?_
  refine QG.then ?_
  refine CG.block ?_
  refine CG.loop (fun i : Nat => i ≤ bs.length) (fun i => [(0, .slice (some ⟨b, o, none⟩) bs.length c), (3, .int .u64 (leN (bs.take i))), (7, .int .i64 bs.length), (8, .int .i64 i)]) (fun _ => Fr) (fun i => bs.length - i) 0 (Nat.zero_le _) (by repeat (first | exact Env.sub_nil _ | refine Env.sub_cons rfl ?_)) (Imp.refl _) ?_
  intro i hi
  refine CG.seq ?_
  refine CG.region ?_
  refine OG.yield (by first | exact Yield.as (Yield.lss rfl rfl) (bT (by omega)) | exact Yield.as (Yield.lss rfl rfl) (bF (by omega)) | exact Yield.lss rfl rfl) rfl ?_
  refine OG.nil ?_
  refine QG.then ?_
  refine CG.seq ?_
  refine CG.cond rfl (fun hc => ?_) (fun hc => ?_)
  · try replace hc := of_decide_eq_true hc
    have hi' : i < bs.length := by omega
    have hget : bs[i]? = some bs[i] := by simp [hi']
    generalize bs[i] = x at hget
    have hx := x.toNat_lt
    have hll := leN_lt (bs.take i)
    rw [List.length_take, Nat.min_eq_left (by omega)] at hll
    refine CG.skip ?_
    refine QG.then ?_
    refine CG.seq ?_
    refine CG.block ?_
    refine CG.seq ?_
    refine CG.region ?_
    refine OG.yield (Yield.move rfl) rfl ?_
    refine OG.yield (Yield.assign rfl) rfl ?_
    refine OG.nil ?_
    refine QG.then ?_
    refine CG.region ?_
    refine OG.yield (Yield.move rfl) rfl ?_
    refine OG.yield (Yield.move rfl) rfl ?_
    refine OG.yield (Yield.move rfl) rfl ?_
    refine OG.yield (Yield.index_slice Try.underlying73 ti5 rfl rfl (by omega) (by omega)) rfl ?_
    refine OG.yield (Yield.load (v := byteV x) ti5 rfl (SlR.byte hr hget)) rfl ?_
    refine OG.yield (Yield.conv (c := (x.toNat : Int)) Try.underlying29 rfl rfl (wu64 (by omega) (by omega))) rfl ?_
    refine OG.yield (Yield.move rfl) rfl ?_
    refine OG.yield (Yield.mul rfl rfl (w64 (by omega) (by omega))) rfl ?_
    refine OG.yield (Yield.shl (m := 8 * i) (c := ((x.toNat * 2 ^ (8 * i) : Nat) : Int)) rfl rfl (by omega) (by simp only [IntKind.bits]; omega) (by have := shl_bound hx (show i < 8 by omega); rw [show ((x.toNat : Int) * 2 ^ (8 * i)) = ((x.toNat * 2 ^ (8 * i) : Nat) : Int) by push_cast; rfl]; exact wu64 (by omega) (by omega))) rfl ?_
    refine OG.yield (Yield.bitop (c := ((leN (bs.take (i + 1)) : Nat) : Int)) rfl rfl rfl (by rw [leN_take hget]; exact or_join hll hx (by omega))) rfl ?_
    refine OG.yield (Yield.assign rfl) rfl ?_
    refine OG.nil ?_
    refine QG.block_normal ?_
    refine QG.then ?_
    refine CG.region ?_
    refine OG.yield (Yield.add rfl rfl (w64 (by omega) (by omega))) rfl ?_
    refine OG.yield (Yield.move rfl) rfl ?_
    refine OG.nil ?_
    exact QG.next (i + 1) (show i + 1 ≤ bs.length by omega) (show bs.length - (i + 1) < bs.length - i by omega) (by repeat (first | exact Env.sub_nil _ | refine Env.sub_cons rfl ?_)) (by repeat (first | exact Imp.refl _ | exact Imp.none _ | apply Imp.pull (by repeat (first | exact Ext.here | apply Ext.there)) | apply Imp.trans Imp.drop))
  · try replace hc := of_decide_eq_false hc
    refine CG.exit ?_
    refine QG.pass_exit ?_
    refine QG.pass_exit ?_
    refine QG.block_exit ?_
    refine QG.then ?_
    refine CG.seq ?_
    refine CG.region ?_
    refine OG.yield (Yield.move rfl) rfl ?_
    refine OG.yield (Yield.assign rfl) rfl ?_
    refine OG.nil ?_
    refine QG.then ?_
    refine CG.ret ?_
    have : i = bs.length := by omega
    subst this
    rw [List.take_length]
    exact QG.ret1 rfl rfl () trivial rfl (by repeat (first | exact Imp.refl _ | exact Imp.none _ | apply Imp.pull (by repeat (first | exact Ext.here | apply Ext.there)) | apply Imp.trans Imp.drop))
theorem put_spec {v s : Nat} (hs : s ≤ 8) (hv : v < 18446744073709551616) : Ctr Try.prog W0 53 [.int .u64 v, .int .i64 s] Fr (fun _ : Option Addr × Nat => True) (fun p => .slice p.1 (putB v s).length p.2) (fun p => oby 5 p.1 p.2 (putB v s) :: Fr) := by
  refine Ctr.of_body Try.func53 rfl Try.ntmps53 rfl ?_
  refine CG.seq ?_
  refine CG.region ?_
  refine OG.yield (Yield.assign rfl) rfl ?_
  refine OG.nil ?_
  refine QG.then ?_
  refine CG.seq ?_
  refine CG.region ?_
  refine OG.yield (Yield.assign rfl) rfl ?_
  refine OG.nil ?_
  refine QG.then ?_
  refine CG.seq ?_
  refine CG.seq ?_
  refine CG.region ?_
  refine OG.yield (Yield.move rfl) rfl ?_
  refine OG.yield (Yield.as (Yield.min2 rfl rfl) (v' := .int .i64 s) (by congr 1; omega)) rfl ?_
  refine OG.yield (Yield.move rfl) rfl ?_
  refine OG.nil ?_
  refine QG.then ?_
  refine CG.block ?_
  refine CG.loop (fun i : Nat × Option Addr × Nat => i.1 ≤ s) (fun i => [(0, .int .u64 v), (5, .slice i.2.1 (putB v i.1).length i.2.2), (8, .int .i64 s), (9, .int .i64 i.1)]) (fun i => oby 5 i.2.1 i.2.2 (putB v i.1) :: Fr) (fun i => s - i.1) (0, none, 0) (Nat.zero_le _) (by repeat (first | exact Env.sub_nil _ | refine Env.sub_cons rfl ?_)) (Imp.trans (oby_nil (E := 5)) (Imp.refl _)) ?_
  rintro ⟨i, a, c⟩ (hi : i ≤ s)
  have hpl := putB_len v i
  dsimp only
  refine CG.seq ?_
  refine CG.region ?_
  refine OG.yield (by first | exact Yield.as (Yield.lss rfl rfl) (bT (by omega)) | exact Yield.as (Yield.lss rfl rfl) (bF (by omega)) | exact Yield.lss rfl rfl) rfl ?_
  refine OG.nil ?_
  refine QG.then ?_
  refine CG.seq ?_
  refine CG.cond rfl (fun hc => ?_) (fun hc => ?_)
  · try replace hc := of_decide_eq_true hc
    refine CG.skip ?_
    refine QG.then ?_
    refine CG.seq ?_
    refine CG.block ?_
    refine CG.seq ?_
    refine CG.region ?_
    refine OG.yield (Yield.move rfl) rfl ?_
    refine OG.yield (Yield.assign rfl) rfl ?_
    refine OG.nil ?_
    refine QG.then ?_
    refine CG.region ?_
    refine OG.yield (Yield.move rfl) rfl ?_
    refine OG.yield (Yield.move rfl) rfl ?_
    refine OG.yield (Yield.move rfl) rfl ?_
    refine OG.yield (Yield.mul rfl rfl (w64 (by omega) (by omega))) rfl ?_
    refine OG.yield (Yield.shr (m := 8 * i) (c := ((v / 2 ^ (8 * i) : Nat) : Int)) rfl rfl (by omega) (by simp only [IntKind.bits]; omega) (by push_cast; rfl)) rfl ?_
    refine OG.yield (Yield.conv (c := ((UInt8.ofNat (v / 2 ^ (8 * i))).toNat : Int)) Try.underlying5 rfl rfl (wrap_u8_nat _)) rfl ?_
    refine OG.effd (Eff.lit1 Try.underlying73 ti5 rfl rfl rfl) rfl ?_
    rintro b18 -
    refine OG.effd (Eff.appendB (bs := putB v i) (ys := [UInt8.ofNat (v / 2 ^ (8 * i))]) rfl rfl rfl Try.underlying73 Try.underlying73 ti5 (by decide) (by repeat (first | exact Foc.here | apply Foc.there)) (by first | exact SlR.of_osl (by repeat (first | exact Ext.here | apply Ext.there)) | exact SlR.of_osl_eq (by repeat (first | exact Ext.here | apply Ext.there)) rfl rfl | exact SlR.of_osl_eq (by repeat (first | exact Ext.here | apply Ext.there)) rfl (by simp [bytesV, byteV]) | assumption | exact SlAt.old (by assumption) (by repeat (first | exact Ext.here | apply Ext.there)) | exact RdB.slR (by assumption)) (by simp only [List.length_cons, List.length_nil]; omega)) rfl ?_
    rintro ⟨a19, c19⟩ -
    rw [← putB_succ]
    refine OG.yield (Yield.assign rfl) rfl ?_
    refine OG.nil ?_
    refine QG.block_normal ?_
    refine QG.then ?_
    refine CG.region ?_
    refine OG.yield (Yield.add rfl rfl (w64 (by omega) (by omega))) rfl ?_
    refine OG.yield (Yield.move rfl) rfl ?_
    refine OG.nil ?_
    exact QG.next (i + 1, a19, c19) (show i + 1 ≤ s by omega) (show s - (i + 1) < s - i by omega) (by repeat (first | exact Env.sub_nil _ | refine Env.sub_cons rfl ?_)) (by repeat (first | exact Imp.refl _ | exact Imp.none _ | apply Imp.pull (by repeat (first | exact Ext.here | apply Ext.there)) | apply Imp.trans Imp.drop))
  · try replace hc := of_decide_eq_false hc
    refine CG.exit ?_
    refine QG.pass_exit ?_
    refine QG.pass_exit ?_
    refine QG.block_exit ?_
    refine QG.then ?_
    refine CG.seq ?_
    refine CG.region ?_
    refine OG.yield (Yield.move rfl) rfl ?_
    refine OG.yield (Yield.assign rfl) rfl ?_
    refine OG.nil ?_
    refine QG.then ?_
    refine CG.ret ?_
    have : i = s := by omega
    subst this
    exact QG.ret1 rfl rfl (a, c) trivial rfl (by repeat (first | exact Imp.refl _ | exact Imp.none _ | apply Imp.pull (by repeat (first | exact Ext.here | apply Ext.there)) | apply Imp.trans Imp.drop))
theorem new_spec {n : Nat} (h1 : 1 ≤ n) (h2 : n ≤ 1024) : Ctr Try.prog W0 10 [.int .i64 n] Fr (fun _ : Nat => True) (fun t => .tuple #[.pointer (some ⟨t, 0, none⟩), .int .i64 0]) (fun t => M t n (List.replicate (n * 256) 0) :: Fr) := by
  refine Ctr.of_body Try.func10 rfl Try.ntmps10 rfl ?_
  refine CG.seq ?_
  refine CG.region ?_
  refine OG.yield (Yield.assign rfl) rfl ?_
  refine OG.yield (Yield.assign rfl) rfl ?_
  refine OG.nil ?_
  refine QG.then ?_
  refine CG.seq ?_
  refine CG.seq ?_
  refine CG.region ?_
  refine OG.yield (Yield.move rfl) rfl ?_
  refine OG.yield (by first | exact Yield.as (Yield.lss rfl rfl) (bT (by omega)) | exact Yield.as (Yield.lss rfl rfl) (bF (by omega)) | exact Yield.lss rfl rfl) rfl ?_
  refine OG.yield (Yield.move rfl) rfl ?_
  refine OG.guard_yes rfl rfl rfl (by decide) ?_
  refine OG.yield (Yield.move rfl) rfl ?_
  refine OG.guard_yes rfl rfl rfl (by decide) ?_
  refine OG.yield (by first | exact Yield.as (Yield.gtr rfl rfl) (bT (by omega)) | exact Yield.as (Yield.gtr rfl rfl) (bF (by omega)) | exact Yield.gtr rfl rfl) rfl ?_
  refine OG.yield (by first | exact Yield.pick_t rfl rfl | exact Yield.pick_f rfl rfl | exact Yield.pick rfl (fun _ => rfl) (fun _ => rfl)) rfl ?_
  refine OG.nil ?_
  refine QG.then ?_
  refine CG.cond_f rfl ?_
  refine CG.skip ?_
  refine QG.then ?_
  refine CG.seq ?_
  refine CG.region ?_
  refine OG.yield (Yield.move rfl) rfl ?_
  refine OG.effd (Eff.makeSlice Try.underlying105 ti152 (by simp [Value.cells]) (by decide) rfl (by omega) (by omega) (by omega)) rfl ?_
  rintro b11 -
  rw [flat_zeros]
  refine OG.yield (Yield.build bu107 ti107 rfl (cells := [_]) rfl) rfl ?_
  refine OG.effd (Eff.box rfl) rfl ?_
  rintro b13 -
  refine OG.yield (Yield.assign rfl) rfl ?_
  refine OG.yield (Yield.assign rfl) rfl ?_
  refine OG.nil ?_
  refine QG.then ?_
  refine CG.ret ?_
  exact QG.ret2 rfl rfl rfl b13 trivial rfl (Imp.trans (by repeat (first | exact Imp.refl _ | exact Imp.none _ | apply Imp.pull (by repeat (first | exact Ext.here | apply Ext.there)) | apply Imp.trans Imp.drop)) (m_close (n := n) ((b11, 0), n) ⟨by simp, h1, h2⟩))
theorem new_fail {n : Int} (h : n < 1 ∨ 1024 < n) : Ctr Try.prog W0 10 [.int .i64 n] Fr (fun _ : Unit => True) (fun _ => .tuple #[.pointer none, .int .i64 2]) (fun _ => Fr) := by
  refine Ctr.of_body Try.func10 rfl Try.ntmps10 rfl ?_
  refine CG.seq ?_
  refine CG.region ?_
  refine OG.yield (Yield.assign rfl) rfl ?_
  refine OG.yield (Yield.assign rfl) rfl ?_
  refine OG.nil ?_
  refine QG.then ?_
  refine CG.seq ?_
  refine CG.seq ?_
  rcases (show n < 1 ∨ (¬ n < 1 ∧ 1024 < n) by omega) with hh | hh
  · skip
    refine CG.region ?_
    refine OG.yield (Yield.move rfl) rfl ?_
    refine OG.yield (by first | exact Yield.as (Yield.lss rfl rfl) (bT (by omega)) | exact Yield.as (Yield.lss rfl rfl) (bF (by omega)) | exact Yield.lss rfl rfl) rfl ?_
    refine OG.yield (Yield.move rfl) rfl ?_
    refine OG.guard_no rfl rfl rfl rfl rfl (by decide) (by decide) ?_
    refine OG.guard_no rfl rfl rfl rfl rfl (by decide) (by decide) ?_
    refine OG.yield (by first | exact Yield.pick_t rfl rfl | exact Yield.pick_f rfl rfl | exact Yield.pick rfl (fun _ => rfl) (fun _ => rfl)) rfl ?_
    refine OG.nil ?_
    refine QG.then ?_
    refine CG.cond_t rfl ?_
    refine CG.seq ?_
    refine CG.region ?_
    refine OG.yield (Yield.assign rfl) rfl ?_
    refine OG.yield (Yield.assign rfl) rfl ?_
    refine OG.nil ?_
    refine QG.then ?_
    refine CG.ret ?_
    refine QG.pass_ret ?_
    exact QG.ret2 rfl rfl rfl () trivial rfl (by repeat (first | exact Imp.refl _ | exact Imp.none _ | apply Imp.pull (by repeat (first | exact Ext.here | apply Ext.there)) | apply Imp.trans Imp.drop))
  · skip
    refine CG.region ?_
    refine OG.yield (Yield.move rfl) rfl ?_
    refine OG.yield (by first | exact Yield.as (Yield.lss rfl rfl) (bT (by omega)) | exact Yield.as (Yield.lss rfl rfl) (bF (by omega)) | exact Yield.lss rfl rfl) rfl ?_
    refine OG.yield (Yield.move rfl) rfl ?_
    refine OG.guard_yes rfl rfl rfl (by decide) ?_
    refine OG.yield (Yield.move rfl) rfl ?_
    refine OG.guard_yes rfl rfl rfl (by decide) ?_
    refine OG.yield (by first | exact Yield.as (Yield.gtr rfl rfl) (bT (by omega)) | exact Yield.as (Yield.gtr rfl rfl) (bF (by omega)) | exact Yield.gtr rfl rfl) rfl ?_
    refine OG.yield (by first | exact Yield.pick_t rfl rfl | exact Yield.pick_f rfl rfl | exact Yield.pick rfl (fun _ => rfl) (fun _ => rfl)) rfl ?_
    refine OG.nil ?_
    refine QG.then ?_
    refine CG.cond_t rfl ?_
    refine CG.seq ?_
    refine CG.region ?_
    refine OG.yield (Yield.assign rfl) rfl ?_
    refine OG.yield (Yield.assign rfl) rfl ?_
    refine OG.nil ?_
    refine QG.then ?_
    refine CG.ret ?_
    refine QG.pass_ret ?_
    exact QG.ret2 rfl rfl rfl () trivial rfl (by repeat (first | exact Imp.refl _ | exact Imp.none _ | apply Imp.pull (by repeat (first | exact Ext.here | apply Ext.there)) | apply Imp.trans Imp.drop))
theorem frames_spec {m n : Nat} {bs : List UInt8} : Ctr Try.prog W0 58 [.pointer (some ⟨m, 0, none⟩)] (M m n bs :: Fr) (fun _ : Unit => True) (fun _ => .int .i64 n) (fun _ => M m n bs :: Fr) := by
  refine Ctr.ex Ext.here m_open ?_
  rintro ⟨⟨b, o⟩, c⟩ hlen
  refine Ctr.imp star_open ?_
  dsimp only [MO]
  refine Ctr.of_body Try.func58 rfl Try.ntmps58 rfl ?_
  refine CG.seq ?_
  refine CG.region ?_
  refine OG.yield (Yield.assign rfl) rfl ?_
  refine OG.nil ?_
  refine QG.then ?_
  refine CG.seq ?_
  refine CG.region ?_
  refine OG.yield (Yield.move rfl) rfl ?_
  refine OG.yield (Yield.nilCheck rfl) rfl ?_
  refine OG.yield (Yield.fieldAddr fa107_0 rfl) rfl ?_
  refine OG.yield (Yield.load ti105 rfl (by first | exact Cel.of_blk (by repeat (first | exact Ext.here | apply Ext.there)) rfl | exact (hrow (by repeat (first | exact Ext.here | apply Ext.there))) _ _ rfl)) rfl ?_
  refine OG.yield (Yield.len_slice Try.underlying105 rfl rfl) rfl ?_
  refine OG.yield (Yield.assign rfl) rfl ?_
  refine OG.nil ?_
  refine QG.then ?_
  refine CG.ret ?_
  exact QG.ret1 rfl rfl () trivial rfl (Imp.trans (by repeat (first | exact Imp.refl _ | exact Imp.none _ | apply Imp.pull (by repeat (first | exact Ext.here | apply Ext.there)) | apply Imp.trans Imp.drop)) (m_close ((b, o), c) hlen))
theorem place_ok {m n a s : Nat} {bs : List UInt8} (p : PA) (hn : n ≤ 1024) (hs : s = 1 ∨ s = 2 ∨ s = 4 ∨ s = 8) (ha : a % s = 0) (hb : a + s ≤ n * 256) : Ctr Try.prog W0 52 [.pointer (some ⟨m, 0, none⟩), .int .u32 a, .int .i64 s] (MO m n bs p ++ Fr) (fun _ : Unit => True)
    (fun _ => .tuple #[.slice (some ⟨p.1.1, p.1.2 + a, none⟩) s (256 - a % 256), .int .i64 0]) (fun _ => MO m n bs p ++ Fr) := by
  obtain ⟨⟨b, o⟩, c⟩ := p
  dsimp only [MO, List.cons_append, List.nil_append]
  refine Ctr.of_body Try.func52 rfl Try.ntmps52 rfl ?_
  refine CG.seq ?_
  refine CG.region ?_
  refine OG.yield (Yield.assign rfl) rfl ?_
  refine OG.yield (Yield.assign rfl) rfl ?_
  refine OG.nil ?_
  refine QG.then ?_
  refine CG.seq ?_
  refine CG.block ?_
  refine CG.seq ?_
  rcases hs with rfl | rfl | rfl | rfl
  · skip
    refine CG.region ?_
    refine OG.yield (Yield.move rfl) rfl ?_
    refine OG.yield (by first | exact Yield.as (Yield.neq rfl rfl) (bT (by omega)) | exact Yield.as (Yield.neq rfl rfl) (bF (by omega)) | exact Yield.neq rfl rfl) rfl ?_
    refine OG.yield (Yield.move rfl) rfl ?_
    refine OG.guard_no rfl rfl rfl rfl rfl (by decide) (by decide) ?_
    refine OG.guard_no rfl rfl rfl rfl rfl (by decide) (by decide) ?_
    refine OG.yield (by first | exact Yield.pick_t rfl rfl | exact Yield.pick_f rfl rfl | exact Yield.pick rfl (fun _ => rfl) (fun _ => rfl)) rfl ?_
    refine OG.yield (Yield.move rfl) rfl ?_
    refine OG.guard_no rfl rfl rfl rfl rfl (by decide) (by decide) ?_
    refine OG.guard_no rfl rfl rfl rfl rfl (by decide) (by decide) ?_
    refine OG.yield (by first | exact Yield.pick_t rfl rfl | exact Yield.pick_f rfl rfl | exact Yield.pick rfl (fun _ => rfl) (fun _ => rfl)) rfl ?_
    refine OG.yield (Yield.move rfl) rfl ?_
    refine OG.guard_no rfl rfl rfl rfl rfl (by decide) (by decide) ?_
    refine OG.guard_no rfl rfl rfl rfl rfl (by decide) (by decide) ?_
    refine OG.yield (by first | exact Yield.pick_t rfl rfl | exact Yield.pick_f rfl rfl | exact Yield.pick rfl (fun _ => rfl) (fun _ => rfl)) rfl ?_
    refine OG.yield (Yield.assign rfl) rfl ?_
    refine OG.nil ?_
    refine QG.then ?_
    refine CG.cond_f rfl ?_
    refine CG.seq ?_
    refine CG.region ?_
    refine OG.yield (Yield.move rfl) rfl ?_
    refine OG.yield (Yield.move rfl) rfl ?_
    refine OG.yield (by first | exact Yield.conv Try.underlying32 rfl rfl (wu32 (by omega) (by omega)) | exact Yield.conv Try.underlying32 rfl rfl rfl) rfl ?_
    refine OG.yield (Yield.rem rfl rfl (by omega) (tmod_pos (by omega) (by omega))) rfl ?_
    refine OG.yield (by first | exact Yield.as (Yield.neq rfl rfl) (bT (by omega)) | exact Yield.as (Yield.neq rfl rfl) (bF (by omega)) | exact Yield.neq rfl rfl) rfl ?_
    refine OG.yield (Yield.assign rfl) rfl ?_
    refine OG.nil ?_
    refine QG.then ?_
    refine CG.cond_f rfl ?_
    refine CG.seq ?_
    refine CG.region ?_
    refine OG.yield (Yield.move rfl) rfl ?_
    refine OG.yield (by first | exact Yield.conv Try.underlying3 rfl rfl (w64 (by omega) (by omega)) | exact Yield.conv Try.underlying3 rfl rfl rfl) rfl ?_
    refine OG.yield (Yield.move rfl) rfl ?_
    refine OG.yield (Yield.add rfl rfl (w64 (by omega) (by omega))) rfl ?_
    refine OG.yield (Yield.move rfl) rfl ?_
    refine OG.yield (Yield.nilCheck rfl) rfl ?_
    refine OG.yield (Yield.fieldAddr fa107_0 rfl) rfl ?_
    refine OG.yield (Yield.load ti105 rfl (by first | exact Cel.of_blk (by repeat (first | exact Ext.here | apply Ext.there)) rfl | exact (hrow (by repeat (first | exact Ext.here | apply Ext.there))) _ _ rfl)) rfl ?_
    refine OG.yield (Yield.len_slice Try.underlying105 rfl rfl) rfl ?_
    refine OG.yield (Yield.mul rfl rfl (w64 (by omega) (by omega))) rfl ?_
    refine OG.yield (by first | exact Yield.as (Yield.gtr rfl rfl) (bT (by omega)) | exact Yield.as (Yield.gtr rfl rfl) (bF (by omega)) | exact Yield.gtr rfl rfl) rfl ?_
    refine OG.yield (Yield.assign rfl) rfl ?_
    refine OG.nil ?_
    refine QG.then ?_
    refine CG.cond_f rfl ?_
    refine CG.skip ?_
    refine QG.block_normal ?_
    refine QG.then ?_
    refine CG.seq ?_
    refine CG.region ?_
    refine OG.yield (Yield.move rfl) rfl ?_
    refine OG.yield (by first | exact Yield.conv Try.underlying3 rfl rfl (w64 (by omega) (by omega)) | exact Yield.conv Try.underlying3 rfl rfl rfl) rfl ?_
    refine OG.yield (Yield.rem rfl rfl (by omega) (tmod_pos (by omega) (by omega))) rfl ?_
    refine OG.yield (Yield.assign rfl) rfl ?_
    refine OG.nil ?_
    refine QG.then ?_
    refine CG.seq ?_
    refine CG.region ?_
    refine OG.yield (Yield.move rfl) rfl ?_
    refine OG.yield (Yield.nilCheck rfl) rfl ?_
    refine OG.yield (Yield.fieldAddr fa107_0 rfl) rfl ?_
    refine OG.yield (Yield.load ti105 rfl (by first | exact Cel.of_blk (by repeat (first | exact Ext.here | apply Ext.there)) rfl | exact (hrow (by repeat (first | exact Ext.here | apply Ext.there))) _ _ rfl)) rfl ?_
    refine OG.yield (Yield.move rfl) rfl ?_
    refine OG.yield (Yield.quo (c := ((a / 256 : Nat) : Int)) rfl rfl (by decide) (quo_nat32 (b := 256) (by decide) (by omega))) rfl ?_
    refine OG.yield (Yield.index_slice Try.underlying105 ti152 rfl rfl (by omega) (by omega)) rfl ?_
    refine OG.yield (Yield.move rfl) rfl ?_
    refine OG.yield (Yield.move rfl) rfl ?_
    refine OG.yield (Yield.move rfl) rfl ?_
    refine OG.yield (Yield.add rfl rfl (w64 (by omega) (by omega))) rfl ?_
    refine OG.yield (Yield.as (Yield.slice_arr Try.underlying152 ti5 rfl (Bound.some rfl) (Bound.some rfl) (by omega) (by omega) (by omega) (by omega)) (v' := .slice (some ⟨b, o + a, none⟩) 1 (256 - a % 256)) (sl_eq (by omega) (by omega) (by omega))) rfl ?_
    refine OG.yield (Yield.assign rfl) rfl ?_
    refine OG.yield (Yield.assign rfl) rfl ?_
    refine OG.nil ?_
    refine QG.then ?_
    refine CG.ret ?_
    exact QG.ret2 rfl rfl rfl () trivial rfl (by repeat (first | exact Imp.refl _ | exact Imp.none _ | apply Imp.pull (by repeat (first | exact Ext.here | apply Ext.there)) | apply Imp.trans Imp.drop))
  · skip
    refine CG.region ?_
    refine OG.yield (Yield.move rfl) rfl ?_
    refine OG.yield (by first | exact Yield.as (Yield.neq rfl rfl) (bT (by omega)) | exact Yield.as (Yield.neq rfl rfl) (bF (by omega)) | exact Yield.neq rfl rfl) rfl ?_
    refine OG.yield (Yield.move rfl) rfl ?_
    refine OG.guard_yes rfl rfl rfl (by decide) ?_
    refine OG.yield (Yield.move rfl) rfl ?_
    refine OG.guard_yes rfl rfl rfl (by decide) ?_
    refine OG.yield (by first | exact Yield.as (Yield.neq rfl rfl) (bT (by omega)) | exact Yield.as (Yield.neq rfl rfl) (bF (by omega)) | exact Yield.neq rfl rfl) rfl ?_
    refine OG.yield (by first | exact Yield.pick_t rfl rfl | exact Yield.pick_f rfl rfl | exact Yield.pick rfl (fun _ => rfl) (fun _ => rfl)) rfl ?_
    refine OG.yield (Yield.move rfl) rfl ?_
    refine OG.guard_no rfl rfl rfl rfl rfl (by decide) (by decide) ?_
    refine OG.guard_no rfl rfl rfl rfl rfl (by decide) (by decide) ?_
    refine OG.yield (by first | exact Yield.pick_t rfl rfl | exact Yield.pick_f rfl rfl | exact Yield.pick rfl (fun _ => rfl) (fun _ => rfl)) rfl ?_
    refine OG.yield (Yield.move rfl) rfl ?_
    refine OG.guard_no rfl rfl rfl rfl rfl (by decide) (by decide) ?_
    refine OG.guard_no rfl rfl rfl rfl rfl (by decide) (by decide) ?_
    refine OG.yield (by first | exact Yield.pick_t rfl rfl | exact Yield.pick_f rfl rfl | exact Yield.pick rfl (fun _ => rfl) (fun _ => rfl)) rfl ?_
    refine OG.yield (Yield.assign rfl) rfl ?_
    refine OG.nil ?_
    refine QG.then ?_
    refine CG.cond_f rfl ?_
    refine CG.seq ?_
    refine CG.region ?_
    refine OG.yield (Yield.move rfl) rfl ?_
    refine OG.yield (Yield.move rfl) rfl ?_
    refine OG.yield (by first | exact Yield.conv Try.underlying32 rfl rfl (wu32 (by omega) (by omega)) | exact Yield.conv Try.underlying32 rfl rfl rfl) rfl ?_
    refine OG.yield (Yield.rem rfl rfl (by omega) (tmod_pos (by omega) (by omega))) rfl ?_
    refine OG.yield (by first | exact Yield.as (Yield.neq rfl rfl) (bT (by omega)) | exact Yield.as (Yield.neq rfl rfl) (bF (by omega)) | exact Yield.neq rfl rfl) rfl ?_
    refine OG.yield (Yield.assign rfl) rfl ?_
    refine OG.nil ?_
    refine QG.then ?_
    refine CG.cond_f rfl ?_
    refine CG.seq ?_
    refine CG.region ?_
    refine OG.yield (Yield.move rfl) rfl ?_
    refine OG.yield (by first | exact Yield.conv Try.underlying3 rfl rfl (w64 (by omega) (by omega)) | exact Yield.conv Try.underlying3 rfl rfl rfl) rfl ?_
    refine OG.yield (Yield.move rfl) rfl ?_
    refine OG.yield (Yield.add rfl rfl (w64 (by omega) (by omega))) rfl ?_
    refine OG.yield (Yield.move rfl) rfl ?_
    refine OG.yield (Yield.nilCheck rfl) rfl ?_
    refine OG.yield (Yield.fieldAddr fa107_0 rfl) rfl ?_
    refine OG.yield (Yield.load ti105 rfl (by first | exact Cel.of_blk (by repeat (first | exact Ext.here | apply Ext.there)) rfl | exact (hrow (by repeat (first | exact Ext.here | apply Ext.there))) _ _ rfl)) rfl ?_
    refine OG.yield (Yield.len_slice Try.underlying105 rfl rfl) rfl ?_
    refine OG.yield (Yield.mul rfl rfl (w64 (by omega) (by omega))) rfl ?_
    refine OG.yield (by first | exact Yield.as (Yield.gtr rfl rfl) (bT (by omega)) | exact Yield.as (Yield.gtr rfl rfl) (bF (by omega)) | exact Yield.gtr rfl rfl) rfl ?_
    refine OG.yield (Yield.assign rfl) rfl ?_
    refine OG.nil ?_
    refine QG.then ?_
    refine CG.cond_f rfl ?_
    refine CG.skip ?_
    refine QG.block_normal ?_
    refine QG.then ?_
    refine CG.seq ?_
    refine CG.region ?_
    refine OG.yield (Yield.move rfl) rfl ?_
    refine OG.yield (by first | exact Yield.conv Try.underlying3 rfl rfl (w64 (by omega) (by omega)) | exact Yield.conv Try.underlying3 rfl rfl rfl) rfl ?_
    refine OG.yield (Yield.rem rfl rfl (by omega) (tmod_pos (by omega) (by omega))) rfl ?_
    refine OG.yield (Yield.assign rfl) rfl ?_
    refine OG.nil ?_
    refine QG.then ?_
    refine CG.seq ?_
    refine CG.region ?_
    refine OG.yield (Yield.move rfl) rfl ?_
    refine OG.yield (Yield.nilCheck rfl) rfl ?_
    refine OG.yield (Yield.fieldAddr fa107_0 rfl) rfl ?_
    refine OG.yield (Yield.load ti105 rfl (by first | exact Cel.of_blk (by repeat (first | exact Ext.here | apply Ext.there)) rfl | exact (hrow (by repeat (first | exact Ext.here | apply Ext.there))) _ _ rfl)) rfl ?_
    refine OG.yield (Yield.move rfl) rfl ?_
    refine OG.yield (Yield.quo (c := ((a / 256 : Nat) : Int)) rfl rfl (by decide) (quo_nat32 (b := 256) (by decide) (by omega))) rfl ?_
    refine OG.yield (Yield.index_slice Try.underlying105 ti152 rfl rfl (by omega) (by omega)) rfl ?_
    refine OG.yield (Yield.move rfl) rfl ?_
    refine OG.yield (Yield.move rfl) rfl ?_
    refine OG.yield (Yield.move rfl) rfl ?_
    refine OG.yield (Yield.add rfl rfl (w64 (by omega) (by omega))) rfl ?_
    refine OG.yield (Yield.as (Yield.slice_arr Try.underlying152 ti5 rfl (Bound.some rfl) (Bound.some rfl) (by omega) (by omega) (by omega) (by omega)) (v' := .slice (some ⟨b, o + a, none⟩) 2 (256 - a % 256)) (sl_eq (by omega) (by omega) (by omega))) rfl ?_
    refine OG.yield (Yield.assign rfl) rfl ?_
    refine OG.yield (Yield.assign rfl) rfl ?_
    refine OG.nil ?_
    refine QG.then ?_
    refine CG.ret ?_
    exact QG.ret2 rfl rfl rfl () trivial rfl (by repeat (first | exact Imp.refl _ | exact Imp.none _ | apply Imp.pull (by repeat (first | exact Ext.here | apply Ext.there)) | apply Imp.trans Imp.drop))
  · skip
    refine CG.region ?_
    refine OG.yield (Yield.move rfl) rfl ?_
    refine OG.yield (by first | exact Yield.as (Yield.neq rfl rfl) (bT (by omega)) | exact Yield.as (Yield.neq rfl rfl) (bF (by omega)) | exact Yield.neq rfl rfl) rfl ?_
    refine OG.yield (Yield.move rfl) rfl ?_
    refine OG.guard_yes rfl rfl rfl (by decide) ?_
    refine OG.yield (Yield.move rfl) rfl ?_
    refine OG.guard_yes rfl rfl rfl (by decide) ?_
    refine OG.yield (by first | exact Yield.as (Yield.neq rfl rfl) (bT (by omega)) | exact Yield.as (Yield.neq rfl rfl) (bF (by omega)) | exact Yield.neq rfl rfl) rfl ?_
    refine OG.yield (by first | exact Yield.pick_t rfl rfl | exact Yield.pick_f rfl rfl | exact Yield.pick rfl (fun _ => rfl) (fun _ => rfl)) rfl ?_
    refine OG.yield (Yield.move rfl) rfl ?_
    refine OG.guard_yes rfl rfl rfl (by decide) ?_
    refine OG.yield (Yield.move rfl) rfl ?_
    refine OG.guard_yes rfl rfl rfl (by decide) ?_
    refine OG.yield (by first | exact Yield.as (Yield.neq rfl rfl) (bT (by omega)) | exact Yield.as (Yield.neq rfl rfl) (bF (by omega)) | exact Yield.neq rfl rfl) rfl ?_
    refine OG.yield (by first | exact Yield.pick_t rfl rfl | exact Yield.pick_f rfl rfl | exact Yield.pick rfl (fun _ => rfl) (fun _ => rfl)) rfl ?_
    refine OG.yield (Yield.move rfl) rfl ?_
    refine OG.guard_no rfl rfl rfl rfl rfl (by decide) (by decide) ?_
    refine OG.guard_no rfl rfl rfl rfl rfl (by decide) (by decide) ?_
    refine OG.yield (by first | exact Yield.pick_t rfl rfl | exact Yield.pick_f rfl rfl | exact Yield.pick rfl (fun _ => rfl) (fun _ => rfl)) rfl ?_
    refine OG.yield (Yield.assign rfl) rfl ?_
    refine OG.nil ?_
    refine QG.then ?_
    refine CG.cond_f rfl ?_
    refine CG.seq ?_
    refine CG.region ?_
    refine OG.yield (Yield.move rfl) rfl ?_
    refine OG.yield (Yield.move rfl) rfl ?_
    refine OG.yield (by first | exact Yield.conv Try.underlying32 rfl rfl (wu32 (by omega) (by omega)) | exact Yield.conv Try.underlying32 rfl rfl rfl) rfl ?_
    refine OG.yield (Yield.rem rfl rfl (by omega) (tmod_pos (by omega) (by omega))) rfl ?_
    refine OG.yield (by first | exact Yield.as (Yield.neq rfl rfl) (bT (by omega)) | exact Yield.as (Yield.neq rfl rfl) (bF (by omega)) | exact Yield.neq rfl rfl) rfl ?_
    refine OG.yield (Yield.assign rfl) rfl ?_
    refine OG.nil ?_
    refine QG.then ?_
    refine CG.cond_f rfl ?_
    refine CG.seq ?_
    refine CG.region ?_
    refine OG.yield (Yield.move rfl) rfl ?_
    refine OG.yield (by first | exact Yield.conv Try.underlying3 rfl rfl (w64 (by omega) (by omega)) | exact Yield.conv Try.underlying3 rfl rfl rfl) rfl ?_
    refine OG.yield (Yield.move rfl) rfl ?_
    refine OG.yield (Yield.add rfl rfl (w64 (by omega) (by omega))) rfl ?_
    refine OG.yield (Yield.move rfl) rfl ?_
    refine OG.yield (Yield.nilCheck rfl) rfl ?_
    refine OG.yield (Yield.fieldAddr fa107_0 rfl) rfl ?_
    refine OG.yield (Yield.load ti105 rfl (by first | exact Cel.of_blk (by repeat (first | exact Ext.here | apply Ext.there)) rfl | exact (hrow (by repeat (first | exact Ext.here | apply Ext.there))) _ _ rfl)) rfl ?_
    refine OG.yield (Yield.len_slice Try.underlying105 rfl rfl) rfl ?_
    refine OG.yield (Yield.mul rfl rfl (w64 (by omega) (by omega))) rfl ?_
    refine OG.yield (by first | exact Yield.as (Yield.gtr rfl rfl) (bT (by omega)) | exact Yield.as (Yield.gtr rfl rfl) (bF (by omega)) | exact Yield.gtr rfl rfl) rfl ?_
    refine OG.yield (Yield.assign rfl) rfl ?_
    refine OG.nil ?_
    refine QG.then ?_
    refine CG.cond_f rfl ?_
    refine CG.skip ?_
    refine QG.block_normal ?_
    refine QG.then ?_
    refine CG.seq ?_
    refine CG.region ?_
    refine OG.yield (Yield.move rfl) rfl ?_
    refine OG.yield (by first | exact Yield.conv Try.underlying3 rfl rfl (w64 (by omega) (by omega)) | exact Yield.conv Try.underlying3 rfl rfl rfl) rfl ?_
    refine OG.yield (Yield.rem rfl rfl (by omega) (tmod_pos (by omega) (by omega))) rfl ?_
    refine OG.yield (Yield.assign rfl) rfl ?_
    refine OG.nil ?_
    refine QG.then ?_
    refine CG.seq ?_
    refine CG.region ?_
    refine OG.yield (Yield.move rfl) rfl ?_
    refine OG.yield (Yield.nilCheck rfl) rfl ?_
    refine OG.yield (Yield.fieldAddr fa107_0 rfl) rfl ?_
    refine OG.yield (Yield.load ti105 rfl (by first | exact Cel.of_blk (by repeat (first | exact Ext.here | apply Ext.there)) rfl | exact (hrow (by repeat (first | exact Ext.here | apply Ext.there))) _ _ rfl)) rfl ?_
    refine OG.yield (Yield.move rfl) rfl ?_
    refine OG.yield (Yield.quo (c := ((a / 256 : Nat) : Int)) rfl rfl (by decide) (quo_nat32 (b := 256) (by decide) (by omega))) rfl ?_
    refine OG.yield (Yield.index_slice Try.underlying105 ti152 rfl rfl (by omega) (by omega)) rfl ?_
    refine OG.yield (Yield.move rfl) rfl ?_
    refine OG.yield (Yield.move rfl) rfl ?_
    refine OG.yield (Yield.move rfl) rfl ?_
    refine OG.yield (Yield.add rfl rfl (w64 (by omega) (by omega))) rfl ?_
    refine OG.yield (Yield.as (Yield.slice_arr Try.underlying152 ti5 rfl (Bound.some rfl) (Bound.some rfl) (by omega) (by omega) (by omega) (by omega)) (v' := .slice (some ⟨b, o + a, none⟩) 4 (256 - a % 256)) (sl_eq (by omega) (by omega) (by omega))) rfl ?_
    refine OG.yield (Yield.assign rfl) rfl ?_
    refine OG.yield (Yield.assign rfl) rfl ?_
    refine OG.nil ?_
    refine QG.then ?_
    refine CG.ret ?_
    exact QG.ret2 rfl rfl rfl () trivial rfl (by repeat (first | exact Imp.refl _ | exact Imp.none _ | apply Imp.pull (by repeat (first | exact Ext.here | apply Ext.there)) | apply Imp.trans Imp.drop))
  · skip
    refine CG.region ?_
    refine OG.yield (Yield.move rfl) rfl ?_
    refine OG.yield (by first | exact Yield.as (Yield.neq rfl rfl) (bT (by omega)) | exact Yield.as (Yield.neq rfl rfl) (bF (by omega)) | exact Yield.neq rfl rfl) rfl ?_
    refine OG.yield (Yield.move rfl) rfl ?_
    refine OG.guard_yes rfl rfl rfl (by decide) ?_
    refine OG.yield (Yield.move rfl) rfl ?_
    refine OG.guard_yes rfl rfl rfl (by decide) ?_
    refine OG.yield (by first | exact Yield.as (Yield.neq rfl rfl) (bT (by omega)) | exact Yield.as (Yield.neq rfl rfl) (bF (by omega)) | exact Yield.neq rfl rfl) rfl ?_
    refine OG.yield (by first | exact Yield.pick_t rfl rfl | exact Yield.pick_f rfl rfl | exact Yield.pick rfl (fun _ => rfl) (fun _ => rfl)) rfl ?_
    refine OG.yield (Yield.move rfl) rfl ?_
    refine OG.guard_yes rfl rfl rfl (by decide) ?_
    refine OG.yield (Yield.move rfl) rfl ?_
    refine OG.guard_yes rfl rfl rfl (by decide) ?_
    refine OG.yield (by first | exact Yield.as (Yield.neq rfl rfl) (bT (by omega)) | exact Yield.as (Yield.neq rfl rfl) (bF (by omega)) | exact Yield.neq rfl rfl) rfl ?_
    refine OG.yield (by first | exact Yield.pick_t rfl rfl | exact Yield.pick_f rfl rfl | exact Yield.pick rfl (fun _ => rfl) (fun _ => rfl)) rfl ?_
    refine OG.yield (Yield.move rfl) rfl ?_
    refine OG.guard_yes rfl rfl rfl (by decide) ?_
    refine OG.yield (Yield.move rfl) rfl ?_
    refine OG.guard_yes rfl rfl rfl (by decide) ?_
    refine OG.yield (by first | exact Yield.as (Yield.neq rfl rfl) (bT (by omega)) | exact Yield.as (Yield.neq rfl rfl) (bF (by omega)) | exact Yield.neq rfl rfl) rfl ?_
    refine OG.yield (by first | exact Yield.pick_t rfl rfl | exact Yield.pick_f rfl rfl | exact Yield.pick rfl (fun _ => rfl) (fun _ => rfl)) rfl ?_
    refine OG.yield (Yield.assign rfl) rfl ?_
    refine OG.nil ?_
    refine QG.then ?_
    refine CG.cond_f rfl ?_
    refine CG.seq ?_
    refine CG.region ?_
    refine OG.yield (Yield.move rfl) rfl ?_
    refine OG.yield (Yield.move rfl) rfl ?_
    refine OG.yield (by first | exact Yield.conv Try.underlying32 rfl rfl (wu32 (by omega) (by omega)) | exact Yield.conv Try.underlying32 rfl rfl rfl) rfl ?_
    refine OG.yield (Yield.rem rfl rfl (by omega) (tmod_pos (by omega) (by omega))) rfl ?_
    refine OG.yield (by first | exact Yield.as (Yield.neq rfl rfl) (bT (by omega)) | exact Yield.as (Yield.neq rfl rfl) (bF (by omega)) | exact Yield.neq rfl rfl) rfl ?_
    refine OG.yield (Yield.assign rfl) rfl ?_
    refine OG.nil ?_
    refine QG.then ?_
    refine CG.cond_f rfl ?_
    refine CG.seq ?_
    refine CG.region ?_
    refine OG.yield (Yield.move rfl) rfl ?_
    refine OG.yield (by first | exact Yield.conv Try.underlying3 rfl rfl (w64 (by omega) (by omega)) | exact Yield.conv Try.underlying3 rfl rfl rfl) rfl ?_
    refine OG.yield (Yield.move rfl) rfl ?_
    refine OG.yield (Yield.add rfl rfl (w64 (by omega) (by omega))) rfl ?_
    refine OG.yield (Yield.move rfl) rfl ?_
    refine OG.yield (Yield.nilCheck rfl) rfl ?_
    refine OG.yield (Yield.fieldAddr fa107_0 rfl) rfl ?_
    refine OG.yield (Yield.load ti105 rfl (by first | exact Cel.of_blk (by repeat (first | exact Ext.here | apply Ext.there)) rfl | exact (hrow (by repeat (first | exact Ext.here | apply Ext.there))) _ _ rfl)) rfl ?_
    refine OG.yield (Yield.len_slice Try.underlying105 rfl rfl) rfl ?_
    refine OG.yield (Yield.mul rfl rfl (w64 (by omega) (by omega))) rfl ?_
    refine OG.yield (by first | exact Yield.as (Yield.gtr rfl rfl) (bT (by omega)) | exact Yield.as (Yield.gtr rfl rfl) (bF (by omega)) | exact Yield.gtr rfl rfl) rfl ?_
    refine OG.yield (Yield.assign rfl) rfl ?_
    refine OG.nil ?_
    refine QG.then ?_
    refine CG.cond_f rfl ?_
    refine CG.skip ?_
    refine QG.block_normal ?_
    refine QG.then ?_
    refine CG.seq ?_
    refine CG.region ?_
    refine OG.yield (Yield.move rfl) rfl ?_
    refine OG.yield (by first | exact Yield.conv Try.underlying3 rfl rfl (w64 (by omega) (by omega)) | exact Yield.conv Try.underlying3 rfl rfl rfl) rfl ?_
    refine OG.yield (Yield.rem rfl rfl (by omega) (tmod_pos (by omega) (by omega))) rfl ?_
    refine OG.yield (Yield.assign rfl) rfl ?_
    refine OG.nil ?_
    refine QG.then ?_
    refine CG.seq ?_
    refine CG.region ?_
    refine OG.yield (Yield.move rfl) rfl ?_
    refine OG.yield (Yield.nilCheck rfl) rfl ?_
    refine OG.yield (Yield.fieldAddr fa107_0 rfl) rfl ?_
    refine OG.yield (Yield.load ti105 rfl (by first | exact Cel.of_blk (by repeat (first | exact Ext.here | apply Ext.there)) rfl | exact (hrow (by repeat (first | exact Ext.here | apply Ext.there))) _ _ rfl)) rfl ?_
    refine OG.yield (Yield.move rfl) rfl ?_
    refine OG.yield (Yield.quo (c := ((a / 256 : Nat) : Int)) rfl rfl (by decide) (quo_nat32 (b := 256) (by decide) (by omega))) rfl ?_
    refine OG.yield (Yield.index_slice Try.underlying105 ti152 rfl rfl (by omega) (by omega)) rfl ?_
    refine OG.yield (Yield.move rfl) rfl ?_
    refine OG.yield (Yield.move rfl) rfl ?_
    refine OG.yield (Yield.move rfl) rfl ?_
    refine OG.yield (Yield.add rfl rfl (w64 (by omega) (by omega))) rfl ?_
    refine OG.yield (Yield.as (Yield.slice_arr Try.underlying152 ti5 rfl (Bound.some rfl) (Bound.some rfl) (by omega) (by omega) (by omega) (by omega)) (v' := .slice (some ⟨b, o + a, none⟩) 8 (256 - a % 256)) (sl_eq (by omega) (by omega) (by omega))) rfl ?_
    refine OG.yield (Yield.assign rfl) rfl ?_
    refine OG.yield (Yield.assign rfl) rfl ?_
    refine OG.nil ?_
    refine QG.then ?_
    refine CG.ret ?_
    exact QG.ret2 rfl rfl rfl () trivial rfl (by repeat (first | exact Imp.refl _ | exact Imp.none _ | apply Imp.pull (by repeat (first | exact Ext.here | apply Ext.there)) | apply Imp.trans Imp.drop))
theorem place_bad {m n a : Nat} {s : Int} {bs : List UInt8} (p : PA) (hn : n ≤ 1024) (ha : a < 4294967296) (he : merr n a s ≠ 0) : Ctr Try.prog W0 52 [.pointer (some ⟨m, 0, none⟩), .int .u32 a, .int .i64 s] (MO m n bs p ++ Fr) (fun _ : Unit => True)
    (fun _ => .tuple #[.slice none 0 0, .int .i64 (merr n a s)]) (fun _ => MO m n bs p ++ Fr) := by
  obtain ⟨⟨b, o⟩, c⟩ := p
  dsimp only [MO, List.cons_append, List.nil_append]
  refine Ctr.of_body Try.func52 rfl Try.ntmps52 rfl ?_
  refine CG.seq ?_
  refine CG.region ?_
  refine OG.yield (Yield.assign rfl) rfl ?_
  refine OG.yield (Yield.assign rfl) rfl ?_
  refine OG.nil ?_
  refine QG.then ?_
  refine CG.seq ?_
  refine CG.block ?_
  refine CG.seq ?_
  rcases (show (s ≠ 1 ∧ s ≠ 2 ∧ s ≠ 4 ∧ s ≠ 8) ∨ s = 1 ∨ s = 2 ∨ s = 4 ∨ s = 8 by omega) with hs | rfl | rfl | rfl | rfl
  · skip
    rw [show merr n a s = 5 by unfold merr; rw [if_pos hs]]
    refine CG.region ?_
    refine OG.yield (Yield.move rfl) rfl ?_
    refine OG.yield (by first | exact Yield.as (Yield.neq rfl rfl) (bT (by omega)) | exact Yield.as (Yield.neq rfl rfl) (bF (by omega)) | exact Yield.neq rfl rfl) rfl ?_
    refine OG.yield (Yield.move rfl) rfl ?_
    refine OG.guard_yes rfl rfl rfl (by decide) ?_
    refine OG.yield (Yield.move rfl) rfl ?_
    refine OG.guard_yes rfl rfl rfl (by decide) ?_
    refine OG.yield (by first | exact Yield.as (Yield.neq rfl rfl) (bT (by omega)) | exact Yield.as (Yield.neq rfl rfl) (bF (by omega)) | exact Yield.neq rfl rfl) rfl ?_
    refine OG.yield (by first | exact Yield.pick_t rfl rfl | exact Yield.pick_f rfl rfl | exact Yield.pick rfl (fun _ => rfl) (fun _ => rfl)) rfl ?_
    refine OG.yield (Yield.move rfl) rfl ?_
    refine OG.guard_yes rfl rfl rfl (by decide) ?_
    refine OG.yield (Yield.move rfl) rfl ?_
    refine OG.guard_yes rfl rfl rfl (by decide) ?_
    refine OG.yield (by first | exact Yield.as (Yield.neq rfl rfl) (bT (by omega)) | exact Yield.as (Yield.neq rfl rfl) (bF (by omega)) | exact Yield.neq rfl rfl) rfl ?_
    refine OG.yield (by first | exact Yield.pick_t rfl rfl | exact Yield.pick_f rfl rfl | exact Yield.pick rfl (fun _ => rfl) (fun _ => rfl)) rfl ?_
    refine OG.yield (Yield.move rfl) rfl ?_
    refine OG.guard_yes rfl rfl rfl (by decide) ?_
    refine OG.yield (Yield.move rfl) rfl ?_
    refine OG.guard_yes rfl rfl rfl (by decide) ?_
    refine OG.yield (by first | exact Yield.as (Yield.neq rfl rfl) (bT (by omega)) | exact Yield.as (Yield.neq rfl rfl) (bF (by omega)) | exact Yield.neq rfl rfl) rfl ?_
    refine OG.yield (by first | exact Yield.pick_t rfl rfl | exact Yield.pick_f rfl rfl | exact Yield.pick rfl (fun _ => rfl) (fun _ => rfl)) rfl ?_
    refine OG.yield (Yield.assign rfl) rfl ?_
    refine OG.nil ?_
    refine QG.then ?_
    refine CG.cond_t rfl ?_
    refine CG.seq ?_
    refine CG.region ?_
    refine OG.yield (Yield.assign rfl) rfl ?_
    refine OG.yield (Yield.assign rfl) rfl ?_
    refine OG.nil ?_
    refine QG.then ?_
    refine CG.ret ?_
    refine QG.block_ret ?_
    refine QG.pass_ret ?_
    refine QG.ret2 rfl rfl rfl () trivial ?_ (by repeat (first | exact Imp.refl _ | exact Imp.none _ | apply Imp.pull (by repeat (first | exact Ext.here | apply Ext.there)) | apply Imp.trans Imp.drop))
    first
      | rfl
      | (congr 4; unfold merr; rw [if_neg (by omega), if_pos (by omega)]; done)
      | (congr 4; unfold merr; rw [if_neg (by omega), if_neg (by omega), if_pos (by omega)]; done)
  · skip
    skip
    refine CG.region ?_
    refine OG.yield (Yield.move rfl) rfl ?_
    refine OG.yield (by first | exact Yield.as (Yield.neq rfl rfl) (bT (by omega)) | exact Yield.as (Yield.neq rfl rfl) (bF (by omega)) | exact Yield.neq rfl rfl) rfl ?_
    refine OG.yield (Yield.move rfl) rfl ?_
    refine OG.guard_no rfl rfl rfl rfl rfl (by decide) (by decide) ?_
    refine OG.guard_no rfl rfl rfl rfl rfl (by decide) (by decide) ?_
    refine OG.yield (by first | exact Yield.pick_t rfl rfl | exact Yield.pick_f rfl rfl | exact Yield.pick rfl (fun _ => rfl) (fun _ => rfl)) rfl ?_
    refine OG.yield (Yield.move rfl) rfl ?_
    refine OG.guard_no rfl rfl rfl rfl rfl (by decide) (by decide) ?_
    refine OG.guard_no rfl rfl rfl rfl rfl (by decide) (by decide) ?_
    refine OG.yield (by first | exact Yield.pick_t rfl rfl | exact Yield.pick_f rfl rfl | exact Yield.pick rfl (fun _ => rfl) (fun _ => rfl)) rfl ?_
    refine OG.yield (Yield.move rfl) rfl ?_
    refine OG.guard_no rfl rfl rfl rfl rfl (by decide) (by decide) ?_
    refine OG.guard_no rfl rfl rfl rfl rfl (by decide) (by decide) ?_
    refine OG.yield (by first | exact Yield.pick_t rfl rfl | exact Yield.pick_f rfl rfl | exact Yield.pick rfl (fun _ => rfl) (fun _ => rfl)) rfl ?_
    refine OG.yield (Yield.assign rfl) rfl ?_
    refine OG.nil ?_
    refine QG.then ?_
    refine CG.cond_f rfl ?_
    refine CG.seq ?_
    rcases (show a % 1 ≠ 0 ∨ (a % 1 = 0 ∧ n * 256 < a + 1) by (by_cases h1 : a % 1 = 0; exact .inr ⟨h1, by unfold merr at he; rw [if_neg (by omega), if_neg (by omega)] at he; split at he <;> omega⟩; exact .inl h1)) with hx | hx
    · skip
      refine CG.region ?_
      refine OG.yield (Yield.move rfl) rfl ?_
      refine OG.yield (Yield.move rfl) rfl ?_
      refine OG.yield (by first | exact Yield.conv Try.underlying32 rfl rfl (wu32 (by omega) (by omega)) | exact Yield.conv Try.underlying32 rfl rfl rfl) rfl ?_
      refine OG.yield (Yield.rem rfl rfl (by omega) (tmod_pos (by omega) (by omega))) rfl ?_
      refine OG.yield (by first | exact Yield.as (Yield.neq rfl rfl) (bT (by omega)) | exact Yield.as (Yield.neq rfl rfl) (bF (by omega)) | exact Yield.neq rfl rfl) rfl ?_
      refine OG.yield (Yield.assign rfl) rfl ?_
      refine OG.nil ?_
      refine QG.then ?_
      refine CG.cond_t rfl ?_
      refine CG.seq ?_
      refine CG.region ?_
      refine OG.yield (Yield.assign rfl) rfl ?_
      refine OG.yield (Yield.assign rfl) rfl ?_
      refine OG.nil ?_
      refine QG.then ?_
      refine CG.ret ?_
      refine QG.block_ret ?_
      refine QG.pass_ret ?_
      refine QG.ret2 rfl rfl rfl () trivial ?_ (by repeat (first | exact Imp.refl _ | exact Imp.none _ | apply Imp.pull (by repeat (first | exact Ext.here | apply Ext.there)) | apply Imp.trans Imp.drop))
      first
        | rfl
        | (congr 4; unfold merr; rw [if_neg (by omega), if_pos (by omega)]; done)
        | (congr 4; unfold merr; rw [if_neg (by omega), if_neg (by omega), if_pos (by omega)]; done)
    · skip
      refine CG.region ?_
      refine OG.yield (Yield.move rfl) rfl ?_
      refine OG.yield (Yield.move rfl) rfl ?_
      refine OG.yield (by first | exact Yield.conv Try.underlying32 rfl rfl (wu32 (by omega) (by omega)) | exact Yield.conv Try.underlying32 rfl rfl rfl) rfl ?_
      refine OG.yield (Yield.rem rfl rfl (by omega) (tmod_pos (by omega) (by omega))) rfl ?_
      refine OG.yield (by first | exact Yield.as (Yield.neq rfl rfl) (bT (by omega)) | exact Yield.as (Yield.neq rfl rfl) (bF (by omega)) | exact Yield.neq rfl rfl) rfl ?_
      refine OG.yield (Yield.assign rfl) rfl ?_
      refine OG.nil ?_
      refine QG.then ?_
      refine CG.cond_f rfl ?_
      refine CG.seq ?_
      refine CG.region ?_
      refine OG.yield (Yield.move rfl) rfl ?_
      refine OG.yield (by first | exact Yield.conv Try.underlying3 rfl rfl (w64 (by omega) (by omega)) | exact Yield.conv Try.underlying3 rfl rfl rfl) rfl ?_
      refine OG.yield (Yield.move rfl) rfl ?_
      refine OG.yield (Yield.add rfl rfl (w64 (by omega) (by omega))) rfl ?_
      refine OG.yield (Yield.move rfl) rfl ?_
      refine OG.yield (Yield.nilCheck rfl) rfl ?_
      refine OG.yield (Yield.fieldAddr fa107_0 rfl) rfl ?_
      refine OG.yield (Yield.load ti105 rfl (by first | exact Cel.of_blk (by repeat (first | exact Ext.here | apply Ext.there)) rfl | exact (hrow (by repeat (first | exact Ext.here | apply Ext.there))) _ _ rfl)) rfl ?_
      refine OG.yield (Yield.len_slice Try.underlying105 rfl rfl) rfl ?_
      refine OG.yield (Yield.mul rfl rfl (w64 (by omega) (by omega))) rfl ?_
      refine OG.yield (by first | exact Yield.as (Yield.gtr rfl rfl) (bT (by omega)) | exact Yield.as (Yield.gtr rfl rfl) (bF (by omega)) | exact Yield.gtr rfl rfl) rfl ?_
      refine OG.yield (Yield.assign rfl) rfl ?_
      refine OG.nil ?_
      refine QG.then ?_
      refine CG.cond_t rfl ?_
      refine CG.seq ?_
      refine CG.region ?_
      refine OG.yield (Yield.assign rfl) rfl ?_
      refine OG.yield (Yield.assign rfl) rfl ?_
      refine OG.nil ?_
      refine QG.then ?_
      refine CG.ret ?_
      refine QG.block_ret ?_
      refine QG.pass_ret ?_
      refine QG.ret2 rfl rfl rfl () trivial ?_ (by repeat (first | exact Imp.refl _ | exact Imp.none _ | apply Imp.pull (by repeat (first | exact Ext.here | apply Ext.there)) | apply Imp.trans Imp.drop))
      first
        | rfl
        | (congr 4; unfold merr; rw [if_neg (by omega), if_pos (by omega)]; done)
        | (congr 4; unfold merr; rw [if_neg (by omega), if_neg (by omega), if_pos (by omega)]; done)
  · skip
    skip
    refine CG.region ?_
    refine OG.yield (Yield.move rfl) rfl ?_
    refine OG.yield (by first | exact Yield.as (Yield.neq rfl rfl) (bT (by omega)) | exact Yield.as (Yield.neq rfl rfl) (bF (by omega)) | exact Yield.neq rfl rfl) rfl ?_
    refine OG.yield (Yield.move rfl) rfl ?_
    refine OG.guard_yes rfl rfl rfl (by decide) ?_
    refine OG.yield (Yield.move rfl) rfl ?_
    refine OG.guard_yes rfl rfl rfl (by decide) ?_
    refine OG.yield (by first | exact Yield.as (Yield.neq rfl rfl) (bT (by omega)) | exact Yield.as (Yield.neq rfl rfl) (bF (by omega)) | exact Yield.neq rfl rfl) rfl ?_
    refine OG.yield (by first | exact Yield.pick_t rfl rfl | exact Yield.pick_f rfl rfl | exact Yield.pick rfl (fun _ => rfl) (fun _ => rfl)) rfl ?_
    refine OG.yield (Yield.move rfl) rfl ?_
    refine OG.guard_no rfl rfl rfl rfl rfl (by decide) (by decide) ?_
    refine OG.guard_no rfl rfl rfl rfl rfl (by decide) (by decide) ?_
    refine OG.yield (by first | exact Yield.pick_t rfl rfl | exact Yield.pick_f rfl rfl | exact Yield.pick rfl (fun _ => rfl) (fun _ => rfl)) rfl ?_
    refine OG.yield (Yield.move rfl) rfl ?_
    refine OG.guard_no rfl rfl rfl rfl rfl (by decide) (by decide) ?_
    refine OG.guard_no rfl rfl rfl rfl rfl (by decide) (by decide) ?_
    refine OG.yield (by first | exact Yield.pick_t rfl rfl | exact Yield.pick_f rfl rfl | exact Yield.pick rfl (fun _ => rfl) (fun _ => rfl)) rfl ?_
    refine OG.yield (Yield.assign rfl) rfl ?_
    refine OG.nil ?_
    refine QG.then ?_
    refine CG.cond_f rfl ?_
    refine CG.seq ?_
    rcases (show a % 2 ≠ 0 ∨ (a % 2 = 0 ∧ n * 256 < a + 2) by (by_cases h1 : a % 2 = 0; exact .inr ⟨h1, by unfold merr at he; rw [if_neg (by omega), if_neg (by omega)] at he; split at he <;> omega⟩; exact .inl h1)) with hx | hx
    · skip
      refine CG.region ?_
      refine OG.yield (Yield.move rfl) rfl ?_
      refine OG.yield (Yield.move rfl) rfl ?_
      refine OG.yield (by first | exact Yield.conv Try.underlying32 rfl rfl (wu32 (by omega) (by omega)) | exact Yield.conv Try.underlying32 rfl rfl rfl) rfl ?_
      refine OG.yield (Yield.rem rfl rfl (by omega) (tmod_pos (by omega) (by omega))) rfl ?_
      refine OG.yield (by first | exact Yield.as (Yield.neq rfl rfl) (bT (by omega)) | exact Yield.as (Yield.neq rfl rfl) (bF (by omega)) | exact Yield.neq rfl rfl) rfl ?_
      refine OG.yield (Yield.assign rfl) rfl ?_
      refine OG.nil ?_
      refine QG.then ?_
      refine CG.cond_t rfl ?_
      refine CG.seq ?_
      refine CG.region ?_
      refine OG.yield (Yield.assign rfl) rfl ?_
      refine OG.yield (Yield.assign rfl) rfl ?_
      refine OG.nil ?_
      refine QG.then ?_
      refine CG.ret ?_
      refine QG.block_ret ?_
      refine QG.pass_ret ?_
      refine QG.ret2 rfl rfl rfl () trivial ?_ (by repeat (first | exact Imp.refl _ | exact Imp.none _ | apply Imp.pull (by repeat (first | exact Ext.here | apply Ext.there)) | apply Imp.trans Imp.drop))
      first
        | rfl
        | (congr 4; unfold merr; rw [if_neg (by omega), if_pos (by omega)]; done)
        | (congr 4; unfold merr; rw [if_neg (by omega), if_neg (by omega), if_pos (by omega)]; done)
    · skip
      refine CG.region ?_
      refine OG.yield (Yield.move rfl) rfl ?_
      refine OG.yield (Yield.move rfl) rfl ?_
      refine OG.yield (by first | exact Yield.conv Try.underlying32 rfl rfl (wu32 (by omega) (by omega)) | exact Yield.conv Try.underlying32 rfl rfl rfl) rfl ?_
      refine OG.yield (Yield.rem rfl rfl (by omega) (tmod_pos (by omega) (by omega))) rfl ?_
      refine OG.yield (by first | exact Yield.as (Yield.neq rfl rfl) (bT (by omega)) | exact Yield.as (Yield.neq rfl rfl) (bF (by omega)) | exact Yield.neq rfl rfl) rfl ?_
      refine OG.yield (Yield.assign rfl) rfl ?_
      refine OG.nil ?_
      refine QG.then ?_
      refine CG.cond_f rfl ?_
      refine CG.seq ?_
      refine CG.region ?_
      refine OG.yield (Yield.move rfl) rfl ?_
      refine OG.yield (by first | exact Yield.conv Try.underlying3 rfl rfl (w64 (by omega) (by omega)) | exact Yield.conv Try.underlying3 rfl rfl rfl) rfl ?_
      refine OG.yield (Yield.move rfl) rfl ?_
      refine OG.yield (Yield.add rfl rfl (w64 (by omega) (by omega))) rfl ?_
      refine OG.yield (Yield.move rfl) rfl ?_
      refine OG.yield (Yield.nilCheck rfl) rfl ?_
      refine OG.yield (Yield.fieldAddr fa107_0 rfl) rfl ?_
      refine OG.yield (Yield.load ti105 rfl (by first | exact Cel.of_blk (by repeat (first | exact Ext.here | apply Ext.there)) rfl | exact (hrow (by repeat (first | exact Ext.here | apply Ext.there))) _ _ rfl)) rfl ?_
      refine OG.yield (Yield.len_slice Try.underlying105 rfl rfl) rfl ?_
      refine OG.yield (Yield.mul rfl rfl (w64 (by omega) (by omega))) rfl ?_
      refine OG.yield (by first | exact Yield.as (Yield.gtr rfl rfl) (bT (by omega)) | exact Yield.as (Yield.gtr rfl rfl) (bF (by omega)) | exact Yield.gtr rfl rfl) rfl ?_
      refine OG.yield (Yield.assign rfl) rfl ?_
      refine OG.nil ?_
      refine QG.then ?_
      refine CG.cond_t rfl ?_
      refine CG.seq ?_
      refine CG.region ?_
      refine OG.yield (Yield.assign rfl) rfl ?_
      refine OG.yield (Yield.assign rfl) rfl ?_
      refine OG.nil ?_
      refine QG.then ?_
      refine CG.ret ?_
      refine QG.block_ret ?_
      refine QG.pass_ret ?_
      refine QG.ret2 rfl rfl rfl () trivial ?_ (by repeat (first | exact Imp.refl _ | exact Imp.none _ | apply Imp.pull (by repeat (first | exact Ext.here | apply Ext.there)) | apply Imp.trans Imp.drop))
      first
        | rfl
        | (congr 4; unfold merr; rw [if_neg (by omega), if_pos (by omega)]; done)
        | (congr 4; unfold merr; rw [if_neg (by omega), if_neg (by omega), if_pos (by omega)]; done)
  · skip
    skip
    refine CG.region ?_
    refine OG.yield (Yield.move rfl) rfl ?_
    refine OG.yield (by first | exact Yield.as (Yield.neq rfl rfl) (bT (by omega)) | exact Yield.as (Yield.neq rfl rfl) (bF (by omega)) | exact Yield.neq rfl rfl) rfl ?_
    refine OG.yield (Yield.move rfl) rfl ?_
    refine OG.guard_yes rfl rfl rfl (by decide) ?_
    refine OG.yield (Yield.move rfl) rfl ?_
    refine OG.guard_yes rfl rfl rfl (by decide) ?_
    refine OG.yield (by first | exact Yield.as (Yield.neq rfl rfl) (bT (by omega)) | exact Yield.as (Yield.neq rfl rfl) (bF (by omega)) | exact Yield.neq rfl rfl) rfl ?_
    refine OG.yield (by first | exact Yield.pick_t rfl rfl | exact Yield.pick_f rfl rfl | exact Yield.pick rfl (fun _ => rfl) (fun _ => rfl)) rfl ?_
    refine OG.yield (Yield.move rfl) rfl ?_
    refine OG.guard_yes rfl rfl rfl (by decide) ?_
    refine OG.yield (Yield.move rfl) rfl ?_
    refine OG.guard_yes rfl rfl rfl (by decide) ?_
    refine OG.yield (by first | exact Yield.as (Yield.neq rfl rfl) (bT (by omega)) | exact Yield.as (Yield.neq rfl rfl) (bF (by omega)) | exact Yield.neq rfl rfl) rfl ?_
    refine OG.yield (by first | exact Yield.pick_t rfl rfl | exact Yield.pick_f rfl rfl | exact Yield.pick rfl (fun _ => rfl) (fun _ => rfl)) rfl ?_
    refine OG.yield (Yield.move rfl) rfl ?_
    refine OG.guard_no rfl rfl rfl rfl rfl (by decide) (by decide) ?_
    refine OG.guard_no rfl rfl rfl rfl rfl (by decide) (by decide) ?_
    refine OG.yield (by first | exact Yield.pick_t rfl rfl | exact Yield.pick_f rfl rfl | exact Yield.pick rfl (fun _ => rfl) (fun _ => rfl)) rfl ?_
    refine OG.yield (Yield.assign rfl) rfl ?_
    refine OG.nil ?_
    refine QG.then ?_
    refine CG.cond_f rfl ?_
    refine CG.seq ?_
    rcases (show a % 4 ≠ 0 ∨ (a % 4 = 0 ∧ n * 256 < a + 4) by (by_cases h1 : a % 4 = 0; exact .inr ⟨h1, by unfold merr at he; rw [if_neg (by omega), if_neg (by omega)] at he; split at he <;> omega⟩; exact .inl h1)) with hx | hx
    · skip
      refine CG.region ?_
      refine OG.yield (Yield.move rfl) rfl ?_
      refine OG.yield (Yield.move rfl) rfl ?_
      refine OG.yield (by first | exact Yield.conv Try.underlying32 rfl rfl (wu32 (by omega) (by omega)) | exact Yield.conv Try.underlying32 rfl rfl rfl) rfl ?_
      refine OG.yield (Yield.rem rfl rfl (by omega) (tmod_pos (by omega) (by omega))) rfl ?_
      refine OG.yield (by first | exact Yield.as (Yield.neq rfl rfl) (bT (by omega)) | exact Yield.as (Yield.neq rfl rfl) (bF (by omega)) | exact Yield.neq rfl rfl) rfl ?_
      refine OG.yield (Yield.assign rfl) rfl ?_
      refine OG.nil ?_
      refine QG.then ?_
      refine CG.cond_t rfl ?_
      refine CG.seq ?_
      refine CG.region ?_
      refine OG.yield (Yield.assign rfl) rfl ?_
      refine OG.yield (Yield.assign rfl) rfl ?_
      refine OG.nil ?_
      refine QG.then ?_
      refine CG.ret ?_
      refine QG.block_ret ?_
      refine QG.pass_ret ?_
      refine QG.ret2 rfl rfl rfl () trivial ?_ (by repeat (first | exact Imp.refl _ | exact Imp.none _ | apply Imp.pull (by repeat (first | exact Ext.here | apply Ext.there)) | apply Imp.trans Imp.drop))
      first
        | rfl
        | (congr 4; unfold merr; rw [if_neg (by omega), if_pos (by omega)]; done)
        | (congr 4; unfold merr; rw [if_neg (by omega), if_neg (by omega), if_pos (by omega)]; done)
    · skip
      refine CG.region ?_
      refine OG.yield (Yield.move rfl) rfl ?_
      refine OG.yield (Yield.move rfl) rfl ?_
      refine OG.yield (by first | exact Yield.conv Try.underlying32 rfl rfl (wu32 (by omega) (by omega)) | exact Yield.conv Try.underlying32 rfl rfl rfl) rfl ?_
      refine OG.yield (Yield.rem rfl rfl (by omega) (tmod_pos (by omega) (by omega))) rfl ?_
      refine OG.yield (by first | exact Yield.as (Yield.neq rfl rfl) (bT (by omega)) | exact Yield.as (Yield.neq rfl rfl) (bF (by omega)) | exact Yield.neq rfl rfl) rfl ?_
      refine OG.yield (Yield.assign rfl) rfl ?_
      refine OG.nil ?_
      refine QG.then ?_
      refine CG.cond_f rfl ?_
      refine CG.seq ?_
      refine CG.region ?_
      refine OG.yield (Yield.move rfl) rfl ?_
      refine OG.yield (by first | exact Yield.conv Try.underlying3 rfl rfl (w64 (by omega) (by omega)) | exact Yield.conv Try.underlying3 rfl rfl rfl) rfl ?_
      refine OG.yield (Yield.move rfl) rfl ?_
      refine OG.yield (Yield.add rfl rfl (w64 (by omega) (by omega))) rfl ?_
      refine OG.yield (Yield.move rfl) rfl ?_
      refine OG.yield (Yield.nilCheck rfl) rfl ?_
      refine OG.yield (Yield.fieldAddr fa107_0 rfl) rfl ?_
      refine OG.yield (Yield.load ti105 rfl (by first | exact Cel.of_blk (by repeat (first | exact Ext.here | apply Ext.there)) rfl | exact (hrow (by repeat (first | exact Ext.here | apply Ext.there))) _ _ rfl)) rfl ?_
      refine OG.yield (Yield.len_slice Try.underlying105 rfl rfl) rfl ?_
      refine OG.yield (Yield.mul rfl rfl (w64 (by omega) (by omega))) rfl ?_
      refine OG.yield (by first | exact Yield.as (Yield.gtr rfl rfl) (bT (by omega)) | exact Yield.as (Yield.gtr rfl rfl) (bF (by omega)) | exact Yield.gtr rfl rfl) rfl ?_
      refine OG.yield (Yield.assign rfl) rfl ?_
      refine OG.nil ?_
      refine QG.then ?_
      refine CG.cond_t rfl ?_
      refine CG.seq ?_
      refine CG.region ?_
      refine OG.yield (Yield.assign rfl) rfl ?_
      refine OG.yield (Yield.assign rfl) rfl ?_
      refine OG.nil ?_
      refine QG.then ?_
      refine CG.ret ?_
      refine QG.block_ret ?_
      refine QG.pass_ret ?_
      refine QG.ret2 rfl rfl rfl () trivial ?_ (by repeat (first | exact Imp.refl _ | exact Imp.none _ | apply Imp.pull (by repeat (first | exact Ext.here | apply Ext.there)) | apply Imp.trans Imp.drop))
      first
        | rfl
        | (congr 4; unfold merr; rw [if_neg (by omega), if_pos (by omega)]; done)
        | (congr 4; unfold merr; rw [if_neg (by omega), if_neg (by omega), if_pos (by omega)]; done)
  · skip
    skip
    refine CG.region ?_
    refine OG.yield (Yield.move rfl) rfl ?_
    refine OG.yield (by first | exact Yield.as (Yield.neq rfl rfl) (bT (by omega)) | exact Yield.as (Yield.neq rfl rfl) (bF (by omega)) | exact Yield.neq rfl rfl) rfl ?_
    refine OG.yield (Yield.move rfl) rfl ?_
    refine OG.guard_yes rfl rfl rfl (by decide) ?_
    refine OG.yield (Yield.move rfl) rfl ?_
    refine OG.guard_yes rfl rfl rfl (by decide) ?_
    refine OG.yield (by first | exact Yield.as (Yield.neq rfl rfl) (bT (by omega)) | exact Yield.as (Yield.neq rfl rfl) (bF (by omega)) | exact Yield.neq rfl rfl) rfl ?_
    refine OG.yield (by first | exact Yield.pick_t rfl rfl | exact Yield.pick_f rfl rfl | exact Yield.pick rfl (fun _ => rfl) (fun _ => rfl)) rfl ?_
    refine OG.yield (Yield.move rfl) rfl ?_
    refine OG.guard_yes rfl rfl rfl (by decide) ?_
    refine OG.yield (Yield.move rfl) rfl ?_
    refine OG.guard_yes rfl rfl rfl (by decide) ?_
    refine OG.yield (by first | exact Yield.as (Yield.neq rfl rfl) (bT (by omega)) | exact Yield.as (Yield.neq rfl rfl) (bF (by omega)) | exact Yield.neq rfl rfl) rfl ?_
    refine OG.yield (by first | exact Yield.pick_t rfl rfl | exact Yield.pick_f rfl rfl | exact Yield.pick rfl (fun _ => rfl) (fun _ => rfl)) rfl ?_
    refine OG.yield (Yield.move rfl) rfl ?_
    refine OG.guard_yes rfl rfl rfl (by decide) ?_
    refine OG.yield (Yield.move rfl) rfl ?_
    refine OG.guard_yes rfl rfl rfl (by decide) ?_
    refine OG.yield (by first | exact Yield.as (Yield.neq rfl rfl) (bT (by omega)) | exact Yield.as (Yield.neq rfl rfl) (bF (by omega)) | exact Yield.neq rfl rfl) rfl ?_
    refine OG.yield (by first | exact Yield.pick_t rfl rfl | exact Yield.pick_f rfl rfl | exact Yield.pick rfl (fun _ => rfl) (fun _ => rfl)) rfl ?_
    refine OG.yield (Yield.assign rfl) rfl ?_
    refine OG.nil ?_
    refine QG.then ?_
    refine CG.cond_f rfl ?_
    refine CG.seq ?_
    rcases (show a % 8 ≠ 0 ∨ (a % 8 = 0 ∧ n * 256 < a + 8) by (by_cases h1 : a % 8 = 0; exact .inr ⟨h1, by unfold merr at he; rw [if_neg (by omega), if_neg (by omega)] at he; split at he <;> omega⟩; exact .inl h1)) with hx | hx
    · skip
      refine CG.region ?_
      refine OG.yield (Yield.move rfl) rfl ?_
      refine OG.yield (Yield.move rfl) rfl ?_
      refine OG.yield (by first | exact Yield.conv Try.underlying32 rfl rfl (wu32 (by omega) (by omega)) | exact Yield.conv Try.underlying32 rfl rfl rfl) rfl ?_
      refine OG.yield (Yield.rem rfl rfl (by omega) (tmod_pos (by omega) (by omega))) rfl ?_
      refine OG.yield (by first | exact Yield.as (Yield.neq rfl rfl) (bT (by omega)) | exact Yield.as (Yield.neq rfl rfl) (bF (by omega)) | exact Yield.neq rfl rfl) rfl ?_
      refine OG.yield (Yield.assign rfl) rfl ?_
      refine OG.nil ?_
      refine QG.then ?_
      refine CG.cond_t rfl ?_
      refine CG.seq ?_
      refine CG.region ?_
      refine OG.yield (Yield.assign rfl) rfl ?_
      refine OG.yield (Yield.assign rfl) rfl ?_
      refine OG.nil ?_
      refine QG.then ?_
      refine CG.ret ?_
      refine QG.block_ret ?_
      refine QG.pass_ret ?_
      refine QG.ret2 rfl rfl rfl () trivial ?_ (by repeat (first | exact Imp.refl _ | exact Imp.none _ | apply Imp.pull (by repeat (first | exact Ext.here | apply Ext.there)) | apply Imp.trans Imp.drop))
      first
        | rfl
        | (congr 4; unfold merr; rw [if_neg (by omega), if_pos (by omega)]; done)
        | (congr 4; unfold merr; rw [if_neg (by omega), if_neg (by omega), if_pos (by omega)]; done)
    · skip
      refine CG.region ?_
      refine OG.yield (Yield.move rfl) rfl ?_
      refine OG.yield (Yield.move rfl) rfl ?_
      refine OG.yield (by first | exact Yield.conv Try.underlying32 rfl rfl (wu32 (by omega) (by omega)) | exact Yield.conv Try.underlying32 rfl rfl rfl) rfl ?_
      refine OG.yield (Yield.rem rfl rfl (by omega) (tmod_pos (by omega) (by omega))) rfl ?_
      refine OG.yield (by first | exact Yield.as (Yield.neq rfl rfl) (bT (by omega)) | exact Yield.as (Yield.neq rfl rfl) (bF (by omega)) | exact Yield.neq rfl rfl) rfl ?_
      refine OG.yield (Yield.assign rfl) rfl ?_
      refine OG.nil ?_
      refine QG.then ?_
      refine CG.cond_f rfl ?_
      refine CG.seq ?_
      refine CG.region ?_
      refine OG.yield (Yield.move rfl) rfl ?_
      refine OG.yield (by first | exact Yield.conv Try.underlying3 rfl rfl (w64 (by omega) (by omega)) | exact Yield.conv Try.underlying3 rfl rfl rfl) rfl ?_
      refine OG.yield (Yield.move rfl) rfl ?_
      refine OG.yield (Yield.add rfl rfl (w64 (by omega) (by omega))) rfl ?_
      refine OG.yield (Yield.move rfl) rfl ?_
      refine OG.yield (Yield.nilCheck rfl) rfl ?_
      refine OG.yield (Yield.fieldAddr fa107_0 rfl) rfl ?_
      refine OG.yield (Yield.load ti105 rfl (by first | exact Cel.of_blk (by repeat (first | exact Ext.here | apply Ext.there)) rfl | exact (hrow (by repeat (first | exact Ext.here | apply Ext.there))) _ _ rfl)) rfl ?_
      refine OG.yield (Yield.len_slice Try.underlying105 rfl rfl) rfl ?_
      refine OG.yield (Yield.mul rfl rfl (w64 (by omega) (by omega))) rfl ?_
      refine OG.yield (by first | exact Yield.as (Yield.gtr rfl rfl) (bT (by omega)) | exact Yield.as (Yield.gtr rfl rfl) (bF (by omega)) | exact Yield.gtr rfl rfl) rfl ?_
      refine OG.yield (Yield.assign rfl) rfl ?_
      refine OG.nil ?_
      refine QG.then ?_
      refine CG.cond_t rfl ?_
      refine CG.seq ?_
      refine CG.region ?_
      refine OG.yield (Yield.assign rfl) rfl ?_
      refine OG.yield (Yield.assign rfl) rfl ?_
      refine OG.nil ?_
      refine QG.then ?_
      refine CG.ret ?_
      refine QG.block_ret ?_
      refine QG.pass_ret ?_
      refine QG.ret2 rfl rfl rfl () trivial ?_ (by repeat (first | exact Imp.refl _ | exact Imp.none _ | apply Imp.pull (by repeat (first | exact Ext.here | apply Ext.there)) | apply Imp.trans Imp.drop))
      first
        | rfl
        | (congr 4; unfold merr; rw [if_neg (by omega), if_pos (by omega)]; done)
        | (congr 4; unfold merr; rw [if_neg (by omega), if_neg (by omega), if_pos (by omega)]; done)
theorem load_ok {m n a s : Nat} {bs : List UInt8} (hs : s = 1 ∨ s = 2 ∨ s = 4 ∨ s = 8) (ha : a % s = 0) (hb : a + s ≤ n * 256) : Ctr Try.prog W0 69 [.pointer (some ⟨m, 0, none⟩), .int .u32 a, .int .i64 s] (M m n bs :: Fr) (fun _ : Unit => True)
    (fun _ => .tuple #[.int .u64 (leN ((bs.drop a).take s)), .int .i64 0]) (fun _ => M m n bs :: Fr) := by
  refine Ctr.ex Ext.here m_open ?_
  rintro ⟨⟨b, o⟩, c⟩ hlen
  refine Ctr.imp star_open ?_
  have hl : ((bs.drop a).take s).length = s := by rw [List.length_take, List.length_drop]; omega
  refine Ctr.of_body Try.func69 rfl Try.ntmps69 rfl ?_
  refine CG.seq ?_
  refine CG.region ?_
  refine OG.yield (Yield.assign rfl) rfl ?_
  refine OG.yield (Yield.assign rfl) rfl ?_
  refine OG.nil ?_
  refine QG.then ?_
  refine CG.seq ?_
  refine CG.region ?_
  refine OG.yield (Yield.move rfl) rfl ?_
  refine OG.yield (Yield.move rfl) rfl ?_
  refine OG.yield (Yield.move rfl) rfl ?_
  refine OG.callo call52 rfl (Imp.refl _) (place_ok W0 Fr ((b, o), c) hlen.2.2 hs ha hb) rfl ?_
  rintro ⟨⟩ -
  dsimp only [MO, List.cons_append, List.nil_append]
  refine OG.yield (Yield.move rfl) rfl ?_
  refine OG.yield (Yield.extract rfl rfl) rfl ?_
  refine OG.yield (Yield.extract rfl rfl) rfl ?_
  refine OG.yield (Yield.assign rfl) rfl ?_
  refine OG.yield (Yield.assign rfl) rfl ?_
  refine OG.nil ?_
  refine QG.then ?_
  refine CG.seq ?_
  refine CG.seq ?_
  refine CG.region ?_
  refine OG.yield (Yield.move rfl) rfl ?_
  refine OG.yield (by first | exact Yield.as (Yield.neq rfl rfl) (bT (by omega)) | exact Yield.as (Yield.neq rfl rfl) (bF (by omega)) | exact Yield.neq rfl rfl) rfl ?_
  refine OG.nil ?_
  refine QG.then ?_
  refine CG.cond_f rfl ?_
  refine CG.skip ?_
  refine QG.then ?_
  have hsr : SlR W0 (MO m n bs ((b, o), c) ++ Fr) 1 (some ⟨b, o + a, none⟩) ((bs.drop a).take s).length (bytesV ((bs.drop a).take s)) := by
    rw [hl]
    exact (SlR.of_osl (E := 152) (sz := 256) (c := c) (m := n) (xs := bytesV bs) (Ext.there Ext.here)).part (by rw [bytesV_drop, bytesV_take]) hb
  refine CG.seq ?_
  refine CG.pure (fun _ _ => trivial) fun (_ : True) => ?_
  refine CG.region ?_
  refine OG.yield (Yield.move rfl) rfl ?_
  refine OG.callo call85 rfl (Imp.refl _) ((by have := get_spec W0 (MO m n bs ((b, o), c) ++ Fr) (c := 256 - a % 256) hsr (by omega); rw [hl] at this; exact this)) rfl ?_
  rintro ⟨⟩ -
  refine OG.yield (Yield.assign rfl) rfl ?_
  refine OG.yield (Yield.assign rfl) rfl ?_
  refine OG.nil ?_
  refine QG.then ?_
  refine CG.ret ?_
  exact QG.ret2 rfl rfl rfl () trivial rfl (m_close ((b, o), c) hlen)
theorem load_bad {m n a : Nat} {s : Int} {bs : List UInt8} (ha : a < 4294967296) (he : merr n a s ≠ 0) : Ctr Try.prog W0 69 [.pointer (some ⟨m, 0, none⟩), .int .u32 a, .int .i64 s] (M m n bs :: Fr) (fun _ : Unit => True)
    (fun _ => .tuple #[.int .u64 0, .int .i64 (merr n a s)]) (fun _ => M m n bs :: Fr) := by
  refine Ctr.ex Ext.here m_open ?_
  rintro ⟨⟨b, o⟩, c⟩ hlen
  refine Ctr.imp star_open ?_
  refine Ctr.of_body Try.func69 rfl Try.ntmps69 rfl ?_
  refine CG.seq ?_
  refine CG.region ?_
  refine OG.yield (Yield.assign rfl) rfl ?_
  refine OG.yield (Yield.assign rfl) rfl ?_
  refine OG.nil ?_
  refine QG.then ?_
  refine CG.seq ?_
  refine CG.region ?_
  refine OG.yield (Yield.move rfl) rfl ?_
  refine OG.yield (Yield.move rfl) rfl ?_
  refine OG.yield (Yield.move rfl) rfl ?_
  refine OG.callo call52 rfl (Imp.refl _) (place_bad W0 Fr ((b, o), c) hlen.2.2 ha he) rfl ?_
  rintro ⟨⟩ -
  refine OG.yield (Yield.move rfl) rfl ?_
  refine OG.yield (Yield.extract rfl rfl) rfl ?_
  refine OG.yield (Yield.extract rfl rfl) rfl ?_
  refine OG.yield (Yield.assign rfl) rfl ?_
  refine OG.yield (Yield.assign rfl) rfl ?_
  refine OG.nil ?_
  refine QG.then ?_
  refine CG.seq ?_
  refine CG.seq ?_
  refine CG.region ?_
  refine OG.yield (Yield.move rfl) rfl ?_
  refine OG.yield (Yield.as (Yield.neq rfl rfl) (bT he)) rfl ?_
  refine OG.nil ?_
  refine QG.then ?_
  refine CG.cond_t rfl ?_
  refine CG.seq ?_
  refine CG.region ?_
  refine OG.yield (Yield.move rfl) rfl ?_
  refine OG.yield (Yield.assign rfl) rfl ?_
  refine OG.yield (Yield.assign rfl) rfl ?_
  refine OG.nil ?_
  refine QG.then ?_
  refine CG.ret ?_
  refine QG.pass_ret ?_
  exact QG.ret2 rfl rfl rfl () trivial rfl (m_close ((b, o), c) hlen)
theorem store_ok {m n a s v : Nat} {bs : List UInt8} (hs : s = 1 ∨ s = 2 ∨ s = 4 ∨ s = 8) (ha : a % s = 0) (hb : a + s ≤ n * 256) (hv : v < 18446744073709551616) : Ctr Try.prog W0 19 [.pointer (some ⟨m, 0, none⟩), .int .u32 a, .int .i64 s, .int .u64 v] (M m n bs :: Fr) (fun _ : Unit => True)
    (fun _ => .int .i64 0) (fun _ => M m n (overB bs a (putB v s)) :: Fr) := by
  refine Ctr.ex Ext.here m_open ?_
  rintro ⟨⟨b, o⟩, c⟩ hlen
  refine Ctr.imp star_open ?_
  have hpl := putB_len v s
  refine Ctr.of_body Try.func19 rfl Try.ntmps19 rfl ?_
  refine CG.seq ?_
  refine CG.region ?_
  refine OG.yield (Yield.assign rfl) rfl ?_
  refine OG.nil ?_
  refine QG.then ?_
  refine CG.seq ?_
  refine CG.region ?_
  refine OG.yield (Yield.move rfl) rfl ?_
  refine OG.yield (Yield.move rfl) rfl ?_
  refine OG.yield (Yield.move rfl) rfl ?_
  refine OG.callo call52 rfl (Imp.refl _) (place_ok W0 Fr ((b, o), c) hlen.2.2 hs ha hb) rfl ?_
  rintro ⟨⟩ -
  dsimp only [MO, List.cons_append, List.nil_append]
  refine OG.yield (Yield.move rfl) rfl ?_
  refine OG.yield (Yield.extract rfl rfl) rfl ?_
  refine OG.yield (Yield.extract rfl rfl) rfl ?_
  refine OG.yield (Yield.assign rfl) rfl ?_
  refine OG.yield (Yield.assign rfl) rfl ?_
  refine OG.nil ?_
  refine QG.then ?_
  refine CG.seq ?_
  refine CG.seq ?_
  refine CG.region ?_
  refine OG.yield (Yield.move rfl) rfl ?_
  refine OG.yield (by first | exact Yield.as (Yield.eql rfl rfl) (bT (by omega)) | exact Yield.as (Yield.eql rfl rfl) (bF (by omega)) | exact Yield.eql rfl rfl) rfl ?_
  refine OG.nil ?_
  refine QG.then ?_
  refine CG.cond_t rfl ?_
  refine CG.region ?_
  refine OG.yield (Yield.move rfl) rfl ?_
  refine OG.yield (Yield.move rfl) rfl ?_
  refine OG.yield (Yield.move rfl) rfl ?_
  refine OG.callo call53 rfl (Imp.refl _) (put_spec W0 _ (v := v) (s := s) (by omega) hv) rfl ?_
  rintro ⟨a23, c23⟩ -
  refine OG.effd (Eff.copyIn (b := b) (o := o) (j := a) (n := s) (k := (putB v s).length) (ys := bytesV (putB v s)) rfl rfl rfl Try.underlying73 ti5 ((by repeat (first | exact Foc.here | apply Foc.there))) (by omega) (SlR.of_osl Ext.here) bytesV_one) rfl ?_
  rintro ⟨⟩ -
  rw [show min (putB v s).length s = (bytesV (putB v s)).length by rw [bytesV_length]; omega, List.take_length, over_bytes]
  refine OG.nil ?_
  refine QG.then ?_
  refine CG.seq ?_
  refine CG.region ?_
  refine OG.yield (Yield.move rfl) rfl ?_
  refine OG.yield (Yield.assign rfl) rfl ?_
  refine OG.nil ?_
  refine QG.then ?_
  refine CG.ret ?_
  exact QG.ret1 rfl rfl () trivial rfl (Imp.trans (by repeat (first | exact Imp.refl _ | exact Imp.none _ | apply Imp.pull (by repeat (first | exact Ext.here | apply Ext.there)) | apply Imp.trans Imp.drop)) (m_close ((b, o), c) ⟨by rw [overB_len (by omega)]; exact hlen.1, hlen.2⟩))
theorem store_bad {m n a : Nat} {s v : Int} {bs : List UInt8} (ha : a < 4294967296) (he : merr n a s ≠ 0) : Ctr Try.prog W0 19 [.pointer (some ⟨m, 0, none⟩), .int .u32 a, .int .i64 s, .int .u64 v] (M m n bs :: Fr) (fun _ : Unit => True)
    (fun _ => .int .i64 (merr n a s)) (fun _ => M m n bs :: Fr) := by
  refine Ctr.ex Ext.here m_open ?_
  rintro ⟨⟨b, o⟩, c⟩ hlen
  refine Ctr.imp star_open ?_
  refine Ctr.of_body Try.func19 rfl Try.ntmps19 rfl ?_
  refine CG.seq ?_
  refine CG.region ?_
  refine OG.yield (Yield.assign rfl) rfl ?_
  refine OG.nil ?_
  refine QG.then ?_
  refine CG.seq ?_
  refine CG.region ?_
  refine OG.yield (Yield.move rfl) rfl ?_
  refine OG.yield (Yield.move rfl) rfl ?_
  refine OG.yield (Yield.move rfl) rfl ?_
  refine OG.callo call52 rfl (Imp.refl _) (place_bad W0 Fr ((b, o), c) hlen.2.2 ha he) rfl ?_
  rintro ⟨⟩ -
  refine OG.yield (Yield.move rfl) rfl ?_
  refine OG.yield (Yield.extract rfl rfl) rfl ?_
  refine OG.yield (Yield.extract rfl rfl) rfl ?_
  refine OG.yield (Yield.assign rfl) rfl ?_
  refine OG.yield (Yield.assign rfl) rfl ?_
  refine OG.nil ?_
  refine QG.then ?_
  refine CG.seq ?_
  refine CG.seq ?_
  refine CG.region ?_
  refine OG.yield (Yield.move rfl) rfl ?_
  refine OG.yield (Yield.as (Yield.eql rfl rfl) (bF he)) rfl ?_
  refine OG.nil ?_
  refine QG.then ?_
  refine CG.cond_f rfl ?_
  refine CG.skip ?_
  refine QG.then ?_
  refine CG.seq ?_
  refine CG.region ?_
  refine OG.yield (Yield.move rfl) rfl ?_
  refine OG.yield (Yield.assign rfl) rfl ?_
  refine OG.nil ?_
  refine QG.then ?_
  refine CG.ret ?_
  exact QG.ret1 rfl rfl () trivial rfl (m_close ((b, o), c) hlen)
/-- The bytes of a frame. -/
def frB (bs : List UInt8) (k : Nat) : List UInt8 := (bs.drop (k * 256)).take 256
theorem frB_len {bs : List UInt8} {k n : Nat} (h : bs.length = n * 256) (hk : k < n) : (frB bs k).length = 256 := by unfold frB; rw [List.length_take, List.length_drop]; omega
theorem frame_ok {m n k : Nat} {bs : List UInt8} (hk : k < n) : Ctr Try.prog W0 59 [.pointer (some ⟨m, 0, none⟩), .int .i64 k] (M m n bs :: Fr) (fun _ : Nat => True)
    (fun f => .tuple #[.slice (some ⟨f, 0, none⟩) (frB bs k).length 256, .int .i64 0]) (fun f => oby 152 (some ⟨f, 0, none⟩) 256 (frB bs k) :: M m n bs :: Fr) := by
  refine Ctr.ex Ext.here m_open ?_
  rintro ⟨⟨b, o⟩, c⟩ hlen
  refine Ctr.imp star_open ?_
  have hfl := frB_len hlen.1 hk
  have hn := hlen.2.2
  dsimp only [MO, List.cons_append, List.nil_append]
  refine Ctr.of_body Try.func59 rfl Try.ntmps59 rfl ?_
  refine CG.seq ?_
  refine CG.region ?_
  refine OG.yield (Yield.assign rfl) rfl ?_
  refine OG.yield (Yield.assign rfl) rfl ?_
  refine OG.nil ?_
  refine QG.then ?_
  refine CG.seq ?_
  refine CG.seq ?_
  refine CG.region ?_
  refine OG.yield (Yield.move rfl) rfl ?_
  refine OG.yield (by first | exact Yield.as (Yield.lss rfl rfl) (bT (by omega)) | exact Yield.as (Yield.lss rfl rfl) (bF (by omega)) | exact Yield.lss rfl rfl) rfl ?_
  refine OG.yield (Yield.move rfl) rfl ?_
  refine OG.guard_yes rfl rfl rfl (by decide) ?_
  refine OG.yield (Yield.move rfl) rfl ?_
  refine OG.guard_yes rfl rfl rfl (by decide) ?_
  refine OG.yield (Yield.move rfl) rfl ?_
  refine OG.guard_yes rfl rfl rfl (by decide) ?_
  refine OG.yield (Yield.nilCheck rfl) rfl ?_
  refine OG.guard_yes rfl rfl rfl (by decide) ?_
  refine OG.yield (Yield.fieldAddr fa107_0 rfl) rfl ?_
  refine OG.guard_yes rfl rfl rfl (by decide) ?_
  refine OG.yield (Yield.load ti105 rfl (by first | exact Cel.of_blk (by repeat (first | exact Ext.here | apply Ext.there)) rfl | exact (hrow (by repeat (first | exact Ext.here | apply Ext.there))) _ _ rfl)) rfl ?_
  refine OG.guard_yes rfl rfl rfl (by decide) ?_
  refine OG.yield (Yield.len_slice Try.underlying105 rfl rfl) rfl ?_
  refine OG.guard_yes rfl rfl rfl (by decide) ?_
  refine OG.yield (by first | exact Yield.as (Yield.geq rfl rfl) (bT (by omega)) | exact Yield.as (Yield.geq rfl rfl) (bF (by omega)) | exact Yield.geq rfl rfl) rfl ?_
  refine OG.yield (by first | exact Yield.pick_t rfl rfl | exact Yield.pick_f rfl rfl | exact Yield.pick rfl (fun _ => rfl) (fun _ => rfl)) rfl ?_
  refine OG.nil ?_
  refine QG.then ?_
  refine CG.cond_f rfl ?_
  refine CG.skip ?_
  refine QG.then ?_
  refine CG.seq ?_
  refine CG.region ?_
  refine OG.yield (Yield.move rfl) rfl ?_
  refine OG.yield (Yield.nilCheck rfl) rfl ?_
  refine OG.yield (Yield.fieldAddr fa107_0 rfl) rfl ?_
  refine OG.yield (Yield.load ti105 rfl (by first | exact Cel.of_blk (by repeat (first | exact Ext.here | apply Ext.there)) rfl | exact (hrow (by repeat (first | exact Ext.here | apply Ext.there))) _ _ rfl)) rfl ?_
  refine OG.yield (Yield.move rfl) rfl ?_
  refine OG.yield (Yield.index_slice Try.underlying105 ti152 rfl rfl (by omega) (by omega)) rfl ?_
  refine OG.yield (Yield.load_agg (vs := bytesV (frB bs k)) ti152 rfl (by rw [bytesV_length]; exact hfl) ((SlR.of_osl (by repeat (first | exact Ext.here | apply Ext.there))).row (k * 256) 256 (by rw [bytesV_drop, bytesV_take]; rfl))) rfl ?_
  refine OG.effd (Eff.alloc ti152) rfl ?_
  rintro b6 -
  refine OG.eff (Eff.storeAll ti152 rfl rfl (by repeat (first | exact Foc.here | apply Foc.there)) (by rw [bytesV_length]; exact hfl) bytesV_one (by simp [Value.cells])) rfl ?_
  rintro ⟨⟩ -
  refine OG.nil ?_
  refine QG.then ?_
  refine CG.seq ?_
  refine CG.region ?_
  refine OG.yield (Yield.slice_arr Try.underlying152 ti5 rfl Bound.none Bound.none (by omega) (by omega) (by omega) (by omega)) rfl ?_
  refine OG.yield (Yield.assign rfl) rfl ?_
  refine OG.yield (Yield.assign rfl) rfl ?_
  refine OG.nil ?_
  refine QG.then ?_
  refine CG.ret ?_
  refine QG.ret2 rfl rfl rfl b6 trivial (by rw [hfl]; rfl) (Imp.trans (Imp.head (fun x hb => blk_osl (n := 256) (by rw [bytesV_length]; exact hfl) x hb)) ?_)
  unfold oby
  rw [hfl]
  exact Imp.cons (m_close ((b, o), c) hlen)
theorem frame_bad {m n : Nat} {k : Int} {bs : List UInt8} (hk : k < 0 ∨ (n : Int) ≤ k) : Ctr Try.prog W0 59 [.pointer (some ⟨m, 0, none⟩), .int .i64 k] (M m n bs :: Fr) (fun _ : Unit => True)
    (fun _ => .tuple #[.slice none 0 0, .int .i64 2]) (fun _ => M m n bs :: Fr) := by
  refine Ctr.ex Ext.here m_open ?_
  rintro ⟨⟨b, o⟩, c⟩ hlen
  refine Ctr.imp star_open ?_
  dsimp only [MO, List.cons_append, List.nil_append]
  refine Ctr.of_body Try.func59 rfl Try.ntmps59 rfl ?_
  refine CG.seq ?_
  refine CG.region ?_
  refine OG.yield (Yield.assign rfl) rfl ?_
  refine OG.yield (Yield.assign rfl) rfl ?_
  refine OG.nil ?_
  refine QG.then ?_
  refine CG.seq ?_
  refine CG.seq ?_
  rcases (show k < 0 ∨ (¬ k < 0 ∧ (n : Int) ≤ k) by omega) with hh | hh
  · skip
    refine CG.region ?_
    refine OG.yield (Yield.move rfl) rfl ?_
    refine OG.yield (by first | exact Yield.as (Yield.lss rfl rfl) (bT (by omega)) | exact Yield.as (Yield.lss rfl rfl) (bF (by omega)) | exact Yield.lss rfl rfl) rfl ?_
    refine OG.yield (Yield.move rfl) rfl ?_
    refine OG.guard_no rfl rfl rfl rfl rfl (by decide) (by decide) ?_
    refine OG.guard_no rfl rfl rfl rfl rfl (by decide) (by decide) ?_
    refine OG.guard_no rfl rfl rfl rfl rfl (by decide) (by decide) ?_
    refine OG.guard_no rfl rfl rfl rfl rfl (by decide) (by decide) ?_
    refine OG.guard_no rfl rfl rfl rfl rfl (by decide) (by decide) ?_
    refine OG.guard_no rfl rfl rfl rfl rfl (by decide) (by decide) ?_
    refine OG.guard_no rfl rfl rfl rfl rfl (by decide) (by decide) ?_
    refine OG.yield (by first | exact Yield.pick_t rfl rfl | exact Yield.pick_f rfl rfl | exact Yield.pick rfl (fun _ => rfl) (fun _ => rfl)) rfl ?_
    refine OG.nil ?_
    refine QG.then ?_
    refine CG.cond_t rfl ?_
    refine CG.seq ?_
    refine CG.region ?_
    refine OG.yield (Yield.assign rfl) rfl ?_
    refine OG.yield (Yield.assign rfl) rfl ?_
    refine OG.nil ?_
    refine QG.then ?_
    refine CG.ret ?_
    refine QG.pass_ret ?_
    exact QG.ret2 rfl rfl rfl () trivial rfl (m_close ((b, o), c) hlen)
  · skip
    refine CG.region ?_
    refine OG.yield (Yield.move rfl) rfl ?_
    refine OG.yield (by first | exact Yield.as (Yield.lss rfl rfl) (bT (by omega)) | exact Yield.as (Yield.lss rfl rfl) (bF (by omega)) | exact Yield.lss rfl rfl) rfl ?_
    refine OG.yield (Yield.move rfl) rfl ?_
    refine OG.guard_yes rfl rfl rfl (by decide) ?_
    refine OG.yield (Yield.move rfl) rfl ?_
    refine OG.guard_yes rfl rfl rfl (by decide) ?_
    refine OG.yield (Yield.move rfl) rfl ?_
    refine OG.guard_yes rfl rfl rfl (by decide) ?_
    refine OG.yield (Yield.nilCheck rfl) rfl ?_
    refine OG.guard_yes rfl rfl rfl (by decide) ?_
    refine OG.yield (Yield.fieldAddr fa107_0 rfl) rfl ?_
    refine OG.guard_yes rfl rfl rfl (by decide) ?_
    refine OG.yield (Yield.load ti105 rfl (by first | exact Cel.of_blk (by repeat (first | exact Ext.here | apply Ext.there)) rfl | exact (hrow (by repeat (first | exact Ext.here | apply Ext.there))) _ _ rfl)) rfl ?_
    refine OG.guard_yes rfl rfl rfl (by decide) ?_
    refine OG.yield (Yield.len_slice Try.underlying105 rfl rfl) rfl ?_
    refine OG.guard_yes rfl rfl rfl (by decide) ?_
    refine OG.yield (by first | exact Yield.as (Yield.geq rfl rfl) (bT (by omega)) | exact Yield.as (Yield.geq rfl rfl) (bF (by omega)) | exact Yield.geq rfl rfl) rfl ?_
    refine OG.yield (by first | exact Yield.pick_t rfl rfl | exact Yield.pick_f rfl rfl | exact Yield.pick rfl (fun _ => rfl) (fun _ => rfl)) rfl ?_
    refine OG.nil ?_
    refine QG.then ?_
    refine CG.cond_t rfl ?_
    refine CG.seq ?_
    refine CG.region ?_
    refine OG.yield (Yield.assign rfl) rfl ?_
    refine OG.yield (Yield.assign rfl) rfl ?_
    refine OG.nil ?_
    refine QG.then ?_
    refine CG.ret ?_
    refine QG.pass_ret ?_
    exact QG.ret2 rfl rfl rfl () trivial rfl (m_close ((b, o), c) hlen)
/-- What Fill lays into a frame. -/
def fillB (ws : List UInt8) : List UInt8 := ws ++ List.replicate (256 - ws.length) 0
theorem fillB_len {ws : List UInt8} (h : ws.length ≤ 256) : (fillB ws).length = 256 := by simp [fillB]; omega
theorem over_zero {ws : List UInt8} (h : ws.length ≤ 256) : overB (List.replicate 256 0) 0 ws = fillB ws := by
  unfold overB fillB; rw [List.take_zero, List.nil_append, Nat.zero_add, List.drop_replicate]
theorem fill_ok {m n k : Nat} {bs ws : List UInt8} {a : Option Addr} {c2 : Nat} (hr : RdB W0 Fr a c2 ws) (hk : k < n) (hw : ws.length ≤ 256) : Ctr Try.prog W0 42 [.pointer (some ⟨m, 0, none⟩), .int .i64 k, .slice a ws.length c2] (M m n bs :: Fr) (fun _ : Unit => True)
    (fun _ => .int .i64 0) (fun _ => M m n (overB bs (k * 256) (fillB ws)) :: Fr) := by
  refine Ctr.ex Ext.here m_open ?_
  rintro ⟨⟨b, o⟩, c⟩ hlen
  refine Ctr.imp star_open ?_
  have hfl := fillB_len hw
  have hn := hlen.2.2
  dsimp only [MO, List.cons_append, List.nil_append]
  refine Ctr.of_body Try.func42 rfl Try.ntmps42 rfl ?_
  refine CG.seq ?_
  refine CG.region ?_
  refine OG.yield (Yield.assign rfl) rfl ?_
  refine OG.nil ?_
  refine QG.then ?_
  refine CG.seq ?_
  refine CG.block ?_
  refine CG.seq ?_
  refine CG.region ?_
  refine OG.yield (Yield.move rfl) rfl ?_
  refine OG.yield (by first | exact Yield.as (Yield.lss rfl rfl) (bT (by omega)) | exact Yield.as (Yield.lss rfl rfl) (bF (by omega)) | exact Yield.lss rfl rfl) rfl ?_
  refine OG.yield (Yield.move rfl) rfl ?_
  refine OG.guard_yes rfl rfl rfl (by decide) ?_
  refine OG.yield (Yield.move rfl) rfl ?_
  refine OG.guard_yes rfl rfl rfl (by decide) ?_
  refine OG.yield (Yield.move rfl) rfl ?_
  refine OG.guard_yes rfl rfl rfl (by decide) ?_
  refine OG.yield (Yield.nilCheck rfl) rfl ?_
  refine OG.guard_yes rfl rfl rfl (by decide) ?_
  refine OG.yield (Yield.fieldAddr fa107_0 rfl) rfl ?_
  refine OG.guard_yes rfl rfl rfl (by decide) ?_
  refine OG.yield (Yield.load ti105 rfl (by first | exact Cel.of_blk (by repeat (first | exact Ext.here | apply Ext.there)) rfl | exact (hrow (by repeat (first | exact Ext.here | apply Ext.there))) _ _ rfl)) rfl ?_
  refine OG.guard_yes rfl rfl rfl (by decide) ?_
  refine OG.yield (Yield.len_slice Try.underlying105 rfl rfl) rfl ?_
  refine OG.guard_yes rfl rfl rfl (by decide) ?_
  refine OG.yield (by first | exact Yield.as (Yield.geq rfl rfl) (bT (by omega)) | exact Yield.as (Yield.geq rfl rfl) (bF (by omega)) | exact Yield.geq rfl rfl) rfl ?_
  refine OG.yield (by first | exact Yield.pick_t rfl rfl | exact Yield.pick_f rfl rfl | exact Yield.pick rfl (fun _ => rfl) (fun _ => rfl)) rfl ?_
  refine OG.yield (Yield.assign rfl) rfl ?_
  refine OG.nil ?_
  refine QG.then ?_
  refine CG.cond_f rfl ?_
  refine CG.seq ?_
  refine CG.region ?_
  refine OG.yield (Yield.move rfl) rfl ?_
  refine OG.yield (Yield.len_slice Try.underlying73 rfl rfl) rfl ?_
  refine OG.yield (by first | exact Yield.as (Yield.gtr rfl rfl) (bT (by omega)) | exact Yield.as (Yield.gtr rfl rfl) (bF (by omega)) | exact Yield.gtr rfl rfl) rfl ?_
  refine OG.yield (Yield.assign rfl) rfl ?_
  refine OG.nil ?_
  refine QG.then ?_
  refine CG.cond_f rfl ?_
  refine CG.skip ?_
  refine QG.block_normal ?_
  refine QG.then ?_
  refine CG.seq ?_
  refine CG.region ?_
  refine OG.effd (Eff.alloc ti152) rfl ?_
  rintro b7 -
  refine OG.nil ?_
  refine QG.then ?_
  refine CG.seq ?_
  refine CG.imp (Imp.head (fun x hb => blk_osl (n := 256) (by simp [Value.cells]) x hb)) ?_
  rw [show (Value.agg (List.replicate 256 (Value.int .u8 0)).toArray).cells.toList = bytesV (List.replicate 256 0) by simp [Value.cells, bytesV, byteV]]
  refine CG.region ?_
  refine OG.yield (Yield.slice_arr Try.underlying152 ti5 rfl Bound.none Bound.none (by omega) (by omega) (by omega) (by omega)) rfl ?_
  refine OG.yield (Yield.move rfl) rfl ?_
  refine OG.effd (Eff.copyIn (b := b7) (o := 0) (j := 0) (n := 256) (k := ws.length) (ys := bytesV ws) rfl rfl rfl Try.underlying73 ti5 Foc.here (by omega) ((hr.imp (by repeat (first | exact Imp.refl _ | exact Imp.none _ | apply Imp.pull (by repeat (first | exact Ext.here | apply Ext.there)) | apply Imp.trans Imp.drop))).slR) bytesV_one) rfl ?_
  rintro ⟨⟩ -
  rw [show min ws.length 256 = (bytesV ws).length by rw [bytesV_length]; omega, List.take_length, over_bytes, over_zero hw]
  refine OG.nil ?_
  refine QG.then ?_
  refine CG.seq ?_
  refine CG.draw (.look 0 1 (.look 1 1 (.look 2 1 (.look 3 1 (.look 4 1 (.look 5 1 (.look 6 1 (.eff1 7 false (.done))))))))) [7] [] ([]) ([]) mixed (by kernel_rfl) (Imp.none _) (Imp.none _) ?_
  refine DG.look rfl rfl (Yield.move rfl) rfl ?_
  refine DG.look rfl rfl (Yield.nilCheck rfl) rfl ?_
  refine DG.look rfl rfl (Yield.fieldAddr fa107_0 rfl) rfl ?_
  refine DG.look rfl rfl (Yield.load ti105 rfl (by first | exact Cel.of_blk (by repeat (first | exact Ext.here | apply Ext.there)) rfl | exact (hrow (by repeat (first | exact Ext.here | apply Ext.there))) _ _ rfl)) rfl ?_
  refine DG.look rfl rfl (Yield.move rfl) rfl ?_
  refine DG.look rfl rfl (Yield.load_agg (vs := bytesV (fillB ws)) ti152 rfl (by rw [bytesV_length]; exact hfl) ((SlR.of_osl (a := some ⟨b7, 0, none⟩) (by repeat (first | exact Ext.here | apply Ext.there))).row 0 256 (by rw [List.drop_zero, bytesV_take, List.take_of_length_le (by omega)]))) rfl ?_
  refine DG.look rfl rfl (Yield.index_slice Try.underlying105 ti152 rfl rfl (by omega) (by omega)) rfl ?_
  refine DG.eff1 ?_
  refine Chg.eff rfl rfl (Eff.storeCells (b := b) (o := o) (i := k * 256) (k := 256) ti152 rfl rfl (by simp only [Value.cells]; rw [List.size_toArray, bytesV_length]; exact hfl) (by repeat (first | exact Foc.here | apply Foc.there)) (by simp only [Value.cells]; exact bytesV_one) (by omega)) rfl (fun _ => (by repeat (first | exact Imp.refl _ | exact Imp.none _ | apply Imp.pull (by repeat (first | exact Ext.here | apply Ext.there)) | apply Imp.trans Imp.drop))) (fun _ => Imp.refl _) (fun _ => (by repeat (first | exact Imp.refl _ | exact Imp.none _ | apply Imp.pull (by repeat (first | exact Ext.here | apply Ext.there)) | apply Imp.trans Imp.drop))) ?_
  rintro ⟨⟩ -
  rw [show (Value.agg (bytesV (fillB ws)).toArray).cells.toList = bytesV (fillB ws) from rfl, over_bytes]
  refine DG.done ?_
  refine QG.then ?_
  refine CG.seq ?_
  refine CG.region ?_
  refine OG.yield (Yield.assign rfl) rfl ?_
  refine OG.nil ?_
  refine QG.then ?_
  refine CG.ret ?_
  exact QG.ret1 rfl rfl () trivial rfl (Imp.trans (by repeat (first | exact Imp.refl _ | exact Imp.none _ | apply Imp.pull (by repeat (first | exact Ext.here | apply Ext.there)) | apply Imp.trans Imp.drop)) (m_close ((b, o), c) ⟨by rw [overB_len (by omega)]; exact hlen.1, hlen.2⟩))
theorem fill_bad {m n : Nat} {k : Int} {bs ws : List UInt8} {a : Option Addr} {c2 : Nat} (hk : k < 0 ∨ (n : Int) ≤ k ∨ 256 < ws.length) : Ctr Try.prog W0 42 [.pointer (some ⟨m, 0, none⟩), .int .i64 k, .slice a ws.length c2] (M m n bs :: Fr) (fun _ : Unit => True)
    (fun _ => .int .i64 (if k < 0 ∨ (n : Int) ≤ k then 2 else 9)) (fun _ => M m n bs :: Fr) := by
  refine Ctr.ex Ext.here m_open ?_
  rintro ⟨⟨b, o⟩, c⟩ hlen
  refine Ctr.imp star_open ?_
  dsimp only [MO, List.cons_append, List.nil_append]
  refine Ctr.of_body Try.func42 rfl Try.ntmps42 rfl ?_
  refine CG.seq ?_
  refine CG.region ?_
  refine OG.yield (Yield.assign rfl) rfl ?_
  refine OG.nil ?_
  refine QG.then ?_
  refine CG.seq ?_
  refine CG.block ?_
  refine CG.seq ?_
  rcases (show k < 0 ∨ (¬ k < 0 ∧ (n : Int) ≤ k) ∨ (0 ≤ k ∧ k < n ∧ 256 < ws.length) by omega) with hh | hh | hh
  · skip
    refine CG.region ?_
    refine OG.yield (Yield.move rfl) rfl ?_
    refine OG.yield (by first | exact Yield.as (Yield.lss rfl rfl) (bT (by omega)) | exact Yield.as (Yield.lss rfl rfl) (bF (by omega)) | exact Yield.lss rfl rfl) rfl ?_
    refine OG.yield (Yield.move rfl) rfl ?_
    refine OG.guard_no rfl rfl rfl rfl rfl (by decide) (by decide) ?_
    refine OG.guard_no rfl rfl rfl rfl rfl (by decide) (by decide) ?_
    refine OG.guard_no rfl rfl rfl rfl rfl (by decide) (by decide) ?_
    refine OG.guard_no rfl rfl rfl rfl rfl (by decide) (by decide) ?_
    refine OG.guard_no rfl rfl rfl rfl rfl (by decide) (by decide) ?_
    refine OG.guard_no rfl rfl rfl rfl rfl (by decide) (by decide) ?_
    refine OG.guard_no rfl rfl rfl rfl rfl (by decide) (by decide) ?_
    refine OG.yield (by first | exact Yield.pick_t rfl rfl | exact Yield.pick_f rfl rfl | exact Yield.pick rfl (fun _ => rfl) (fun _ => rfl)) rfl ?_
    refine OG.yield (Yield.assign rfl) rfl ?_
    refine OG.nil ?_
    refine QG.then ?_
    refine CG.cond_t rfl ?_
    refine CG.seq ?_
    refine CG.region ?_
    refine OG.yield (Yield.assign rfl) rfl ?_
    refine OG.nil ?_
    refine QG.then ?_
    refine CG.ret ?_
    refine QG.block_ret ?_
    refine QG.pass_ret ?_
    refine QG.ret1 rfl rfl () trivial ?_ (m_close ((b, o), c) hlen)
    first | (rw [if_pos (by omega)]; done) | (rw [if_neg (by omega)]; done)
  · skip
    refine CG.region ?_
    refine OG.yield (Yield.move rfl) rfl ?_
    refine OG.yield (by first | exact Yield.as (Yield.lss rfl rfl) (bT (by omega)) | exact Yield.as (Yield.lss rfl rfl) (bF (by omega)) | exact Yield.lss rfl rfl) rfl ?_
    refine OG.yield (Yield.move rfl) rfl ?_
    refine OG.guard_yes rfl rfl rfl (by decide) ?_
    refine OG.yield (Yield.move rfl) rfl ?_
    refine OG.guard_yes rfl rfl rfl (by decide) ?_
    refine OG.yield (Yield.move rfl) rfl ?_
    refine OG.guard_yes rfl rfl rfl (by decide) ?_
    refine OG.yield (Yield.nilCheck rfl) rfl ?_
    refine OG.guard_yes rfl rfl rfl (by decide) ?_
    refine OG.yield (Yield.fieldAddr fa107_0 rfl) rfl ?_
    refine OG.guard_yes rfl rfl rfl (by decide) ?_
    refine OG.yield (Yield.load ti105 rfl (by first | exact Cel.of_blk (by repeat (first | exact Ext.here | apply Ext.there)) rfl | exact (hrow (by repeat (first | exact Ext.here | apply Ext.there))) _ _ rfl)) rfl ?_
    refine OG.guard_yes rfl rfl rfl (by decide) ?_
    refine OG.yield (Yield.len_slice Try.underlying105 rfl rfl) rfl ?_
    refine OG.guard_yes rfl rfl rfl (by decide) ?_
    refine OG.yield (by first | exact Yield.as (Yield.geq rfl rfl) (bT (by omega)) | exact Yield.as (Yield.geq rfl rfl) (bF (by omega)) | exact Yield.geq rfl rfl) rfl ?_
    refine OG.yield (by first | exact Yield.pick_t rfl rfl | exact Yield.pick_f rfl rfl | exact Yield.pick rfl (fun _ => rfl) (fun _ => rfl)) rfl ?_
    refine OG.yield (Yield.assign rfl) rfl ?_
    refine OG.nil ?_
    refine QG.then ?_
    refine CG.cond_t rfl ?_
    refine CG.seq ?_
    refine CG.region ?_
    refine OG.yield (Yield.assign rfl) rfl ?_
    refine OG.nil ?_
    refine QG.then ?_
    refine CG.ret ?_
    refine QG.block_ret ?_
    refine QG.pass_ret ?_
    refine QG.ret1 rfl rfl () trivial ?_ (m_close ((b, o), c) hlen)
    first | (rw [if_pos (by omega)]; done) | (rw [if_neg (by omega)]; done)
  · skip
    refine CG.region ?_
    refine OG.yield (Yield.move rfl) rfl ?_
    refine OG.yield (by first | exact Yield.as (Yield.lss rfl rfl) (bT (by omega)) | exact Yield.as (Yield.lss rfl rfl) (bF (by omega)) | exact Yield.lss rfl rfl) rfl ?_
    refine OG.yield (Yield.move rfl) rfl ?_
    refine OG.guard_yes rfl rfl rfl (by decide) ?_
    refine OG.yield (Yield.move rfl) rfl ?_
    refine OG.guard_yes rfl rfl rfl (by decide) ?_
    refine OG.yield (Yield.move rfl) rfl ?_
    refine OG.guard_yes rfl rfl rfl (by decide) ?_
    refine OG.yield (Yield.nilCheck rfl) rfl ?_
    refine OG.guard_yes rfl rfl rfl (by decide) ?_
    refine OG.yield (Yield.fieldAddr fa107_0 rfl) rfl ?_
    refine OG.guard_yes rfl rfl rfl (by decide) ?_
    refine OG.yield (Yield.load ti105 rfl (by first | exact Cel.of_blk (by repeat (first | exact Ext.here | apply Ext.there)) rfl | exact (hrow (by repeat (first | exact Ext.here | apply Ext.there))) _ _ rfl)) rfl ?_
    refine OG.guard_yes rfl rfl rfl (by decide) ?_
    refine OG.yield (Yield.len_slice Try.underlying105 rfl rfl) rfl ?_
    refine OG.guard_yes rfl rfl rfl (by decide) ?_
    refine OG.yield (by first | exact Yield.as (Yield.geq rfl rfl) (bT (by omega)) | exact Yield.as (Yield.geq rfl rfl) (bF (by omega)) | exact Yield.geq rfl rfl) rfl ?_
    refine OG.yield (by first | exact Yield.pick_t rfl rfl | exact Yield.pick_f rfl rfl | exact Yield.pick rfl (fun _ => rfl) (fun _ => rfl)) rfl ?_
    refine OG.yield (Yield.assign rfl) rfl ?_
    refine OG.nil ?_
    refine QG.then ?_
    refine CG.cond_f rfl ?_
    refine CG.seq ?_
    refine CG.region ?_
    refine OG.yield (Yield.move rfl) rfl ?_
    refine OG.yield (Yield.len_slice Try.underlying73 rfl rfl) rfl ?_
    refine OG.yield (by first | exact Yield.as (Yield.gtr rfl rfl) (bT (by omega)) | exact Yield.as (Yield.gtr rfl rfl) (bF (by omega)) | exact Yield.gtr rfl rfl) rfl ?_
    refine OG.yield (Yield.assign rfl) rfl ?_
    refine OG.nil ?_
    refine QG.then ?_
    refine CG.cond_t rfl ?_
    refine CG.seq ?_
    refine CG.region ?_
    refine OG.yield (Yield.assign rfl) rfl ?_
    refine OG.nil ?_
    refine QG.then ?_
    refine CG.ret ?_
    refine QG.block_ret ?_
    refine QG.pass_ret ?_
    refine QG.ret1 rfl rfl () trivial ?_ (m_close ((b, o), c) hlen)
    first | (rw [if_pos (by omega)]; done) | (rw [if_neg (by omega)]; done)
end
end Go.Proofs.Ytmlfcfbblfcpdaa.Me
