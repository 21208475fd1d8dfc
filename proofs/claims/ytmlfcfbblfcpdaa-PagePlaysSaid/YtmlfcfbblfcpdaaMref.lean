/- The reference memory: what each function does. -/
import Derived.Test.YtmlfcfbblfcpdaaMkb
namespace Go.Proofs.Ytmlfcfbblfcpdaa.Me
open Go Go.Sl Go.RowKit Go.Proofs Go.Proofs.Ytmlfcfbblfcpdaa.T
set_option linter.unusedVariables false
set_option linter.unusedSimpArgs false
set_option maxRecDepth 100000
abbrev RMO (m : Nat) (bs : List UInt8) (p : PA) : List HProp :=
  [blk m [.slice (some ⟨p.1.1, p.1.2, none⟩) bs.length p.2] 116, oby 5 (some ⟨p.1.1, p.1.2, none⟩) p.2 bs]
/-- At block m lies a reference memory of n frames. -/
def RM (m n : Nat) (bs : List UInt8) : HProp := fun h => ∃ p : PA, (bs.length = n * 256 ∧ 1 ≤ n ∧ n ≤ 1024 ∧ bs.length ≤ p.2) ∧ Star (RMO m bs p) h
theorem rm_open {m n : Nat} {bs : List UInt8} (y : Heaplet) (h : RM m n bs y) : ∃ p : PA, (bs.length = n * 256 ∧ 1 ≤ n ∧ n ≤ 1024 ∧ bs.length ≤ p.2) ∧ Star (RMO m bs p) y := h
theorem rm_close {m n : Nat} {bs : List UInt8} {G : List HProp} (p : PA) (hl : bs.length = n * 256 ∧ 1 ≤ n ∧ n ≤ 1024 ∧ bs.length ≤ p.2) : Imp (RMO m bs p ++ G) (RM m n bs :: G) :=
  Imp.trans star_close (Imp.head fun y hy => ⟨p, hl, hy⟩)
theorem overB_over {bs zs ws : List UInt8} {a : Nat} (h : ws.length ≤ zs.length) (ha : a + zs.length ≤ bs.length) : overB (overB bs a zs) a ws = overB bs a (ws ++ zs.drop ws.length) := by
  have e0 : (bs.take a).length = a := by rw [List.length_take]; omega
  unfold overB
  rw [List.append_assoc (bs.take a), List.take_append, e0, Nat.sub_self, List.take_zero, List.append_nil, List.take_of_length_le (by omega : (bs.take a).length ≤ a), List.drop_append, e0, List.drop_eq_nil_of_le (by omega), List.nil_append, Nat.add_sub_cancel_left, List.drop_append, List.length_append, List.length_drop]
  rw [show ws.length - zs.length = 0 by omega, List.drop_zero, show a + (ws.length + (zs.length - ws.length)) = a + zs.length by omega]
  simp only [List.append_assoc]
section
variable (W0 : World) (Fr : List HProp)
theorem rget_spec {b o c : Nat} {bs : List UInt8} (hr : SlR W0 Fr 1 (some ⟨b, o, none⟩) bs.length (bytesV bs)) (hl : bs.length ≤ 8) : Ctr Try.prog W0 90 [.slice (some ⟨b, o, none⟩) bs.length c] Fr (fun _ : Unit => True) (fun _ => .int .u64 (leN bs)) (fun _ => Fr) := by
  refine Ctr.of_body Try.func90 rfl Try.ntmps90 rfl ?_
  refine CG.seq ?_
  refine CG.region ?_
  refine OG.yield (Yield.assign rfl) rfl ?_
  refine OG.nil ?_
  refine QG.then ?_
  refine CG.seq ?_
  refine CG.region ?_
  refine OG.yield (Yield.assign rfl) rfl ?_
  refine OG.nil ?_
  refine QG.then ?_
  refine CG.seq ?_
  refine CG.seq ?_
  refine CG.region ?_
  refine OG.yield (Yield.move rfl) rfl ?_
  refine OG.yield (Yield.len_slice Try.underlying73 rfl rfl) rfl ?_
  refine OG.yield (Yield.as (Yield.min2 rfl rfl) (v' := .int .i64 bs.length) (by congr 1; omega)) rfl ?_
  refine OG.yield (Yield.sub rfl rfl (w64 (by omega) (by omega))) rfl ?_
  refine OG.yield (Yield.assign rfl) rfl ?_
  refine OG.nil ?_
  refine QG.then ?_
  refine CG.block ?_
  refine CG.loop (fun j : Nat => j ≤ bs.length) (fun j => [(0, .slice (some ⟨b, o, none⟩) bs.length c), (3, .int .u64 (leN (bs.drop j))), (4, .int .i64 ((j : Int) - 1))]) (fun _ => Fr) (fun j => j) bs.length (Nat.le_refl _) (by rw [List.drop_length]; exact (by repeat (first | exact Env.sub_nil _ | refine Env.sub_cons rfl ?_))) (Imp.refl _) ?_
  intro j hj
  refine CG.seq ?_
  refine CG.seq ?_
  refine CG.region ?_
  refine OG.yield (Yield.move rfl) rfl ?_
  refine OG.yield (by first | exact Yield.as (Yield.geq rfl rfl) (bT (by omega)) | exact Yield.as (Yield.geq rfl rfl) (bF (by omega)) | exact Yield.geq rfl rfl) rfl ?_
  refine OG.nil ?_
  refine QG.then ?_
  refine CG.cond rfl (fun hc => ?_) (fun hc => ?_)
  · try replace hc := of_decide_eq_true hc
    obtain ⟨i, rfl⟩ : ∃ i, j = i + 1 := ⟨j - 1, by omega⟩
    have hi' : i < bs.length := by omega
    have hget : bs[i]? = some bs[i] := by simp [hi']
    generalize bs[i] = x at hget
    have hx := x.toNat_lt
    have hd := leN_drop hget
    have hdl := leN_lt64 (bs := bs.drop i) (by rw [List.length_drop]; omega)
    rw [show (((i + 1 : Nat) : Int) - 1) = (i : Int) by omega]
    refine CG.skip ?_
    refine QG.then ?_
    refine CG.seq ?_
    refine CG.block ?_
    refine CG.region ?_
    refine OG.yield (Yield.move rfl) rfl ?_
    refine OG.yield (Yield.mul (c := ((leN (bs.drop (i + 1)) * 256 : Nat) : Int)) rfl rfl (by rw [Int.natCast_mul]; exact wu64 (by omega) (by omega))) rfl ?_
    refine OG.yield (Yield.move rfl) rfl ?_
    refine OG.yield (Yield.move rfl) rfl ?_
    refine OG.yield (Yield.index_slice Try.underlying73 ti5 rfl rfl (by omega) (by omega)) rfl ?_
    refine OG.yield (Yield.load (v := byteV x) ti5 rfl (SlR.byte hr hget)) rfl ?_
    refine OG.yield (Yield.conv (c := (x.toNat : Int)) Try.underlying29 rfl rfl (wu64 (by omega) (by omega))) rfl ?_
    refine OG.yield (Yield.add (c := ((leN (bs.drop i) : Nat) : Int)) rfl rfl (by rw [← Int.natCast_add, show leN (bs.drop (i + 1)) * 256 + x.toNat = leN (bs.drop i) by omega]; exact wu64 (by omega) (by omega))) rfl ?_
    refine OG.yield (Yield.assign rfl) rfl ?_
    refine OG.nil ?_
    refine QG.block_normal ?_
    refine QG.then ?_
    refine CG.region ?_
    refine OG.yield (Yield.move rfl) rfl ?_
    refine OG.yield (Yield.sub rfl rfl (w64 (by omega) (by omega))) rfl ?_
    refine OG.yield (Yield.assign rfl) rfl ?_
    refine OG.nil ?_
    exact QG.next i (show i ≤ bs.length by omega) (show i < i + 1 by omega) (by repeat (first | exact Env.sub_nil _ | refine Env.sub_cons rfl ?_)) (by repeat (first | exact Imp.refl _ | exact Imp.none _ | apply Imp.pull (by repeat (first | exact Ext.here | apply Ext.there)) | apply Imp.trans Imp.drop))
  · try replace hc := of_decide_eq_false hc
    refine CG.exit ?_
    refine QG.pass_exit ?_
    refine QG.pass_exit ?_
    refine QG.block_exit ?_
    refine QG.then ?_
    refine CG.seq ?_
    refine CG.region ?_
    refine OG.yield (Yield.move rfl) rfl ?_
    refine OG.yield (Yield.assign rfl) rfl ?_
    refine OG.nil ?_
    refine QG.then ?_
    refine CG.ret ?_
    have : j = 0 := by omega
    subst this
    exact QG.ret1 rfl rfl () trivial rfl (by repeat (first | exact Imp.refl _ | exact Imp.none _ | apply Imp.pull (by repeat (first | exact Ext.here | apply Ext.there)) | apply Imp.trans Imp.drop))
theorem rput_spec {v s : Nat} (hs : s ≤ 8) (hv : v < 18446744073709551616) : Ctr Try.prog W0 55 [.int .u64 v, .int .i64 s] Fr (fun _ : Option Addr × Nat => True) (fun p => .slice p.1 (putB v s).length p.2) (fun p => oby 5 p.1 p.2 (putB v s) :: Fr) := by
  refine Ctr.of_body Try.func55 rfl Try.ntmps55 rfl ?_
  refine CG.seq ?_
  refine CG.region ?_
  refine OG.yield (Yield.assign rfl) rfl ?_
  refine OG.nil ?_
  refine QG.then ?_
  refine CG.seq ?_
  refine CG.region ?_
  refine OG.yield (Yield.assign rfl) rfl ?_
  refine OG.nil ?_
  refine QG.then ?_
  refine CG.seq ?_
  refine CG.seq ?_
  refine CG.region ?_
  refine OG.yield (Yield.assign rfl) rfl ?_
  refine OG.nil ?_
  refine QG.then ?_
  refine CG.block ?_
  refine CG.loop (fun i : Nat × Option Addr × Nat => i.1 ≤ s) (fun i => [(0, .int .u64 ((v / 2 ^ (8 * i.1) : Nat) : Int)), (1, .int .i64 s), (5, .slice i.2.1 (putB v i.1).length i.2.2), (6, .int .i64 i.1)]) (fun i => oby 5 i.2.1 i.2.2 (putB v i.1) :: Fr) (fun i => s - i.1) (0, none, 0) (Nat.zero_le _) (by rw [show v / 2 ^ (8 * (0, (none : Option Addr), 0).1) = v by simp]; exact (by repeat (first | exact Env.sub_nil _ | refine Env.sub_cons rfl ?_))) (Imp.trans (oby_nil (E := 5)) (Imp.refl _)) ?_
  rintro ⟨i, a, c⟩ (hi : i ≤ s)
  have hpl := putB_len v i
  have hvd : v / 2 ^ (8 * i) ≤ v := Nat.div_le_self _ _
  have hvs : v / 2 ^ (8 * i) / 256 = v / 2 ^ (8 * (i + 1)) := by rw [Nat.div_div_eq_div_mul, show 2 ^ (8 * (i + 1)) = 2 ^ (8 * i) * 256 by rw [Nat.mul_add, Nat.pow_add]]
  dsimp only
  refine CG.seq ?_
  refine CG.seq ?_
  rcases (show i < s ∨ ¬ i < s by omega) with hh | hh
  · skip
    refine CG.region ?_
    refine OG.yield (Yield.move rfl) rfl ?_
    refine OG.yield (Yield.move rfl) rfl ?_
    refine OG.yield (by first | exact Yield.as (Yield.lss rfl rfl) (bT (by omega)) | exact Yield.as (Yield.lss rfl rfl) (bF (by omega)) | exact Yield.lss rfl rfl) rfl ?_
    refine OG.yield (Yield.move rfl) rfl ?_
    refine OG.guard_yes rfl rfl rfl (by decide) ?_
    refine OG.yield (Yield.move rfl) rfl ?_
    refine OG.guard_yes rfl rfl rfl (by decide) ?_
    refine OG.yield (by first | exact Yield.as (Yield.lss rfl rfl) (bT (by omega)) | exact Yield.as (Yield.lss rfl rfl) (bF (by omega)) | exact Yield.lss rfl rfl) rfl ?_
    refine OG.yield (by first | exact Yield.pick_t rfl rfl | exact Yield.pick_f rfl rfl | exact Yield.pick rfl (fun _ => rfl) (fun _ => rfl)) rfl ?_
    refine OG.nil ?_
    refine QG.then ?_
    refine CG.cond_t rfl ?_
    refine CG.skip ?_
    refine QG.then ?_
    refine CG.seq ?_
    refine CG.block ?_
    refine CG.seq ?_
    refine CG.region ?_
    refine OG.yield (Yield.move rfl) rfl ?_
    refine OG.yield (Yield.move rfl) rfl ?_
    refine OG.yield (Yield.rem (c := ((v / 2 ^ (8 * i) % 256 : Nat) : Int)) rfl rfl (by decide) rfl) rfl ?_
    refine OG.yield (Yield.conv (c := ((UInt8.ofNat (v / 2 ^ (8 * i))).toNat : Int)) Try.underlying5 rfl rfl (by rw [IntKind.wrap_u8, UInt8.toNat_ofNat']; omega)) rfl ?_
    refine OG.effd (Eff.lit1 Try.underlying73 ti5 rfl rfl rfl) rfl ?_
    rintro b20 -
    refine OG.effd (Eff.appendB (bs := putB v i) (ys := [UInt8.ofNat (v / 2 ^ (8 * i))]) rfl rfl rfl Try.underlying73 Try.underlying73 ti5 (by decide) (by repeat (first | exact Foc.here | apply Foc.there)) (by first | exact SlR.of_osl (by repeat (first | exact Ext.here | apply Ext.there)) | exact SlR.of_osl_eq (by repeat (first | exact Ext.here | apply Ext.there)) rfl rfl | exact SlR.of_osl_eq (by repeat (first | exact Ext.here | apply Ext.there)) rfl (by simp [bytesV, byteV]) | assumption | exact SlAt.old (by assumption) (by repeat (first | exact Ext.here | apply Ext.there)) | exact RdB.slR (by assumption)) (by simp only [List.length_cons, List.length_nil]; omega)) rfl ?_
    rintro ⟨a21, c21⟩ -
    rw [← putB_succ]
    refine OG.yield (Yield.assign rfl) rfl ?_
    refine OG.nil ?_
    refine QG.then ?_
    refine CG.region ?_
    refine OG.yield (Yield.move rfl) rfl ?_
    refine OG.yield (Yield.quo (c := ((v / 2 ^ (8 * (i + 1)) : Nat) : Int)) rfl rfl (by decide) (by rw [← hvs]; exact quo_nat64 (b := 256) (by decide) (by omega))) rfl ?_
    refine OG.yield (Yield.assign rfl) rfl ?_
    refine OG.nil ?_
    refine QG.block_normal ?_
    refine QG.then ?_
    refine CG.region ?_
    refine OG.yield (Yield.move rfl) rfl ?_
    refine OG.yield (Yield.add rfl rfl (w64 (by omega) (by omega))) rfl ?_
    refine OG.yield (Yield.assign rfl) rfl ?_
    refine OG.nil ?_
    exact QG.next (i + 1, a21, c21) (show i + 1 ≤ s by omega) (show s - (i + 1) < s - i by omega) (by repeat (first | exact Env.sub_nil _ | refine Env.sub_cons rfl ?_)) (by repeat (first | exact Imp.refl _ | exact Imp.none _ | apply Imp.pull (by repeat (first | exact Ext.here | apply Ext.there)) | apply Imp.trans Imp.drop))
  · skip
    refine CG.region ?_
    refine OG.yield (Yield.move rfl) rfl ?_
    refine OG.yield (Yield.move rfl) rfl ?_
    refine OG.yield (by first | exact Yield.as (Yield.lss rfl rfl) (bT (by omega)) | exact Yield.as (Yield.lss rfl rfl) (bF (by omega)) | exact Yield.lss rfl rfl) rfl ?_
    refine OG.yield (Yield.move rfl) rfl ?_
    refine OG.guard_no rfl rfl rfl rfl rfl (by decide) (by decide) ?_
    refine OG.guard_no rfl rfl rfl rfl rfl (by decide) (by decide) ?_
    refine OG.yield (by first | exact Yield.pick_t rfl rfl | exact Yield.pick_f rfl rfl | exact Yield.pick rfl (fun _ => rfl) (fun _ => rfl)) rfl ?_
    refine OG.nil ?_
    refine QG.then ?_
    refine CG.cond_f rfl ?_
    refine CG.exit ?_
    refine QG.pass_exit ?_
    refine QG.pass_exit ?_
    refine QG.block_exit ?_
    refine QG.then ?_
    refine CG.seq ?_
    refine CG.region ?_
    refine OG.yield (Yield.move rfl) rfl ?_
    refine OG.yield (Yield.assign rfl) rfl ?_
    refine OG.nil ?_
    refine QG.then ?_
    refine CG.ret ?_
    have : i = s := by omega
    subst this
    exact QG.ret1 rfl rfl (a, c) trivial rfl (by repeat (first | exact Imp.refl _ | exact Imp.none _ | apply Imp.pull (by repeat (first | exact Ext.here | apply Ext.there)) | apply Imp.trans Imp.drop))
theorem rnew_spec {n : Nat} (h1 : 1 ≤ n) (h2 : n ≤ 1024) : Ctr Try.prog W0 15 [.int .i64 n] Fr (fun _ : Nat => True) (fun t => .tuple #[.pointer (some ⟨t, 0, none⟩), .int .i64 0]) (fun t => RM t n (List.replicate (n * 256) 0) :: Fr) := by
  refine Ctr.of_body Try.func15 rfl Try.ntmps15 rfl ?_
  refine CG.seq ?_
  refine CG.region ?_
  refine OG.yield (Yield.assign rfl) rfl ?_
  refine OG.yield (Yield.assign rfl) rfl ?_
  refine OG.nil ?_
  refine QG.then ?_
  refine CG.seq ?_
  refine CG.seq ?_
  refine CG.region ?_
  refine OG.yield (Yield.move rfl) rfl ?_
  refine OG.yield (by first | exact Yield.as (Yield.lss rfl rfl) (bT (by omega)) | exact Yield.as (Yield.lss rfl rfl) (bF (by omega)) | exact Yield.lss rfl rfl) rfl ?_
  refine OG.yield (Yield.move rfl) rfl ?_
  refine OG.guard_yes rfl rfl rfl (by decide) ?_
  refine OG.yield (Yield.move rfl) rfl ?_
  refine OG.guard_yes rfl rfl rfl (by decide) ?_
  refine OG.yield (by first | exact Yield.as (Yield.gtr rfl rfl) (bT (by omega)) | exact Yield.as (Yield.gtr rfl rfl) (bF (by omega)) | exact Yield.gtr rfl rfl) rfl ?_
  refine OG.yield (by first | exact Yield.pick_t rfl rfl | exact Yield.pick_f rfl rfl | exact Yield.pick rfl (fun _ => rfl) (fun _ => rfl)) rfl ?_
  refine OG.nil ?_
  refine QG.then ?_
  refine CG.cond_f rfl ?_
  refine CG.skip ?_
  refine QG.then ?_
  refine CG.seq ?_
  refine CG.region ?_
  refine OG.yield (Yield.move rfl) rfl ?_
  refine OG.yield (Yield.mul rfl rfl (w64 (by omega) (by omega))) rfl ?_
  refine OG.effd (Eff.makeB (n * 256) Try.underlying73 ti5 rfl (by omega) (by omega)) rfl ?_
  rintro b12 -
  refine OG.yield (Yield.build bu116 ti116 rfl (cells := [_]) rfl) rfl ?_
  refine OG.effd (Eff.box rfl) rfl ?_
  rintro b14 -
  refine OG.yield (Yield.assign rfl) rfl ?_
  refine OG.yield (Yield.assign rfl) rfl ?_
  refine OG.nil ?_
  refine QG.then ?_
  refine CG.ret ?_
  exact QG.ret2 rfl rfl rfl b14 trivial rfl (Imp.trans (by repeat (first | exact Imp.refl _ | exact Imp.none _ | apply Imp.pull (by repeat (first | exact Ext.here | apply Ext.there)) | apply Imp.trans Imp.drop)) (rm_close (n := n) ((b12, 0), n * 256) ⟨by rw [List.length_replicate], h1, h2, by rw [List.length_replicate]; exact Nat.le_refl _⟩))
theorem rnew_fail {n : Int} (h : n < 1 ∨ 1024 < n) : Ctr Try.prog W0 15 [.int .i64 n] Fr (fun _ : Unit => True) (fun _ => .tuple #[.pointer none, .int .i64 2]) (fun _ => Fr) := by
  refine Ctr.of_body Try.func15 rfl Try.ntmps15 rfl ?_
  refine CG.seq ?_
  refine CG.region ?_
  refine OG.yield (Yield.assign rfl) rfl ?_
  refine OG.yield (Yield.assign rfl) rfl ?_
  refine OG.nil ?_
  refine QG.then ?_
  refine CG.seq ?_
  refine CG.seq ?_
  rcases (show n < 1 ∨ (¬ n < 1 ∧ 1024 < n) by omega) with hh | hh
  · skip
    refine CG.region ?_
    refine OG.yield (Yield.move rfl) rfl ?_
    refine OG.yield (by first | exact Yield.as (Yield.lss rfl rfl) (bT (by omega)) | exact Yield.as (Yield.lss rfl rfl) (bF (by omega)) | exact Yield.lss rfl rfl) rfl ?_
    refine OG.yield (Yield.move rfl) rfl ?_
    refine OG.guard_no rfl rfl rfl rfl rfl (by decide) (by decide) ?_
    refine OG.guard_no rfl rfl rfl rfl rfl (by decide) (by decide) ?_
    refine OG.yield (by first | exact Yield.pick_t rfl rfl | exact Yield.pick_f rfl rfl | exact Yield.pick rfl (fun _ => rfl) (fun _ => rfl)) rfl ?_
    refine OG.nil ?_
    refine QG.then ?_
    refine CG.cond_t rfl ?_
    refine CG.seq ?_
    refine CG.region ?_
    refine OG.yield (Yield.assign rfl) rfl ?_
    refine OG.yield (Yield.assign rfl) rfl ?_
    refine OG.nil ?_
    refine QG.then ?_
    refine CG.ret ?_
    refine QG.pass_ret ?_
    exact QG.ret2 rfl rfl rfl () trivial rfl (by repeat (first | exact Imp.refl _ | exact Imp.none _ | apply Imp.pull (by repeat (first | exact Ext.here | apply Ext.there)) | apply Imp.trans Imp.drop))
  · skip
    refine CG.region ?_
    refine OG.yield (Yield.move rfl) rfl ?_
    refine OG.yield (by first | exact Yield.as (Yield.lss rfl rfl) (bT (by omega)) | exact Yield.as (Yield.lss rfl rfl) (bF (by omega)) | exact Yield.lss rfl rfl) rfl ?_
    refine OG.yield (Yield.move rfl) rfl ?_
    refine OG.guard_yes rfl rfl rfl (by decide) ?_
    refine OG.yield (Yield.move rfl) rfl ?_
    refine OG.guard_yes rfl rfl rfl (by decide) ?_
    refine OG.yield (by first | exact Yield.as (Yield.gtr rfl rfl) (bT (by omega)) | exact Yield.as (Yield.gtr rfl rfl) (bF (by omega)) | exact Yield.gtr rfl rfl) rfl ?_
    refine OG.yield (by first | exact Yield.pick_t rfl rfl | exact Yield.pick_f rfl rfl | exact Yield.pick rfl (fun _ => rfl) (fun _ => rfl)) rfl ?_
    refine OG.nil ?_
    refine QG.then ?_
    refine CG.cond_t rfl ?_
    refine CG.seq ?_
    refine CG.region ?_
    refine OG.yield (Yield.assign rfl) rfl ?_
    refine OG.yield (Yield.assign rfl) rfl ?_
    refine OG.nil ?_
    refine QG.then ?_
    refine CG.ret ?_
    refine QG.pass_ret ?_
    exact QG.ret2 rfl rfl rfl () trivial rfl (by repeat (first | exact Imp.refl _ | exact Imp.none _ | apply Imp.pull (by repeat (first | exact Ext.here | apply Ext.there)) | apply Imp.trans Imp.drop))
theorem rframes_spec {m n : Nat} {bs : List UInt8} : Ctr Try.prog W0 56 [.pointer (some ⟨m, 0, none⟩)] (RM m n bs :: Fr) (fun _ : Unit => True) (fun _ => .int .i64 n) (fun _ => RM m n bs :: Fr) := by
  refine Ctr.ex Ext.here rm_open ?_
  rintro ⟨⟨b, o⟩, c⟩ hlen
  refine Ctr.imp star_open ?_
  have hn := hlen.2
  dsimp only [RMO, List.cons_append, List.nil_append]
  refine Ctr.of_body Try.func56 rfl Try.ntmps56 rfl ?_
  refine CG.seq ?_
  refine CG.region ?_
  refine OG.yield (Yield.assign rfl) rfl ?_
  refine OG.nil ?_
  refine QG.then ?_
  refine CG.seq ?_
  refine CG.region ?_
  refine OG.yield (Yield.move rfl) rfl ?_
  refine OG.yield (Yield.nilCheck rfl) rfl ?_
  refine OG.yield (Yield.fieldAddr fa116_0 rfl) rfl ?_
  refine OG.yield (Yield.load ti73 rfl (by first | exact Cel.of_blk (by repeat (first | exact Ext.here | apply Ext.there)) rfl | exact (hrow (by repeat (first | exact Ext.here | apply Ext.there))) _ _ rfl)) rfl ?_
  refine OG.yield (Yield.len_slice Try.underlying73 rfl rfl) rfl ?_
  refine OG.yield (Yield.quo (c := (n : Int)) rfl rfl (by decide) ((quo_nat (b := 256) (by decide) (by omega)).trans (by omega))) rfl ?_
  refine OG.yield (Yield.assign rfl) rfl ?_
  refine OG.nil ?_
  refine QG.then ?_
  refine CG.ret ?_
  exact QG.ret1 rfl rfl () trivial rfl (Imp.trans (by repeat (first | exact Imp.refl _ | exact Imp.none _ | apply Imp.pull (by repeat (first | exact Ext.here | apply Ext.there)) | apply Imp.trans Imp.drop)) (rm_close ((b, o), c) hlen))
theorem has_spec {m n : Nat} {bs : List UInt8} (k : Int) : Ctr Try.prog W0 78 [.pointer (some ⟨m, 0, none⟩), .int .i64 k] (RM m n bs :: Fr) (fun _ : Unit => True) (fun _ => .bool (decide (0 ≤ k ∧ k < n))) (fun _ => RM m n bs :: Fr) := by
  refine Ctr.of_body Try.func78 rfl Try.ntmps78 rfl ?_
  refine CG.seq ?_
  refine CG.region ?_
  refine OG.yield (Yield.assign rfl) rfl ?_
  refine OG.nil ?_
  refine QG.then ?_
  refine CG.seq ?_
  rcases (show k < 0 ∨ (0 ≤ k ∧ ¬ k < n) ∨ (0 ≤ k ∧ k < n) by omega) with hh | hh | hh
  · skip
    refine CG.region ?_
    refine OG.yield (Yield.move rfl) rfl ?_
    refine OG.yield (by first | exact Yield.as (Yield.geq rfl rfl) (bT (by omega)) | exact Yield.as (Yield.geq rfl rfl) (bF (by omega)) | exact Yield.geq rfl rfl) rfl ?_
    refine OG.yield (Yield.move rfl) rfl ?_
    refine OG.guard_no rfl rfl rfl rfl rfl (by decide) (by decide) ?_
    refine OG.guard_no rfl rfl rfl rfl rfl (by decide) (by decide) ?_
    refine OG.guard_no rfl rfl rfl rfl rfl (by decide) (by decide) ?_
    refine OG.guard_no rfl rfl rfl rfl rfl (by decide) (by decide) ?_
    refine OG.yield (by first | exact Yield.pick_t rfl rfl | exact Yield.pick_f rfl rfl | exact Yield.pick rfl (fun _ => rfl) (fun _ => rfl)) rfl ?_
    refine OG.yield (Yield.assign rfl) rfl ?_
    refine OG.nil ?_
    refine QG.then ?_
    refine CG.ret ?_
    exact QG.ret1 rfl rfl () trivial (by rw [decide_eq_false (by omega)]) (Imp.refl _)
  · skip
    refine CG.region ?_
    refine OG.yield (Yield.move rfl) rfl ?_
    refine OG.yield (by first | exact Yield.as (Yield.geq rfl rfl) (bT (by omega)) | exact Yield.as (Yield.geq rfl rfl) (bF (by omega)) | exact Yield.geq rfl rfl) rfl ?_
    refine OG.yield (Yield.move rfl) rfl ?_
    refine OG.guard_yes rfl rfl rfl (by decide) ?_
    refine OG.yield (Yield.move rfl) rfl ?_
    refine OG.guard_yes rfl rfl rfl (by decide) ?_
    refine OG.yield (Yield.move rfl) rfl ?_
    refine OG.guard_yes rfl rfl rfl (by decide) ?_
    refine OG.callo call56 rfl (Imp.refl _) (rframes_spec W0 Fr) rfl ?_
    rintro ⟨⟩ -
    refine OG.guard_yes rfl rfl rfl (by decide) ?_
    refine OG.yield (by first | exact Yield.as (Yield.lss rfl rfl) (bT (by omega)) | exact Yield.as (Yield.lss rfl rfl) (bF (by omega)) | exact Yield.lss rfl rfl) rfl ?_
    refine OG.yield (by first | exact Yield.pick_t rfl rfl | exact Yield.pick_f rfl rfl | exact Yield.pick rfl (fun _ => rfl) (fun _ => rfl)) rfl ?_
    refine OG.yield (Yield.assign rfl) rfl ?_
    refine OG.nil ?_
    refine QG.then ?_
    refine CG.ret ?_
    exact QG.ret1 rfl rfl () trivial (by rw [decide_eq_false (by omega)]) (Imp.refl _)
  · skip
    refine CG.region ?_
    refine OG.yield (Yield.move rfl) rfl ?_
    refine OG.yield (by first | exact Yield.as (Yield.geq rfl rfl) (bT (by omega)) | exact Yield.as (Yield.geq rfl rfl) (bF (by omega)) | exact Yield.geq rfl rfl) rfl ?_
    refine OG.yield (Yield.move rfl) rfl ?_
    refine OG.guard_yes rfl rfl rfl (by decide) ?_
    refine OG.yield (Yield.move rfl) rfl ?_
    refine OG.guard_yes rfl rfl rfl (by decide) ?_
    refine OG.yield (Yield.move rfl) rfl ?_
    refine OG.guard_yes rfl rfl rfl (by decide) ?_
    refine OG.callo call56 rfl (Imp.refl _) (rframes_spec W0 Fr) rfl ?_
    rintro ⟨⟩ -
    refine OG.guard_yes rfl rfl rfl (by decide) ?_
    refine OG.yield (by first | exact Yield.as (Yield.lss rfl rfl) (bT (by omega)) | exact Yield.as (Yield.lss rfl rfl) (bF (by omega)) | exact Yield.lss rfl rfl) rfl ?_
    refine OG.yield (by first | exact Yield.pick_t rfl rfl | exact Yield.pick_f rfl rfl | exact Yield.pick rfl (fun _ => rfl) (fun _ => rfl)) rfl ?_
    refine OG.yield (Yield.assign rfl) rfl ?_
    refine OG.nil ?_
    refine QG.then ?_
    refine CG.ret ?_
    exact QG.ret1 rfl rfl () trivial (by rw [decide_eq_true hh]) (Imp.refl _)
theorem wrong_spec {m n a : Nat} {s : Int} {bs : List UInt8} (ha : a < 4294967296) : Ctr Try.prog W0 54 [.pointer (some ⟨m, 0, none⟩), .int .u32 a, .int .i64 s] (RM m n bs :: Fr) (fun _ : Unit => True)
    (fun _ => .int .i64 (merr n a s)) (fun _ => RM m n bs :: Fr) := by
  refine Ctr.ex Ext.here rm_open ?_
  rintro ⟨⟨b, o⟩, c⟩ hlen
  refine Ctr.imp star_open ?_
  have hn := hlen.2
  dsimp only [RMO, List.cons_append, List.nil_append]
  refine Ctr.of_body Try.func54 rfl Try.ntmps54 rfl ?_
  refine CG.seq ?_
  refine CG.region ?_
  refine OG.yield (Yield.assign rfl) rfl ?_
  refine OG.nil ?_
  refine QG.then ?_
  refine CG.seq ?_
  refine CG.seq ?_
  rcases (show (s ≠ 1 ∧ s ≠ 2 ∧ s ≠ 4 ∧ s ≠ 8) ∨ s = 1 ∨ s = 2 ∨ s = 4 ∨ s = 8 by omega) with hs | rfl | rfl | rfl | rfl
  · skip
    rw [show merr n a s = 5 by unfold merr; rw [if_pos hs]]
    refine CG.region ?_
    refine OG.yield (Yield.move rfl) rfl ?_
    refine OG.yield (by first | exact Yield.as (Yield.neq rfl rfl) (bT (by omega)) | exact Yield.as (Yield.neq rfl rfl) (bF (by omega)) | exact Yield.neq rfl rfl) rfl ?_
    refine OG.yield (Yield.move rfl) rfl ?_
    refine OG.guard_yes rfl rfl rfl (by decide) ?_
    refine OG.yield (Yield.move rfl) rfl ?_
    refine OG.guard_yes rfl rfl rfl (by decide) ?_
    refine OG.yield (by first | exact Yield.as (Yield.neq rfl rfl) (bT (by omega)) | exact Yield.as (Yield.neq rfl rfl) (bF (by omega)) | exact Yield.neq rfl rfl) rfl ?_
    refine OG.yield (by first | exact Yield.pick_t rfl rfl | exact Yield.pick_f rfl rfl | exact Yield.pick rfl (fun _ => rfl) (fun _ => rfl)) rfl ?_
    refine OG.yield (Yield.move rfl) rfl ?_
    refine OG.guard_yes rfl rfl rfl (by decide) ?_
    refine OG.yield (Yield.move rfl) rfl ?_
    refine OG.guard_yes rfl rfl rfl (by decide) ?_
    refine OG.yield (by first | exact Yield.as (Yield.neq rfl rfl) (bT (by omega)) | exact Yield.as (Yield.neq rfl rfl) (bF (by omega)) | exact Yield.neq rfl rfl) rfl ?_
    refine OG.yield (by first | exact Yield.pick_t rfl rfl | exact Yield.pick_f rfl rfl | exact Yield.pick rfl (fun _ => rfl) (fun _ => rfl)) rfl ?_
    refine OG.yield (Yield.move rfl) rfl ?_
    refine OG.guard_yes rfl rfl rfl (by decide) ?_
    refine OG.yield (Yield.move rfl) rfl ?_
    refine OG.guard_yes rfl rfl rfl (by decide) ?_
    refine OG.yield (by first | exact Yield.as (Yield.neq rfl rfl) (bT (by omega)) | exact Yield.as (Yield.neq rfl rfl) (bF (by omega)) | exact Yield.neq rfl rfl) rfl ?_
    refine OG.yield (by first | exact Yield.pick_t rfl rfl | exact Yield.pick_f rfl rfl | exact Yield.pick rfl (fun _ => rfl) (fun _ => rfl)) rfl ?_
    refine OG.nil ?_
    refine QG.then ?_
    refine CG.cond_t rfl ?_
    refine CG.seq ?_
    refine CG.region ?_
    refine OG.yield (Yield.assign rfl) rfl ?_
    refine OG.nil ?_
    refine QG.then ?_
    refine CG.ret ?_
    refine QG.pass_ret ?_
    refine QG.ret1 rfl rfl () trivial ?_ (Imp.trans (by repeat (first | exact Imp.refl _ | exact Imp.none _ | apply Imp.pull (by repeat (first | exact Ext.here | apply Ext.there)) | apply Imp.trans Imp.drop)) (rm_close ((b, o), c) hlen))
    first
      | rfl
      | (congr 1; unfold merr; rw [if_neg (by omega), if_pos (by omega)]; done)
      | (congr 1; unfold merr; rw [if_neg (by omega), if_neg (by omega), if_pos (by omega)]; done)
      | (congr 1; unfold merr; rw [if_neg (by omega), if_neg (by omega), if_neg (by omega)]; done)
  · skip
    skip
    refine CG.region ?_
    refine OG.yield (Yield.move rfl) rfl ?_
    refine OG.yield (by first | exact Yield.as (Yield.neq rfl rfl) (bT (by omega)) | exact Yield.as (Yield.neq rfl rfl) (bF (by omega)) | exact Yield.neq rfl rfl) rfl ?_
    refine OG.yield (Yield.move rfl) rfl ?_
    refine OG.guard_no rfl rfl rfl rfl rfl (by decide) (by decide) ?_
    refine OG.guard_no rfl rfl rfl rfl rfl (by decide) (by decide) ?_
    refine OG.yield (by first | exact Yield.pick_t rfl rfl | exact Yield.pick_f rfl rfl | exact Yield.pick rfl (fun _ => rfl) (fun _ => rfl)) rfl ?_
    refine OG.yield (Yield.move rfl) rfl ?_
    refine OG.guard_no rfl rfl rfl rfl rfl (by decide) (by decide) ?_
    refine OG.guard_no rfl rfl rfl rfl rfl (by decide) (by decide) ?_
    refine OG.yield (by first | exact Yield.pick_t rfl rfl | exact Yield.pick_f rfl rfl | exact Yield.pick rfl (fun _ => rfl) (fun _ => rfl)) rfl ?_
    refine OG.yield (Yield.move rfl) rfl ?_
    refine OG.guard_no rfl rfl rfl rfl rfl (by decide) (by decide) ?_
    refine OG.guard_no rfl rfl rfl rfl rfl (by decide) (by decide) ?_
    refine OG.yield (by first | exact Yield.pick_t rfl rfl | exact Yield.pick_f rfl rfl | exact Yield.pick rfl (fun _ => rfl) (fun _ => rfl)) rfl ?_
    refine OG.nil ?_
    refine QG.then ?_
    refine CG.cond_f rfl ?_
    refine CG.skip ?_
    refine QG.then ?_
    refine CG.seq ?_
    refine CG.seq ?_
    rcases (show a % 1 ≠ 0 ∨ (a % 1 = 0 ∧ n * 256 < a + 1) ∨ (a % 1 = 0 ∧ a + 1 ≤ n * 256) by omega) with hx | hx | hx
    · skip
      refine CG.region ?_
      refine OG.yield (Yield.move rfl) rfl ?_
      refine OG.yield (by first | exact Yield.conv Try.underlying3 rfl rfl (w64 (by omega) (by omega)) | exact Yield.conv Try.underlying3 rfl rfl rfl) rfl ?_
      refine OG.yield (Yield.move rfl) rfl ?_
      refine OG.yield (Yield.rem rfl rfl (by omega) (tmod_pos (by omega) (by omega))) rfl ?_
      refine OG.yield (by first | exact Yield.as (Yield.neq rfl rfl) (bT (by omega)) | exact Yield.as (Yield.neq rfl rfl) (bF (by omega)) | exact Yield.neq rfl rfl) rfl ?_
      refine OG.nil ?_
      refine QG.then ?_
      refine CG.cond_t rfl ?_
      refine CG.seq ?_
      refine CG.region ?_
      refine OG.yield (Yield.assign rfl) rfl ?_
      refine OG.nil ?_
      refine QG.then ?_
      refine CG.ret ?_
      refine QG.pass_ret ?_
      refine QG.ret1 rfl rfl () trivial ?_ (Imp.trans (by repeat (first | exact Imp.refl _ | exact Imp.none _ | apply Imp.pull (by repeat (first | exact Ext.here | apply Ext.there)) | apply Imp.trans Imp.drop)) (rm_close ((b, o), c) hlen))
      first
        | rfl
        | (congr 1; unfold merr; rw [if_neg (by omega), if_pos (by omega)]; done)
        | (congr 1; unfold merr; rw [if_neg (by omega), if_neg (by omega), if_pos (by omega)]; done)
        | (congr 1; unfold merr; rw [if_neg (by omega), if_neg (by omega), if_neg (by omega)]; done)
    · skip
      refine CG.region ?_
      refine OG.yield (Yield.move rfl) rfl ?_
      refine OG.yield (by first | exact Yield.conv Try.underlying3 rfl rfl (w64 (by omega) (by omega)) | exact Yield.conv Try.underlying3 rfl rfl rfl) rfl ?_
      refine OG.yield (Yield.move rfl) rfl ?_
      refine OG.yield (Yield.rem rfl rfl (by omega) (tmod_pos (by omega) (by omega))) rfl ?_
      refine OG.yield (by first | exact Yield.as (Yield.neq rfl rfl) (bT (by omega)) | exact Yield.as (Yield.neq rfl rfl) (bF (by omega)) | exact Yield.neq rfl rfl) rfl ?_
      refine OG.nil ?_
      refine QG.then ?_
      refine CG.cond_f rfl ?_
      refine CG.skip ?_
      refine QG.then ?_
      refine CG.seq ?_
      refine CG.seq ?_
      refine CG.region ?_
      refine OG.yield (Yield.move rfl) rfl ?_
      refine OG.yield (by first | exact Yield.conv Try.underlying3 rfl rfl (w64 (by omega) (by omega)) | exact Yield.conv Try.underlying3 rfl rfl rfl) rfl ?_
      refine OG.yield (Yield.move rfl) rfl ?_
      refine OG.yield (Yield.add rfl rfl (w64 (by omega) (by omega))) rfl ?_
      refine OG.yield (Yield.move rfl) rfl ?_
      refine OG.yield (Yield.nilCheck rfl) rfl ?_
      refine OG.yield (Yield.fieldAddr fa116_0 rfl) rfl ?_
      refine OG.yield (Yield.load ti73 rfl (by first | exact Cel.of_blk (by repeat (first | exact Ext.here | apply Ext.there)) rfl | exact (hrow (by repeat (first | exact Ext.here | apply Ext.there))) _ _ rfl)) rfl ?_
      refine OG.yield (Yield.len_slice Try.underlying73 rfl rfl) rfl ?_
      refine OG.yield (by first | exact Yield.as (Yield.gtr rfl rfl) (bT (by omega)) | exact Yield.as (Yield.gtr rfl rfl) (bF (by omega)) | exact Yield.gtr rfl rfl) rfl ?_
      refine OG.nil ?_
      refine QG.then ?_
      refine CG.cond_t rfl ?_
      refine CG.seq ?_
      refine CG.region ?_
      refine OG.yield (Yield.assign rfl) rfl ?_
      refine OG.nil ?_
      refine QG.then ?_
      refine CG.ret ?_
      refine QG.pass_ret ?_
      refine QG.ret1 rfl rfl () trivial ?_ (Imp.trans (by repeat (first | exact Imp.refl _ | exact Imp.none _ | apply Imp.pull (by repeat (first | exact Ext.here | apply Ext.there)) | apply Imp.trans Imp.drop)) (rm_close ((b, o), c) hlen))
      first
        | rfl
        | (congr 1; unfold merr; rw [if_neg (by omega), if_pos (by omega)]; done)
        | (congr 1; unfold merr; rw [if_neg (by omega), if_neg (by omega), if_pos (by omega)]; done)
        | (congr 1; unfold merr; rw [if_neg (by omega), if_neg (by omega), if_neg (by omega)]; done)
    · skip
      refine CG.region ?_
      refine OG.yield (Yield.move rfl) rfl ?_
      refine OG.yield (by first | exact Yield.conv Try.underlying3 rfl rfl (w64 (by omega) (by omega)) | exact Yield.conv Try.underlying3 rfl rfl rfl) rfl ?_
      refine OG.yield (Yield.move rfl) rfl ?_
      refine OG.yield (Yield.rem rfl rfl (by omega) (tmod_pos (by omega) (by omega))) rfl ?_
      refine OG.yield (by first | exact Yield.as (Yield.neq rfl rfl) (bT (by omega)) | exact Yield.as (Yield.neq rfl rfl) (bF (by omega)) | exact Yield.neq rfl rfl) rfl ?_
      refine OG.nil ?_
      refine QG.then ?_
      refine CG.cond_f rfl ?_
      refine CG.skip ?_
      refine QG.then ?_
      refine CG.seq ?_
      refine CG.seq ?_
      refine CG.region ?_
      refine OG.yield (Yield.move rfl) rfl ?_
      refine OG.yield (by first | exact Yield.conv Try.underlying3 rfl rfl (w64 (by omega) (by omega)) | exact Yield.conv Try.underlying3 rfl rfl rfl) rfl ?_
      refine OG.yield (Yield.move rfl) rfl ?_
      refine OG.yield (Yield.add rfl rfl (w64 (by omega) (by omega))) rfl ?_
      refine OG.yield (Yield.move rfl) rfl ?_
      refine OG.yield (Yield.nilCheck rfl) rfl ?_
      refine OG.yield (Yield.fieldAddr fa116_0 rfl) rfl ?_
      refine OG.yield (Yield.load ti73 rfl (by first | exact Cel.of_blk (by repeat (first | exact Ext.here | apply Ext.there)) rfl | exact (hrow (by repeat (first | exact Ext.here | apply Ext.there))) _ _ rfl)) rfl ?_
      refine OG.yield (Yield.len_slice Try.underlying73 rfl rfl) rfl ?_
      refine OG.yield (by first | exact Yield.as (Yield.gtr rfl rfl) (bT (by omega)) | exact Yield.as (Yield.gtr rfl rfl) (bF (by omega)) | exact Yield.gtr rfl rfl) rfl ?_
      refine OG.nil ?_
      refine QG.then ?_
      refine CG.cond_f rfl ?_
      refine CG.skip ?_
      refine QG.then ?_
      refine CG.seq ?_
      refine CG.region ?_
      refine OG.yield (Yield.assign rfl) rfl ?_
      refine OG.nil ?_
      refine QG.then ?_
      refine CG.ret ?_
      refine QG.ret1 rfl rfl () trivial ?_ (Imp.trans (by repeat (first | exact Imp.refl _ | exact Imp.none _ | apply Imp.pull (by repeat (first | exact Ext.here | apply Ext.there)) | apply Imp.trans Imp.drop)) (rm_close ((b, o), c) hlen))
      first
        | rfl
        | (congr 1; unfold merr; rw [if_neg (by omega), if_pos (by omega)]; done)
        | (congr 1; unfold merr; rw [if_neg (by omega), if_neg (by omega), if_pos (by omega)]; done)
        | (congr 1; unfold merr; rw [if_neg (by omega), if_neg (by omega), if_neg (by omega)]; done)
  · skip
    skip
    refine CG.region ?_
    refine OG.yield (Yield.move rfl) rfl ?_
    refine OG.yield (by first | exact Yield.as (Yield.neq rfl rfl) (bT (by omega)) | exact Yield.as (Yield.neq rfl rfl) (bF (by omega)) | exact Yield.neq rfl rfl) rfl ?_
    refine OG.yield (Yield.move rfl) rfl ?_
    refine OG.guard_yes rfl rfl rfl (by decide) ?_
    refine OG.yield (Yield.move rfl) rfl ?_
    refine OG.guard_yes rfl rfl rfl (by decide) ?_
    refine OG.yield (by first | exact Yield.as (Yield.neq rfl rfl) (bT (by omega)) | exact Yield.as (Yield.neq rfl rfl) (bF (by omega)) | exact Yield.neq rfl rfl) rfl ?_
    refine OG.yield (by first | exact Yield.pick_t rfl rfl | exact Yield.pick_f rfl rfl | exact Yield.pick rfl (fun _ => rfl) (fun _ => rfl)) rfl ?_
    refine OG.yield (Yield.move rfl) rfl ?_
    refine OG.guard_no rfl rfl rfl rfl rfl (by decide) (by decide) ?_
    refine OG.guard_no rfl rfl rfl rfl rfl (by decide) (by decide) ?_
    refine OG.yield (by first | exact Yield.pick_t rfl rfl | exact Yield.pick_f rfl rfl | exact Yield.pick rfl (fun _ => rfl) (fun _ => rfl)) rfl ?_
    refine OG.yield (Yield.move rfl) rfl ?_
    refine OG.guard_no rfl rfl rfl rfl rfl (by decide) (by decide) ?_
    refine OG.guard_no rfl rfl rfl rfl rfl (by decide) (by decide) ?_
    refine OG.yield (by first | exact Yield.pick_t rfl rfl | exact Yield.pick_f rfl rfl | exact Yield.pick rfl (fun _ => rfl) (fun _ => rfl)) rfl ?_
    refine OG.nil ?_
    refine QG.then ?_
    refine CG.cond_f rfl ?_
    refine CG.skip ?_
    refine QG.then ?_
    refine CG.seq ?_
    refine CG.seq ?_
    rcases (show a % 2 ≠ 0 ∨ (a % 2 = 0 ∧ n * 256 < a + 2) ∨ (a % 2 = 0 ∧ a + 2 ≤ n * 256) by omega) with hx | hx | hx
    · skip
      refine CG.region ?_
      refine OG.yield (Yield.move rfl) rfl ?_
      refine OG.yield (by first | exact Yield.conv Try.underlying3 rfl rfl (w64 (by omega) (by omega)) | exact Yield.conv Try.underlying3 rfl rfl rfl) rfl ?_
      refine OG.yield (Yield.move rfl) rfl ?_
      refine OG.yield (Yield.rem rfl rfl (by omega) (tmod_pos (by omega) (by omega))) rfl ?_
      refine OG.yield (by first | exact Yield.as (Yield.neq rfl rfl) (bT (by omega)) | exact Yield.as (Yield.neq rfl rfl) (bF (by omega)) | exact Yield.neq rfl rfl) rfl ?_
      refine OG.nil ?_
      refine QG.then ?_
      refine CG.cond_t rfl ?_
      refine CG.seq ?_
      refine CG.region ?_
      refine OG.yield (Yield.assign rfl) rfl ?_
      refine OG.nil ?_
      refine QG.then ?_
      refine CG.ret ?_
      refine QG.pass_ret ?_
      refine QG.ret1 rfl rfl () trivial ?_ (Imp.trans (by repeat (first | exact Imp.refl _ | exact Imp.none _ | apply Imp.pull (by repeat (first | exact Ext.here | apply Ext.there)) | apply Imp.trans Imp.drop)) (rm_close ((b, o), c) hlen))
      first
        | rfl
        | (congr 1; unfold merr; rw [if_neg (by omega), if_pos (by omega)]; done)
        | (congr 1; unfold merr; rw [if_neg (by omega), if_neg (by omega), if_pos (by omega)]; done)
        | (congr 1; unfold merr; rw [if_neg (by omega), if_neg (by omega), if_neg (by omega)]; done)
    · skip
      refine CG.region ?_
      refine OG.yield (Yield.move rfl) rfl ?_
      refine OG.yield (by first | exact Yield.conv Try.underlying3 rfl rfl (w64 (by omega) (by omega)) | exact Yield.conv Try.underlying3 rfl rfl rfl) rfl ?_
      refine OG.yield (Yield.move rfl) rfl ?_
      refine OG.yield (Yield.rem rfl rfl (by omega) (tmod_pos (by omega) (by omega))) rfl ?_
      refine OG.yield (by first | exact Yield.as (Yield.neq rfl rfl) (bT (by omega)) | exact Yield.as (Yield.neq rfl rfl) (bF (by omega)) | exact Yield.neq rfl rfl) rfl ?_
      refine OG.nil ?_
      refine QG.then ?_
      refine CG.cond_f rfl ?_
      refine CG.skip ?_
      refine QG.then ?_
      refine CG.seq ?_
      refine CG.seq ?_
      refine CG.region ?_
      refine OG.yield (Yield.move rfl) rfl ?_
      refine OG.yield (by first | exact Yield.conv Try.underlying3 rfl rfl (w64 (by omega) (by omega)) | exact Yield.conv Try.underlying3 rfl rfl rfl) rfl ?_
      refine OG.yield (Yield.move rfl) rfl ?_
      refine OG.yield (Yield.add rfl rfl (w64 (by omega) (by omega))) rfl ?_
      refine OG.yield (Yield.move rfl) rfl ?_
      refine OG.yield (Yield.nilCheck rfl) rfl ?_
      refine OG.yield (Yield.fieldAddr fa116_0 rfl) rfl ?_
      refine OG.yield (Yield.load ti73 rfl (by first | exact Cel.of_blk (by repeat (first | exact Ext.here | apply Ext.there)) rfl | exact (hrow (by repeat (first | exact Ext.here | apply Ext.there))) _ _ rfl)) rfl ?_
      refine OG.yield (Yield.len_slice Try.underlying73 rfl rfl) rfl ?_
      refine OG.yield (by first | exact Yield.as (Yield.gtr rfl rfl) (bT (by omega)) | exact Yield.as (Yield.gtr rfl rfl) (bF (by omega)) | exact Yield.gtr rfl rfl) rfl ?_
      refine OG.nil ?_
      refine QG.then ?_
      refine CG.cond_t rfl ?_
      refine CG.seq ?_
      refine CG.region ?_
      refine OG.yield (Yield.assign rfl) rfl ?_
      refine OG.nil ?_
      refine QG.then ?_
      refine CG.ret ?_
      refine QG.pass_ret ?_
      refine QG.ret1 rfl rfl () trivial ?_ (Imp.trans (by repeat (first | exact Imp.refl _ | exact Imp.none _ | apply Imp.pull (by repeat (first | exact Ext.here | apply Ext.there)) | apply Imp.trans Imp.drop)) (rm_close ((b, o), c) hlen))
      first
        | rfl
        | (congr 1; unfold merr; rw [if_neg (by omega), if_pos (by omega)]; done)
        | (congr 1; unfold merr; rw [if_neg (by omega), if_neg (by omega), if_pos (by omega)]; done)
        | (congr 1; unfold merr; rw [if_neg (by omega), if_neg (by omega), if_neg (by omega)]; done)
    · skip
      refine CG.region ?_
      refine OG.yield (Yield.move rfl) rfl ?_
      refine OG.yield (by first | exact Yield.conv Try.underlying3 rfl rfl (w64 (by omega) (by omega)) | exact Yield.conv Try.underlying3 rfl rfl rfl) rfl ?_
      refine OG.yield (Yield.move rfl) rfl ?_
      refine OG.yield (Yield.rem rfl rfl (by omega) (tmod_pos (by omega) (by omega))) rfl ?_
      refine OG.yield (by first | exact Yield.as (Yield.neq rfl rfl) (bT (by omega)) | exact Yield.as (Yield.neq rfl rfl) (bF (by omega)) | exact Yield.neq rfl rfl) rfl ?_
      refine OG.nil ?_
      refine QG.then ?_
      refine CG.cond_f rfl ?_
      refine CG.skip ?_
      refine QG.then ?_
      refine CG.seq ?_
      refine CG.seq ?_
      refine CG.region ?_
      refine OG.yield (Yield.move rfl) rfl ?_
      refine OG.yield (by first | exact Yield.conv Try.underlying3 rfl rfl (w64 (by omega) (by omega)) | exact Yield.conv Try.underlying3 rfl rfl rfl) rfl ?_
      refine OG.yield (Yield.move rfl) rfl ?_
      refine OG.yield (Yield.add rfl rfl (w64 (by omega) (by omega))) rfl ?_
      refine OG.yield (Yield.move rfl) rfl ?_
      refine OG.yield (Yield.nilCheck rfl) rfl ?_
      refine OG.yield (Yield.fieldAddr fa116_0 rfl) rfl ?_
      refine OG.yield (Yield.load ti73 rfl (by first | exact Cel.of_blk (by repeat (first | exact Ext.here | apply Ext.there)) rfl | exact (hrow (by repeat (first | exact Ext.here | apply Ext.there))) _ _ rfl)) rfl ?_
      refine OG.yield (Yield.len_slice Try.underlying73 rfl rfl) rfl ?_
      refine OG.yield (by first | exact Yield.as (Yield.gtr rfl rfl) (bT (by omega)) | exact Yield.as (Yield.gtr rfl rfl) (bF (by omega)) | exact Yield.gtr rfl rfl) rfl ?_
      refine OG.nil ?_
      refine QG.then ?_
      refine CG.cond_f rfl ?_
      refine CG.skip ?_
      refine QG.then ?_
      refine CG.seq ?_
      refine CG.region ?_
      refine OG.yield (Yield.assign rfl) rfl ?_
      refine OG.nil ?_
      refine QG.then ?_
      refine CG.ret ?_
      refine QG.ret1 rfl rfl () trivial ?_ (Imp.trans (by repeat (first | exact Imp.refl _ | exact Imp.none _ | apply Imp.pull (by repeat (first | exact Ext.here | apply Ext.there)) | apply Imp.trans Imp.drop)) (rm_close ((b, o), c) hlen))
      first
        | rfl
        | (congr 1; unfold merr; rw [if_neg (by omega), if_pos (by omega)]; done)
        | (congr 1; unfold merr; rw [if_neg (by omega), if_neg (by omega), if_pos (by omega)]; done)
        | (congr 1; unfold merr; rw [if_neg (by omega), if_neg (by omega), if_neg (by omega)]; done)
  · skip
    skip
    refine CG.region ?_
    refine OG.yield (Yield.move rfl) rfl ?_
    refine OG.yield (by first | exact Yield.as (Yield.neq rfl rfl) (bT (by omega)) | exact Yield.as (Yield.neq rfl rfl) (bF (by omega)) | exact Yield.neq rfl rfl) rfl ?_
    refine OG.yield (Yield.move rfl) rfl ?_
    refine OG.guard_yes rfl rfl rfl (by decide) ?_
    refine OG.yield (Yield.move rfl) rfl ?_
    refine OG.guard_yes rfl rfl rfl (by decide) ?_
    refine OG.yield (by first | exact Yield.as (Yield.neq rfl rfl) (bT (by omega)) | exact Yield.as (Yield.neq rfl rfl) (bF (by omega)) | exact Yield.neq rfl rfl) rfl ?_
    refine OG.yield (by first | exact Yield.pick_t rfl rfl | exact Yield.pick_f rfl rfl | exact Yield.pick rfl (fun _ => rfl) (fun _ => rfl)) rfl ?_
    refine OG.yield (Yield.move rfl) rfl ?_
    refine OG.guard_yes rfl rfl rfl (by decide) ?_
    refine OG.yield (Yield.move rfl) rfl ?_
    refine OG.guard_yes rfl rfl rfl (by decide) ?_
    refine OG.yield (by first | exact Yield.as (Yield.neq rfl rfl) (bT (by omega)) | exact Yield.as (Yield.neq rfl rfl) (bF (by omega)) | exact Yield.neq rfl rfl) rfl ?_
    refine OG.yield (by first | exact Yield.pick_t rfl rfl | exact Yield.pick_f rfl rfl | exact Yield.pick rfl (fun _ => rfl) (fun _ => rfl)) rfl ?_
    refine OG.yield (Yield.move rfl) rfl ?_
    refine OG.guard_no rfl rfl rfl rfl rfl (by decide) (by decide) ?_
    refine OG.guard_no rfl rfl rfl rfl rfl (by decide) (by decide) ?_
    refine OG.yield (by first | exact Yield.pick_t rfl rfl | exact Yield.pick_f rfl rfl | exact Yield.pick rfl (fun _ => rfl) (fun _ => rfl)) rfl ?_
    refine OG.nil ?_
    refine QG.then ?_
    refine CG.cond_f rfl ?_
    refine CG.skip ?_
    refine QG.then ?_
    refine CG.seq ?_
    refine CG.seq ?_
    rcases (show a % 4 ≠ 0 ∨ (a % 4 = 0 ∧ n * 256 < a + 4) ∨ (a % 4 = 0 ∧ a + 4 ≤ n * 256) by omega) with hx | hx | hx
    · skip
      refine CG.region ?_
      refine OG.yield (Yield.move rfl) rfl ?_
      refine OG.yield (by first | exact Yield.conv Try.underlying3 rfl rfl (w64 (by omega) (by omega)) | exact Yield.conv Try.underlying3 rfl rfl rfl) rfl ?_
      refine OG.yield (Yield.move rfl) rfl ?_
      refine OG.yield (Yield.rem rfl rfl (by omega) (tmod_pos (by omega) (by omega))) rfl ?_
      refine OG.yield (by first | exact Yield.as (Yield.neq rfl rfl) (bT (by omega)) | exact Yield.as (Yield.neq rfl rfl) (bF (by omega)) | exact Yield.neq rfl rfl) rfl ?_
      refine OG.nil ?_
      refine QG.then ?_
      refine CG.cond_t rfl ?_
      refine CG.seq ?_
      refine CG.region ?_
      refine OG.yield (Yield.assign rfl) rfl ?_
      refine OG.nil ?_
      refine QG.then ?_
      refine CG.ret ?_
      refine QG.pass_ret ?_
      refine QG.ret1 rfl rfl () trivial ?_ (Imp.trans (by repeat (first | exact Imp.refl _ | exact Imp.none _ | apply Imp.pull (by repeat (first | exact Ext.here | apply Ext.there)) | apply Imp.trans Imp.drop)) (rm_close ((b, o), c) hlen))
      first
        | rfl
        | (congr 1; unfold merr; rw [if_neg (by omega), if_pos (by omega)]; done)
        | (congr 1; unfold merr; rw [if_neg (by omega), if_neg (by omega), if_pos (by omega)]; done)
        | (congr 1; unfold merr; rw [if_neg (by omega), if_neg (by omega), if_neg (by omega)]; done)
    · skip
      refine CG.region ?_
      refine OG.yield (Yield.move rfl) rfl ?_
      refine OG.yield (by first | exact Yield.conv Try.underlying3 rfl rfl (w64 (by omega) (by omega)) | exact Yield.conv Try.underlying3 rfl rfl rfl) rfl ?_
      refine OG.yield (Yield.move rfl) rfl ?_
      refine OG.yield (Yield.rem rfl rfl (by omega) (tmod_pos (by omega) (by omega))) rfl ?_
      refine OG.yield (by first | exact Yield.as (Yield.neq rfl rfl) (bT (by omega)) | exact Yield.as (Yield.neq rfl rfl) (bF (by omega)) | exact Yield.neq rfl rfl) rfl ?_
      refine OG.nil ?_
      refine QG.then ?_
      refine CG.cond_f rfl ?_
      refine CG.skip ?_
      refine QG.then ?_
      refine CG.seq ?_
      refine CG.seq ?_
      refine CG.region ?_
      refine OG.yield (Yield.move rfl) rfl ?_
      refine OG.yield (by first | exact Yield.conv Try.underlying3 rfl rfl (w64 (by omega) (by omega)) | exact Yield.conv Try.underlying3 rfl rfl rfl) rfl ?_
      refine OG.yield (Yield.move rfl) rfl ?_
      refine OG.yield (Yield.add rfl rfl (w64 (by omega) (by omega))) rfl ?_
      refine OG.yield (Yield.move rfl) rfl ?_
      refine OG.yield (Yield.nilCheck rfl) rfl ?_
      refine OG.yield (Yield.fieldAddr fa116_0 rfl) rfl ?_
      refine OG.yield (Yield.load ti73 rfl (by first | exact Cel.of_blk (by repeat (first | exact Ext.here | apply Ext.there)) rfl | exact (hrow (by repeat (first | exact Ext.here | apply Ext.there))) _ _ rfl)) rfl ?_
      refine OG.yield (Yield.len_slice Try.underlying73 rfl rfl) rfl ?_
      refine OG.yield (by first | exact Yield.as (Yield.gtr rfl rfl) (bT (by omega)) | exact Yield.as (Yield.gtr rfl rfl) (bF (by omega)) | exact Yield.gtr rfl rfl) rfl ?_
      refine OG.nil ?_
      refine QG.then ?_
      refine CG.cond_t rfl ?_
      refine CG.seq ?_
      refine CG.region ?_
      refine OG.yield (Yield.assign rfl) rfl ?_
      refine OG.nil ?_
      refine QG.then ?_
      refine CG.ret ?_
      refine QG.pass_ret ?_
      refine QG.ret1 rfl rfl () trivial ?_ (Imp.trans (by repeat (first | exact Imp.refl _ | exact Imp.none _ | apply Imp.pull (by repeat (first | exact Ext.here | apply Ext.there)) | apply Imp.trans Imp.drop)) (rm_close ((b, o), c) hlen))
      first
        | rfl
        | (congr 1; unfold merr; rw [if_neg (by omega), if_pos (by omega)]; done)
        | (congr 1; unfold merr; rw [if_neg (by omega), if_neg (by omega), if_pos (by omega)]; done)
        | (congr 1; unfold merr; rw [if_neg (by omega), if_neg (by omega), if_neg (by omega)]; done)
    · skip
      refine CG.region ?_
      refine OG.yield (Yield.move rfl) rfl ?_
      refine OG.yield (by first | exact Yield.conv Try.underlying3 rfl rfl (w64 (by omega) (by omega)) | exact Yield.conv Try.underlying3 rfl rfl rfl) rfl ?_
      refine OG.yield (Yield.move rfl) rfl ?_
      refine OG.yield (Yield.rem rfl rfl (by omega) (tmod_pos (by omega) (by omega))) rfl ?_
      refine OG.yield (by first | exact Yield.as (Yield.neq rfl rfl) (bT (by omega)) | exact Yield.as (Yield.neq rfl rfl) (bF (by omega)) | exact Yield.neq rfl rfl) rfl ?_
      refine OG.nil ?_
      refine QG.then ?_
      refine CG.cond_f rfl ?_
      refine CG.skip ?_
      refine QG.then ?_
      refine CG.seq ?_
      refine CG.seq ?_
      refine CG.region ?_
      refine OG.yield (Yield.move rfl) rfl ?_
      refine OG.yield (by first | exact Yield.conv Try.underlying3 rfl rfl (w64 (by omega) (by omega)) | exact Yield.conv Try.underlying3 rfl rfl rfl) rfl ?_
      refine OG.yield (Yield.move rfl) rfl ?_
      refine OG.yield (Yield.add rfl rfl (w64 (by omega) (by omega))) rfl ?_
      refine OG.yield (Yield.move rfl) rfl ?_
      refine OG.yield (Yield.nilCheck rfl) rfl ?_
      refine OG.yield (Yield.fieldAddr fa116_0 rfl) rfl ?_
      refine OG.yield (Yield.load ti73 rfl (by first | exact Cel.of_blk (by repeat (first | exact Ext.here | apply Ext.there)) rfl | exact (hrow (by repeat (first | exact Ext.here | apply Ext.there))) _ _ rfl)) rfl ?_
      refine OG.yield (Yield.len_slice Try.underlying73 rfl rfl) rfl ?_
      refine OG.yield (by first | exact Yield.as (Yield.gtr rfl rfl) (bT (by omega)) | exact Yield.as (Yield.gtr rfl rfl) (bF (by omega)) | exact Yield.gtr rfl rfl) rfl ?_
      refine OG.nil ?_
      refine QG.then ?_
      refine CG.cond_f rfl ?_
      refine CG.skip ?_
      refine QG.then ?_
      refine CG.seq ?_
      refine CG.region ?_
      refine OG.yield (Yield.assign rfl) rfl ?_
      refine OG.nil ?_
      refine QG.then ?_
      refine CG.ret ?_
      refine QG.ret1 rfl rfl () trivial ?_ (Imp.trans (by repeat (first | exact Imp.refl _ | exact Imp.none _ | apply Imp.pull (by repeat (first | exact Ext.here | apply Ext.there)) | apply Imp.trans Imp.drop)) (rm_close ((b, o), c) hlen))
      first
        | rfl
        | (congr 1; unfold merr; rw [if_neg (by omega), if_pos (by omega)]; done)
        | (congr 1; unfold merr; rw [if_neg (by omega), if_neg (by omega), if_pos (by omega)]; done)
        | (congr 1; unfold merr; rw [if_neg (by omega), if_neg (by omega), if_neg (by omega)]; done)
  · skip
    skip
    refine CG.region ?_
    refine OG.yield (Yield.move rfl) rfl ?_
    refine OG.yield (by first | exact Yield.as (Yield.neq rfl rfl) (bT (by omega)) | exact Yield.as (Yield.neq rfl rfl) (bF (by omega)) | exact Yield.neq rfl rfl) rfl ?_
    refine OG.yield (Yield.move rfl) rfl ?_
    refine OG.guard_yes rfl rfl rfl (by decide) ?_
    refine OG.yield (Yield.move rfl) rfl ?_
    refine OG.guard_yes rfl rfl rfl (by decide) ?_
    refine OG.yield (by first | exact Yield.as (Yield.neq rfl rfl) (bT (by omega)) | exact Yield.as (Yield.neq rfl rfl) (bF (by omega)) | exact Yield.neq rfl rfl) rfl ?_
    refine OG.yield (by first | exact Yield.pick_t rfl rfl | exact Yield.pick_f rfl rfl | exact Yield.pick rfl (fun _ => rfl) (fun _ => rfl)) rfl ?_
    refine OG.yield (Yield.move rfl) rfl ?_
    refine OG.guard_yes rfl rfl rfl (by decide) ?_
    refine OG.yield (Yield.move rfl) rfl ?_
    refine OG.guard_yes rfl rfl rfl (by decide) ?_
    refine OG.yield (by first | exact Yield.as (Yield.neq rfl rfl) (bT (by omega)) | exact Yield.as (Yield.neq rfl rfl) (bF (by omega)) | exact Yield.neq rfl rfl) rfl ?_
    refine OG.yield (by first | exact Yield.pick_t rfl rfl | exact Yield.pick_f rfl rfl | exact Yield.pick rfl (fun _ => rfl) (fun _ => rfl)) rfl ?_
    refine OG.yield (Yield.move rfl) rfl ?_
    refine OG.guard_yes rfl rfl rfl (by decide) ?_
    refine OG.yield (Yield.move rfl) rfl ?_
    refine OG.guard_yes rfl rfl rfl (by decide) ?_
    refine OG.yield (by first | exact Yield.as (Yield.neq rfl rfl) (bT (by omega)) | exact Yield.as (Yield.neq rfl rfl) (bF (by omega)) | exact Yield.neq rfl rfl) rfl ?_
    refine OG.yield (by first | exact Yield.pick_t rfl rfl | exact Yield.pick_f rfl rfl | exact Yield.pick rfl (fun _ => rfl) (fun _ => rfl)) rfl ?_
    refine OG.nil ?_
    refine QG.then ?_
    refine CG.cond_f rfl ?_
    refine CG.skip ?_
    refine QG.then ?_
    refine CG.seq ?_
    refine CG.seq ?_
    rcases (show a % 8 ≠ 0 ∨ (a % 8 = 0 ∧ n * 256 < a + 8) ∨ (a % 8 = 0 ∧ a + 8 ≤ n * 256) by omega) with hx | hx | hx
    · skip
      refine CG.region ?_
      refine OG.yield (Yield.move rfl) rfl ?_
      refine OG.yield (by first | exact Yield.conv Try.underlying3 rfl rfl (w64 (by omega) (by omega)) | exact Yield.conv Try.underlying3 rfl rfl rfl) rfl ?_
      refine OG.yield (Yield.move rfl) rfl ?_
      refine OG.yield (Yield.rem rfl rfl (by omega) (tmod_pos (by omega) (by omega))) rfl ?_
      refine OG.yield (by first | exact Yield.as (Yield.neq rfl rfl) (bT (by omega)) | exact Yield.as (Yield.neq rfl rfl) (bF (by omega)) | exact Yield.neq rfl rfl) rfl ?_
      refine OG.nil ?_
      refine QG.then ?_
      refine CG.cond_t rfl ?_
      refine CG.seq ?_
      refine CG.region ?_
      refine OG.yield (Yield.assign rfl) rfl ?_
      refine OG.nil ?_
      refine QG.then ?_
      refine CG.ret ?_
      refine QG.pass_ret ?_
      refine QG.ret1 rfl rfl () trivial ?_ (Imp.trans (by repeat (first | exact Imp.refl _ | exact Imp.none _ | apply Imp.pull (by repeat (first | exact Ext.here | apply Ext.there)) | apply Imp.trans Imp.drop)) (rm_close ((b, o), c) hlen))
      first
        | rfl
        | (congr 1; unfold merr; rw [if_neg (by omega), if_pos (by omega)]; done)
        | (congr 1; unfold merr; rw [if_neg (by omega), if_neg (by omega), if_pos (by omega)]; done)
        | (congr 1; unfold merr; rw [if_neg (by omega), if_neg (by omega), if_neg (by omega)]; done)
    · skip
      refine CG.region ?_
      refine OG.yield (Yield.move rfl) rfl ?_
      refine OG.yield (by first | exact Yield.conv Try.underlying3 rfl rfl (w64 (by omega) (by omega)) | exact Yield.conv Try.underlying3 rfl rfl rfl) rfl ?_
      refine OG.yield (Yield.move rfl) rfl ?_
      refine OG.yield (Yield.rem rfl rfl (by omega) (tmod_pos (by omega) (by omega))) rfl ?_
      refine OG.yield (by first | exact Yield.as (Yield.neq rfl rfl) (bT (by omega)) | exact Yield.as (Yield.neq rfl rfl) (bF (by omega)) | exact Yield.neq rfl rfl) rfl ?_
      refine OG.nil ?_
      refine QG.then ?_
      refine CG.cond_f rfl ?_
      refine CG.skip ?_
      refine QG.then ?_
      refine CG.seq ?_
      refine CG.seq ?_
      refine CG.region ?_
      refine OG.yield (Yield.move rfl) rfl ?_
      refine OG.yield (by first | exact Yield.conv Try.underlying3 rfl rfl (w64 (by omega) (by omega)) | exact Yield.conv Try.underlying3 rfl rfl rfl) rfl ?_
      refine OG.yield (Yield.move rfl) rfl ?_
      refine OG.yield (Yield.add rfl rfl (w64 (by omega) (by omega))) rfl ?_
      refine OG.yield (Yield.move rfl) rfl ?_
      refine OG.yield (Yield.nilCheck rfl) rfl ?_
      refine OG.yield (Yield.fieldAddr fa116_0 rfl) rfl ?_
      refine OG.yield (Yield.load ti73 rfl (by first | exact Cel.of_blk (by repeat (first | exact Ext.here | apply Ext.there)) rfl | exact (hrow (by repeat (first | exact Ext.here | apply Ext.there))) _ _ rfl)) rfl ?_
      refine OG.yield (Yield.len_slice Try.underlying73 rfl rfl) rfl ?_
      refine OG.yield (by first | exact Yield.as (Yield.gtr rfl rfl) (bT (by omega)) | exact Yield.as (Yield.gtr rfl rfl) (bF (by omega)) | exact Yield.gtr rfl rfl) rfl ?_
      refine OG.nil ?_
      refine QG.then ?_
      refine CG.cond_t rfl ?_
      refine CG.seq ?_
      refine CG.region ?_
      refine OG.yield (Yield.assign rfl) rfl ?_
      refine OG.nil ?_
      refine QG.then ?_
      refine CG.ret ?_
      refine QG.pass_ret ?_
      refine QG.ret1 rfl rfl () trivial ?_ (Imp.trans (by repeat (first | exact Imp.refl _ | exact Imp.none _ | apply Imp.pull (by repeat (first | exact Ext.here | apply Ext.there)) | apply Imp.trans Imp.drop)) (rm_close ((b, o), c) hlen))
      first
        | rfl
        | (congr 1; unfold merr; rw [if_neg (by omega), if_pos (by omega)]; done)
        | (congr 1; unfold merr; rw [if_neg (by omega), if_neg (by omega), if_pos (by omega)]; done)
        | (congr 1; unfold merr; rw [if_neg (by omega), if_neg (by omega), if_neg (by omega)]; done)
    · skip
      refine CG.region ?_
      refine OG.yield (Yield.move rfl) rfl ?_
      refine OG.yield (by first | exact Yield.conv Try.underlying3 rfl rfl (w64 (by omega) (by omega)) | exact Yield.conv Try.underlying3 rfl rfl rfl) rfl ?_
      refine OG.yield (Yield.move rfl) rfl ?_
      refine OG.yield (Yield.rem rfl rfl (by omega) (tmod_pos (by omega) (by omega))) rfl ?_
      refine OG.yield (by first | exact Yield.as (Yield.neq rfl rfl) (bT (by omega)) | exact Yield.as (Yield.neq rfl rfl) (bF (by omega)) | exact Yield.neq rfl rfl) rfl ?_
      refine OG.nil ?_
      refine QG.then ?_
      refine CG.cond_f rfl ?_
      refine CG.skip ?_
      refine QG.then ?_
      refine CG.seq ?_
      refine CG.seq ?_
      refine CG.region ?_
      refine OG.yield (Yield.move rfl) rfl ?_
      refine OG.yield (by first | exact Yield.conv Try.underlying3 rfl rfl (w64 (by omega) (by omega)) | exact Yield.conv Try.underlying3 rfl rfl rfl) rfl ?_
      refine OG.yield (Yield.move rfl) rfl ?_
      refine OG.yield (Yield.add rfl rfl (w64 (by omega) (by omega))) rfl ?_
      refine OG.yield (Yield.move rfl) rfl ?_
      refine OG.yield (Yield.nilCheck rfl) rfl ?_
      refine OG.yield (Yield.fieldAddr fa116_0 rfl) rfl ?_
      refine OG.yield (Yield.load ti73 rfl (by first | exact Cel.of_blk (by repeat (first | exact Ext.here | apply Ext.there)) rfl | exact (hrow (by repeat (first | exact Ext.here | apply Ext.there))) _ _ rfl)) rfl ?_
      refine OG.yield (Yield.len_slice Try.underlying73 rfl rfl) rfl ?_
      refine OG.yield (by first | exact Yield.as (Yield.gtr rfl rfl) (bT (by omega)) | exact Yield.as (Yield.gtr rfl rfl) (bF (by omega)) | exact Yield.gtr rfl rfl) rfl ?_
      refine OG.nil ?_
      refine QG.then ?_
      refine CG.cond_f rfl ?_
      refine CG.skip ?_
      refine QG.then ?_
      refine CG.seq ?_
      refine CG.region ?_
      refine OG.yield (Yield.assign rfl) rfl ?_
      refine OG.nil ?_
      refine QG.then ?_
      refine CG.ret ?_
      refine QG.ret1 rfl rfl () trivial ?_ (Imp.trans (by repeat (first | exact Imp.refl _ | exact Imp.none _ | apply Imp.pull (by repeat (first | exact Ext.here | apply Ext.there)) | apply Imp.trans Imp.drop)) (rm_close ((b, o), c) hlen))
      first
        | rfl
        | (congr 1; unfold merr; rw [if_neg (by omega), if_pos (by omega)]; done)
        | (congr 1; unfold merr; rw [if_neg (by omega), if_neg (by omega), if_pos (by omega)]; done)
        | (congr 1; unfold merr; rw [if_neg (by omega), if_neg (by omega), if_neg (by omega)]; done)
theorem rload_ok {m n a s : Nat} {bs : List UInt8} (hs : s = 1 ∨ s = 2 ∨ s = 4 ∨ s = 8) (hb : a + s ≤ n * 256) (hal : a < 4294967296) (he : merr n a s = 0) : Ctr Try.prog W0 79 [.pointer (some ⟨m, 0, none⟩), .int .u32 a, .int .i64 s] (RM m n bs :: Fr) (fun _ : Unit => True)
    (fun _ => .tuple #[.int .u64 (leN ((bs.drop a).take s)), .int .i64 0]) (fun _ => RM m n bs :: Fr) := by
  refine Ctr.of_body Try.func79 rfl Try.ntmps79 rfl ?_
  refine CG.seq ?_
  refine CG.region ?_
  refine OG.yield (Yield.assign rfl) rfl ?_
  refine OG.yield (Yield.assign rfl) rfl ?_
  refine OG.nil ?_
  refine QG.then ?_
  refine CG.seq ?_
  refine CG.region ?_
  refine OG.yield (Yield.move rfl) rfl ?_
  refine OG.yield (Yield.move rfl) rfl ?_
  refine OG.yield (Yield.move rfl) rfl ?_
  refine OG.callo call54 rfl (Imp.refl _) (wrong_spec W0 Fr hal) rfl ?_
  rintro ⟨⟩ -
  rw [he]
  refine OG.yield (Yield.assign rfl) rfl ?_
  refine OG.nil ?_
  refine QG.then ?_
  refine CG.seq ?_
  refine CG.seq ?_
  refine CG.region ?_
  refine OG.yield (Yield.move rfl) rfl ?_
  refine OG.yield (by first | exact Yield.as (Yield.neq rfl rfl) (bT (by omega)) | exact Yield.as (Yield.neq rfl rfl) (bF (by omega)) | exact Yield.neq rfl rfl) rfl ?_
  refine OG.nil ?_
  refine QG.then ?_
  refine CG.cond_f rfl ?_
  refine CG.skip ?_
  refine QG.then ?_
  refine CG.ex (A := RM m n bs) (by repeat (first | exact Ext.here | apply Ext.there)) rm_open ?_
  rintro ⟨⟨b, o⟩, c⟩ hlen
  refine CG.imp star_open ?_
  have hl : ((bs.drop a).take s).length = s := by rw [List.length_take, List.length_drop]; omega
  have hc : bs.length ≤ c := hlen.2.2.2
  have hsr : SlR W0 (RMO m bs ((b, o), c) ++ Fr) 1 (some ⟨b, o + a, none⟩) ((bs.drop a).take s).length (bytesV ((bs.drop a).take s)) := by
    rw [hl]
    exact (SlR.of_osl (E := 5) (sz := 1) (c := c) (m := bs.length) (xs := bytesV bs) (Ext.there Ext.here)).part (by rw [bytesV_drop, bytesV_take]) (by omega)
  dsimp only [RMO, List.cons_append, List.nil_append] at hsr ⊢
  refine CG.seq ?_
  refine CG.region ?_
  refine OG.yield (Yield.move rfl) rfl ?_
  refine OG.yield (by first | exact Yield.conv Try.underlying3 rfl rfl (w64 (by omega) (by omega)) | exact Yield.conv Try.underlying3 rfl rfl rfl) rfl ?_
  refine OG.yield (Yield.assign rfl) rfl ?_
  refine OG.nil ?_
  refine QG.then ?_
  refine CG.seq ?_
  refine CG.region ?_
  refine OG.yield (Yield.move rfl) rfl ?_
  refine OG.yield (Yield.nilCheck rfl) rfl ?_
  refine OG.yield (Yield.fieldAddr fa116_0 rfl) rfl ?_
  refine OG.yield (Yield.load ti73 rfl (by first | exact Cel.of_blk (by repeat (first | exact Ext.here | apply Ext.there)) rfl | exact (hrow (by repeat (first | exact Ext.here | apply Ext.there))) _ _ rfl)) rfl ?_
  refine OG.yield (Yield.move rfl) rfl ?_
  refine OG.yield (Yield.move rfl) rfl ?_
  refine OG.yield (Yield.move rfl) rfl ?_
  refine OG.yield (Yield.add rfl rfl (w64 (by omega) (by omega))) rfl ?_
  refine OG.yield (Yield.as (Yield.slice_in Try.underlying73 ti5 rfl (Bound.some rfl) (Bound.some rfl) (by omega) (by omega) (by omega) (by omega)) (v' := .slice (some ⟨b, o + a, none⟩) ((bs.drop a).take s).length (c - a)) (sl_eq (by omega) (by omega) (by omega))) rfl ?_
  refine OG.callo call90 rfl (Imp.refl _) (rget_spec W0 _ (c := c - a) hsr (by omega)) rfl ?_
  rintro ⟨⟩ -
  refine OG.yield (Yield.assign rfl) rfl ?_
  refine OG.yield (Yield.assign rfl) rfl ?_
  refine OG.nil ?_
  refine QG.then ?_
  refine CG.ret ?_
  exact QG.ret2 rfl rfl rfl () trivial rfl (rm_close ((b, o), c) hlen)
theorem rload_bad {m n a : Nat} {s : Int} {bs : List UInt8} (ha : a < 4294967296) (he : merr n a s ≠ 0) : Ctr Try.prog W0 79 [.pointer (some ⟨m, 0, none⟩), .int .u32 a, .int .i64 s] (RM m n bs :: Fr) (fun _ : Unit => True)
    (fun _ => .tuple #[.int .u64 0, .int .i64 (merr n a s)]) (fun _ => RM m n bs :: Fr) := by
  refine Ctr.of_body Try.func79 rfl Try.ntmps79 rfl ?_
  refine CG.seq ?_
  refine CG.region ?_
  refine OG.yield (Yield.assign rfl) rfl ?_
  refine OG.yield (Yield.assign rfl) rfl ?_
  refine OG.nil ?_
  refine QG.then ?_
  refine CG.seq ?_
  refine CG.region ?_
  refine OG.yield (Yield.move rfl) rfl ?_
  refine OG.yield (Yield.move rfl) rfl ?_
  refine OG.yield (Yield.move rfl) rfl ?_
  refine OG.callo call54 rfl (Imp.refl _) (wrong_spec W0 Fr ha) rfl ?_
  rintro ⟨⟩ -
  refine OG.yield (Yield.assign rfl) rfl ?_
  refine OG.nil ?_
  refine QG.then ?_
  refine CG.seq ?_
  refine CG.seq ?_
  refine CG.region ?_
  refine OG.yield (Yield.move rfl) rfl ?_
  refine OG.yield (Yield.as (Yield.neq rfl rfl) (bT he)) rfl ?_
  refine OG.nil ?_
  refine QG.then ?_
  refine CG.cond_t rfl ?_
  refine CG.seq ?_
  refine CG.region ?_
  refine OG.yield (Yield.move rfl) rfl ?_
  refine OG.yield (Yield.assign rfl) rfl ?_
  refine OG.yield (Yield.assign rfl) rfl ?_
  refine OG.nil ?_
  refine QG.then ?_
  refine CG.ret ?_
  refine QG.pass_ret ?_
  exact QG.ret2 rfl rfl rfl () trivial rfl (by repeat (first | exact Imp.refl _ | exact Imp.none _ | apply Imp.pull (by repeat (first | exact Ext.here | apply Ext.there)) | apply Imp.trans Imp.drop))
theorem rstore_ok {m n a s v : Nat} {bs : List UInt8} (hs : s = 1 ∨ s = 2 ∨ s = 4 ∨ s = 8) (hb : a + s ≤ n * 256) (hal : a < 4294967296) (he : merr n a s = 0) (hv : v < 18446744073709551616) : Ctr Try.prog W0 20 [.pointer (some ⟨m, 0, none⟩), .int .u32 a, .int .i64 s, .int .u64 v] (RM m n bs :: Fr) (fun _ : Unit => True)
    (fun _ => .int .i64 0) (fun _ => RM m n (overB bs a (putB v s)) :: Fr) := by
  have hpl := putB_len v s
  refine Ctr.of_body Try.func20 rfl Try.ntmps20 rfl ?_
  refine CG.seq ?_
  refine CG.region ?_
  refine OG.yield (Yield.assign rfl) rfl ?_
  refine OG.nil ?_
  refine QG.then ?_
  refine CG.seq ?_
  refine CG.region ?_
  refine OG.yield (Yield.move rfl) rfl ?_
  refine OG.yield (Yield.move rfl) rfl ?_
  refine OG.yield (Yield.move rfl) rfl ?_
  refine OG.callo call54 rfl (Imp.refl _) (wrong_spec W0 Fr hal) rfl ?_
  rintro ⟨⟩ -
  rw [he]
  refine OG.yield (Yield.assign rfl) rfl ?_
  refine OG.nil ?_
  refine QG.then ?_
  refine CG.seq ?_
  refine CG.seq ?_
  refine CG.region ?_
  refine OG.yield (Yield.move rfl) rfl ?_
  refine OG.yield (by first | exact Yield.as (Yield.eql rfl rfl) (bT (by omega)) | exact Yield.as (Yield.eql rfl rfl) (bF (by omega)) | exact Yield.eql rfl rfl) rfl ?_
  refine OG.nil ?_
  refine QG.then ?_
  refine CG.cond_t rfl ?_
  refine CG.ex (A := RM m n bs) (by repeat (first | exact Ext.here | apply Ext.there)) rm_open ?_
  rintro ⟨⟨b, o⟩, c⟩ hlen
  refine CG.imp star_open ?_
  have hc : bs.length ≤ c := hlen.2.2.2
  dsimp only [RMO, List.cons_append, List.nil_append]
  refine CG.draw (.look 0 0 (.look 1 0 (.look 2 0 (.look 3 0 (.look 4 0 (.look 5 0 (.look 6 0 (.look 7 1 (.look 8 1 (.eff1 9 false (.eff1 10 false (.done)))))))))))) [9, 10] [] ([blk m [.slice (some ⟨b, o, none⟩) bs.length c] 116]) ([]) mixed (by kernel_rfl) ((by repeat (first | exact Imp.refl _ | exact Imp.none _ | apply Imp.pull (by repeat (first | exact Ext.here | apply Ext.there)) | apply Imp.trans Imp.drop))) (Imp.none _) ?_
  refine DG.look rfl rfl (Yield.move rfl) rfl ?_
  refine DG.look rfl rfl (Yield.nilCheck rfl) rfl ?_
  refine DG.look rfl rfl (Yield.fieldAddr fa116_0 rfl) rfl ?_
  refine DG.look rfl rfl (Yield.load ti73 rfl (by first | exact Cel.of_blk (by repeat (first | exact Ext.here | apply Ext.there)) rfl | exact (hrow (by repeat (first | exact Ext.here | apply Ext.there))) _ _ rfl)) rfl ?_
  refine DG.look rfl rfl (Yield.move rfl) rfl ?_
  refine DG.look rfl rfl (by first | exact Yield.conv Try.underlying3 rfl rfl (w64 (by omega) (by omega)) | exact Yield.conv Try.underlying3 rfl rfl rfl) rfl ?_
  refine DG.look rfl rfl (Yield.as (Yield.slice_in Try.underlying73 ti5 rfl (Bound.some rfl) Bound.none (by omega) (by omega) (by omega) (by omega)) (v' := .slice (some ⟨b, o + a, none⟩) (bs.length - a) (c - a)) (sl_eq (by omega) (by omega) (by omega))) rfl ?_
  refine DG.look rfl rfl (Yield.move rfl) rfl ?_
  refine DG.look rfl rfl (Yield.move rfl) rfl ?_
  refine DG.eff1 ?_
  refine Chg.callo rfl rfl call55 rfl (Imp.refl _) (rput_spec W0 _ (v := v) (s := s) (by omega) hv) rfl (fun _ => (by repeat (first | exact Imp.refl _ | exact Imp.none _ | apply Imp.pull (by repeat (first | exact Ext.here | apply Ext.there)) | apply Imp.trans Imp.drop))) (fun _ => Imp.refl _) (fun _ => (by repeat (first | exact Imp.refl _ | exact Imp.none _ | apply Imp.pull (by repeat (first | exact Ext.here | apply Ext.there)) | apply Imp.trans Imp.drop))) ?_
  rintro ⟨a25, c25⟩ -
  refine DG.eff1 ?_
  refine Chg.eff rfl rfl (Eff.copyIn (b := b) (o := o) (j := a) (n := bs.length - a) (k := (putB v s).length) (ys := bytesV (putB v s)) rfl rfl rfl Try.underlying73 ti5 ((by repeat (first | exact Foc.here | apply Foc.there))) (by omega) (SlR.of_osl Ext.here) bytesV_one) rfl (fun _ => (by repeat (first | exact Imp.refl _ | exact Imp.none _ | apply Imp.pull (by repeat (first | exact Ext.here | apply Ext.there)) | apply Imp.trans Imp.drop))) (fun _ => Imp.refl _) (fun _ => (by repeat (first | exact Imp.refl _ | exact Imp.none _ | apply Imp.pull (by repeat (first | exact Ext.here | apply Ext.there)) | apply Imp.trans Imp.drop))) ?_
  rintro ⟨⟩ -
  rw [show min (putB v s).length (bs.length - a) = (bytesV (putB v s)).length by rw [bytesV_length]; omega, List.take_length, over_bytes]
  refine DG.done ?_
  refine QG.then ?_
  refine CG.seq ?_
  refine CG.region ?_
  refine OG.yield (Yield.move rfl) rfl ?_
  refine OG.yield (Yield.assign rfl) rfl ?_
  refine OG.nil ?_
  refine QG.then ?_
  refine CG.ret ?_
  have hol : (overB bs a (putB v s)).length = bs.length := overB_len (by omega)
  refine QG.ret1 rfl rfl () trivial rfl (Imp.trans ?_ (rm_close ((b, o), c) ⟨by rw [hol]; exact hlen.1, hlen.2.1, hlen.2.2.1, by rw [hol]; exact hc⟩))
  dsimp only [RMO, oby, List.cons_append, List.nil_append]
  rw [hol]
  exact (by repeat (first | exact Imp.refl _ | exact Imp.none _ | apply Imp.pull (by repeat (first | exact Ext.here | apply Ext.there)) | apply Imp.trans Imp.drop))
theorem rstore_bad {m n a : Nat} {s v : Int} {bs : List UInt8} (ha : a < 4294967296) (he : merr n a s ≠ 0) : Ctr Try.prog W0 20 [.pointer (some ⟨m, 0, none⟩), .int .u32 a, .int .i64 s, .int .u64 v] (RM m n bs :: Fr) (fun _ : Unit => True)
    (fun _ => .int .i64 (merr n a s)) (fun _ => RM m n bs :: Fr) := by
  refine Ctr.of_body Try.func20 rfl Try.ntmps20 rfl ?_
  refine CG.seq ?_
  refine CG.region ?_
  refine OG.yield (Yield.assign rfl) rfl ?_
  refine OG.nil ?_
  refine QG.then ?_
  refine CG.seq ?_
  refine CG.region ?_
  refine OG.yield (Yield.move rfl) rfl ?_
  refine OG.yield (Yield.move rfl) rfl ?_
  refine OG.yield (Yield.move rfl) rfl ?_
  refine OG.callo call54 rfl (Imp.refl _) (wrong_spec W0 Fr ha) rfl ?_
  rintro ⟨⟩ -
  refine OG.yield (Yield.assign rfl) rfl ?_
  refine OG.nil ?_
  refine QG.then ?_
  refine CG.seq ?_
  refine CG.seq ?_
  refine CG.region ?_
  refine OG.yield (Yield.move rfl) rfl ?_
  refine OG.yield (Yield.as (Yield.eql rfl rfl) (bF he)) rfl ?_
  refine OG.nil ?_
  refine QG.then ?_
  refine CG.cond_f rfl ?_
  refine CG.skip ?_
  refine QG.then ?_
  refine CG.seq ?_
  refine CG.region ?_
  refine OG.yield (Yield.move rfl) rfl ?_
  refine OG.yield (Yield.assign rfl) rfl ?_
  refine OG.nil ?_
  refine QG.then ?_
  refine CG.ret ?_
  exact QG.ret1 rfl rfl () trivial rfl (by repeat (first | exact Imp.refl _ | exact Imp.none _ | apply Imp.pull (by repeat (first | exact Ext.here | apply Ext.there)) | apply Imp.trans Imp.drop))
theorem rfill_ok {m n k : Nat} {bs ws : List UInt8} {a : Option Addr} {c2 : Nat} (hr : RdB W0 Fr a c2 ws) (hk : k < n) (hw : ws.length ≤ 256) : Ctr Try.prog W0 49 [.pointer (some ⟨m, 0, none⟩), .int .i64 k, .slice a ws.length c2] (RM m n bs :: Fr) (fun _ : Unit => True)
    (fun _ => .int .i64 0) (fun _ => RM m n (overB bs (k * 256) (fillB ws)) :: Fr) := by
  refine Ctr.of_body Try.func49 rfl Try.ntmps49 rfl ?_
  refine CG.seq ?_
  refine CG.region ?_
  refine OG.yield (Yield.assign rfl) rfl ?_
  refine OG.nil ?_
  refine QG.then ?_
  refine CG.seq ?_
  refine CG.seq ?_
  refine CG.region ?_
  refine OG.yield (Yield.move rfl) rfl ?_
  refine OG.yield (Yield.move rfl) rfl ?_
  refine OG.callo call78 rfl (Imp.refl _) (has_spec W0 Fr (n := n) (k : Int)) rfl ?_
  rintro ⟨⟩ -
  rw [decide_eq_true (by omega)]
  refine OG.yield (Yield.not rfl) rfl ?_
  refine OG.nil ?_
  refine QG.then ?_
  refine CG.cond_f rfl ?_
  refine CG.skip ?_
  refine QG.then ?_
  refine CG.seq ?_
  refine CG.seq ?_
  refine CG.region ?_
  refine OG.yield (Yield.move rfl) rfl ?_
  refine OG.yield (Yield.len_slice Try.underlying73 rfl rfl) rfl ?_
  refine OG.yield (by first | exact Yield.as (Yield.gtr rfl rfl) (bT (by omega)) | exact Yield.as (Yield.gtr rfl rfl) (bF (by omega)) | exact Yield.gtr rfl rfl) rfl ?_
  refine OG.nil ?_
  refine QG.then ?_
  refine CG.cond_f rfl ?_
  refine CG.skip ?_
  refine QG.then ?_
  refine CG.ex (A := RM m n bs) (by repeat (first | exact Ext.here | apply Ext.there)) rm_open ?_
  rintro ⟨⟨b, o⟩, c⟩ hlen
  refine CG.imp star_open ?_
  have hcap : bs.length ≤ c := hlen.2.2.2
  have hn := hlen.2.2.1
  have hfl := fillB_len hw
  have hol : ∀ i, i ≤ 256 → (overB bs (k * 256) (List.replicate i 0)).length = bs.length := fun i hi => overB_len (by rw [List.length_replicate]; omega)
  dsimp only [RMO, List.cons_append, List.nil_append]
  refine CG.seq ?_
  refine CG.seq ?_
  refine CG.region ?_
  refine OG.yield (Yield.assign rfl) rfl ?_
  refine OG.nil ?_
  refine QG.then ?_
  refine CG.block ?_
  refine CG.loop (fun i : Nat => i ≤ 256) (fun i => [(0, .pointer (some ⟨m, 0, none⟩)), (1, .int .i64 k), (2, .slice a ws.length c2), (7, .int .i64 i)]) (fun i => RMO m (overB bs (k * 256) (List.replicate i 0)) ((b, o), c) ++ Fr) (fun i => 256 - i) 0 (Nat.zero_le _) (by repeat (first | exact Env.sub_nil _ | refine Env.sub_cons rfl ?_)) (by rw [show List.replicate 0 (0 : UInt8) = [] from rfl, overB_nil]; exact Imp.refl _) ?_
  intro i hi
  have hoi := hol i hi
  dsimp only [RMO, List.cons_append, List.nil_append]
  refine CG.seq ?_
  refine CG.seq ?_
  refine CG.region ?_
  refine OG.yield (Yield.move rfl) rfl ?_
  refine OG.yield (by first | exact Yield.as (Yield.lss rfl rfl) (bT (by omega)) | exact Yield.as (Yield.lss rfl rfl) (bF (by omega)) | exact Yield.lss rfl rfl) rfl ?_
  refine OG.nil ?_
  refine QG.then ?_
  refine CG.cond rfl (fun hc => ?_) (fun hc => ?_)
  · try replace hc := of_decide_eq_true hc
    refine CG.skip ?_
    refine QG.then ?_
    refine CG.seq ?_
    refine CG.block ?_
    refine CG.region ?_
    refine OG.yield (Yield.move rfl) rfl ?_
    refine OG.yield (Yield.nilCheck rfl) rfl ?_
    refine OG.yield (Yield.fieldAddr fa116_0 rfl) rfl ?_
    refine OG.yield (Yield.load ti73 rfl (by first | exact Cel.of_blk (by repeat (first | exact Ext.here | apply Ext.there)) rfl | exact (hrow (by repeat (first | exact Ext.here | apply Ext.there))) _ _ rfl)) rfl ?_
    refine OG.yield (Yield.move rfl) rfl ?_
    refine OG.yield (Yield.mul rfl rfl (w64 (by omega) (by omega))) rfl ?_
    refine OG.yield (Yield.move rfl) rfl ?_
    refine OG.yield (Yield.add rfl rfl (w64 (by omega) (by omega))) rfl ?_
    refine OG.yield (Yield.index_slice Try.underlying73 ti5 rfl rfl (by omega) (by omega)) rfl ?_
    refine OG.eff (Eff.storeByteS (o := o) (i := k * 256 + i) (z := 0) (bs := overB bs (k * 256) (List.replicate i 0)) ti5 (show o + ((k : Int) * 256 + (i : Int)).toNat * 1 = o + (k * 256 + i) by omega) rfl rfl (by repeat (first | exact Foc.here | apply Foc.there)) (by omega)) rfl ?_
    rintro ⟨⟩ -
    refine OG.nil ?_
    refine QG.block_normal ?_
    refine QG.then ?_
    refine CG.region ?_
    refine OG.yield (Yield.move rfl) rfl ?_
    refine OG.yield (Yield.add rfl rfl (w64 (by omega) (by omega))) rfl ?_
    refine OG.yield (Yield.assign rfl) rfl ?_
    refine OG.nil ?_
    refine QG.next (i + 1) (show i + 1 ≤ 256 by omega) (show 256 - (i + 1) < 256 - i by omega) (by repeat (first | exact Env.sub_nil _ | refine Env.sub_cons rfl ?_)) ?_
    have e := overB_snoc (bs := bs) (a := k * 256) (ys := List.replicate i 0) (y := 0) (by rw [List.length_replicate]; omega)
    rw [List.length_replicate] at e
    rw [List.replicate_succ', e]
    try dsimp only [RMO, List.cons_append, List.nil_append]
    rw [List.length_set]
    exact (by repeat (first | exact Imp.refl _ | exact Imp.none _ | apply Imp.pull (by repeat (first | exact Ext.here | apply Ext.there)) | apply Imp.trans Imp.drop))
  · try replace hc := of_decide_eq_false hc
    refine CG.exit ?_
    refine QG.pass_exit ?_
    refine QG.pass_exit ?_
    refine QG.block_exit ?_
    refine QG.then ?_
    have h256 : i = 256 := by omega
    subst h256
    refine CG.seq ?_
    refine CG.region ?_
    refine OG.yield (Yield.move rfl) rfl ?_
    refine OG.yield (Yield.nilCheck rfl) rfl ?_
    refine OG.yield (Yield.fieldAddr fa116_0 rfl) rfl ?_
    refine OG.yield (Yield.load ti73 rfl (by first | exact Cel.of_blk (by repeat (first | exact Ext.here | apply Ext.there)) rfl | exact (hrow (by repeat (first | exact Ext.here | apply Ext.there))) _ _ rfl)) rfl ?_
    refine OG.yield (Yield.move rfl) rfl ?_
    refine OG.yield (Yield.mul rfl rfl (w64 (by omega) (by omega))) rfl ?_
    refine OG.yield (Yield.as (Yield.slice_in Try.underlying73 ti5 rfl (Bound.some rfl) Bound.none (by omega) (by omega) (by omega) (by omega)) (v' := .slice (some ⟨b, o + k * 256, none⟩) (bs.length - k * 256) (c - k * 256)) (sl_eq (by omega) (by omega) (by omega))) rfl ?_
    refine OG.yield (Yield.move rfl) rfl ?_
    refine OG.effd (Eff.copyIn (b := b) (o := o) (j := k * 256) (n := bs.length - k * 256) (k := ws.length) (ys := bytesV ws) rfl rfl rfl Try.underlying73 ti5 ((by repeat (first | exact Foc.here | apply Foc.there))) (by omega) ((hr.imp (by repeat (first | exact Imp.refl _ | exact Imp.none _ | apply Imp.pull (by repeat (first | exact Ext.here | apply Ext.there)) | apply Imp.trans Imp.drop))).slR) bytesV_one) rfl ?_
    rintro ⟨⟩ -
    rw [show min ws.length (bs.length - k * 256) = (bytesV ws).length by rw [bytesV_length]; omega, List.take_length, over_bytes, overB_over (by rw [List.length_replicate]; exact hw) (by rw [List.length_replicate]; omega), List.drop_replicate]
    refine OG.nil ?_
    refine QG.then ?_
    refine CG.seq ?_
    refine CG.region ?_
    refine OG.yield (Yield.assign rfl) rfl ?_
    refine OG.nil ?_
    refine QG.then ?_
    refine CG.ret ?_
    have hof : (overB bs (k * 256) (fillB ws)).length = bs.length := overB_len (by omega)
    refine QG.ret1 rfl rfl () trivial rfl (Imp.trans ?_ (rm_close ((b, o), c) ⟨by rw [hof]; exact hlen.1, hlen.2.1, hlen.2.2.1, by rw [hof]; exact hcap⟩))
    dsimp only [RMO, oby, List.cons_append, List.nil_append]
    rw [hof, ← hoi]
    exact (by repeat (first | exact Imp.refl _ | exact Imp.none _ | apply Imp.pull (by repeat (first | exact Ext.here | apply Ext.there)) | apply Imp.trans Imp.drop))
theorem rfill_bad {m n : Nat} {k : Int} {bs ws : List UInt8} {a : Option Addr} {c2 : Nat} (hk : k < 0 ∨ (n : Int) ≤ k ∨ 256 < ws.length) : Ctr Try.prog W0 49 [.pointer (some ⟨m, 0, none⟩), .int .i64 k, .slice a ws.length c2] (RM m n bs :: Fr) (fun _ : Unit => True)
    (fun _ => .int .i64 (if k < 0 ∨ (n : Int) ≤ k then 2 else 9)) (fun _ => RM m n bs :: Fr) := by
  refine Ctr.of_body Try.func49 rfl Try.ntmps49 rfl ?_
  refine CG.seq ?_
  refine CG.region ?_
  refine OG.yield (Yield.assign rfl) rfl ?_
  refine OG.nil ?_
  refine QG.then ?_
  refine CG.seq ?_
  refine CG.seq ?_
  rcases (show (k < 0 ∨ (n : Int) ≤ k) ∨ (0 ≤ k ∧ k < n ∧ 256 < ws.length) by omega) with hh | hh
  · skip
    refine CG.region ?_
    refine OG.yield (Yield.move rfl) rfl ?_
    refine OG.yield (Yield.move rfl) rfl ?_
    refine OG.callo call78 rfl (Imp.refl _) (has_spec W0 Fr (n := n) k) rfl ?_
    rintro ⟨⟩ -
    first | rw [decide_eq_false (show ¬ (0 ≤ k ∧ k < n) by omega)] | rw [decide_eq_true (show 0 ≤ k ∧ k < n by omega)]
    refine OG.yield (Yield.not rfl) rfl ?_
    refine OG.nil ?_
    refine QG.then ?_
    refine CG.cond_t rfl ?_
    refine CG.seq ?_
    refine CG.region ?_
    refine OG.yield (Yield.assign rfl) rfl ?_
    refine OG.nil ?_
    refine QG.then ?_
    refine CG.ret ?_
    refine QG.pass_ret ?_
    refine QG.ret1 rfl rfl () trivial ?_ (by repeat (first | exact Imp.refl _ | exact Imp.none _ | apply Imp.pull (by repeat (first | exact Ext.here | apply Ext.there)) | apply Imp.trans Imp.drop))
    first | (rw [if_pos (by omega)]; done) | (rw [if_neg (by omega)]; done)
  · skip
    refine CG.region ?_
    refine OG.yield (Yield.move rfl) rfl ?_
    refine OG.yield (Yield.move rfl) rfl ?_
    refine OG.callo call78 rfl (Imp.refl _) (has_spec W0 Fr (n := n) k) rfl ?_
    rintro ⟨⟩ -
    first | rw [decide_eq_false (show ¬ (0 ≤ k ∧ k < n) by omega)] | rw [decide_eq_true (show 0 ≤ k ∧ k < n by omega)]
    refine OG.yield (Yield.not rfl) rfl ?_
    refine OG.nil ?_
    refine QG.then ?_
    refine CG.cond_f rfl ?_
    refine CG.skip ?_
    refine QG.then ?_
    refine CG.seq ?_
    refine CG.seq ?_
    refine CG.region ?_
    refine OG.yield (Yield.move rfl) rfl ?_
    refine OG.yield (Yield.len_slice Try.underlying73 rfl rfl) rfl ?_
    refine OG.yield (by first | exact Yield.as (Yield.gtr rfl rfl) (bT (by omega)) | exact Yield.as (Yield.gtr rfl rfl) (bF (by omega)) | exact Yield.gtr rfl rfl) rfl ?_
    refine OG.nil ?_
    refine QG.then ?_
    refine CG.cond_t rfl ?_
    refine CG.seq ?_
    refine CG.region ?_
    refine OG.yield (Yield.assign rfl) rfl ?_
    refine OG.nil ?_
    refine QG.then ?_
    refine CG.ret ?_
    refine QG.pass_ret ?_
    refine QG.ret1 rfl rfl () trivial ?_ (by repeat (first | exact Imp.refl _ | exact Imp.none _ | apply Imp.pull (by repeat (first | exact Ext.here | apply Ext.there)) | apply Imp.trans Imp.drop))
    first | (rw [if_pos (by omega)]; done) | (rw [if_neg (by omega)]; done)
end
end Go.Proofs.Ytmlfcfbblfcpdaa.Me
