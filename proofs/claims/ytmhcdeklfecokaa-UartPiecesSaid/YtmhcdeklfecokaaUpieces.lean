/- UartPieces: bytes sent in pieces are the same bytes as all at once: the law returns true at every list of bytes and of cuts, and changes nothing that was there. -/
import Derived.Test.YtmhcdeklfecokaaUart
import Derived.Test.YtmhcdeklfecokaaRows
namespace Go.Proofs.Ytmhcdeklfecokaa.uartPieces
open Go Go.Sl Go.RowKit Go.Proofs Go.Proofs.Ytmhcdeklfecokaa.T Go.Proofs.Ytmhcdeklfecokaa.Ua
set_option linter.unusedVariables false
set_option linter.unusedSimpArgs false
set_option maxRecDepth 100000
structure St where
  i : Nat
  at' : Nat
  q : List UInt8
  s : List UInt8
def St.env (a0 : Option Addr) (m0 c0 : Nat) (a1 : Option Addr) (m1 c1 x y : Nat) (s : St) : Env := [(0, .slice a0 m0 c0), (1, .slice a1 m1 c1), (5, .pointer (some ⟨x, 0, none⟩)), (6, .pointer (some ⟨y, 0, none⟩)), (7, .int .i64 s.at'), (8, .int .i64 s.i)]
abbrev St.G (W : World) (bs : List UInt8) (x y : Nat) (s : St) : List HProp := [U x 256 s.q s.s, U y 256 [] bs, old W]
structure St.OK (bs : List UInt8) (m : Nat) (s : St) : Prop where
  la : s.at' ≤ bs.length
  le : s.s ++ s.q = bs.take s.at'
  im : s.i ≤ m ∧ s.i ≤ 60
theorem head3 (i m k : Nat) (j l : Nat) : (i < m ∧ i < k ∧ j < l) ∨ (i < m ∧ i < k ∧ ¬ j < l) ∨ (i < m ∧ ¬ i < k) ∨ ¬ i < m := by omega

set_option maxHeartbeats 4000000 in
theorem walk (W : World) {a0 a1 : Option Addr} {c0 c1 : Nat} {bs0 : List UInt8} {cuts : List Int} (hb0 : SlAt W 1 a0 bs0.length (bytesV bs0)) (hc0 : bs0.length ≤ c0) (hr0 : bs0.length ≤ reachBytes)
    (hcu : SlAt W 1 a1 cuts.length ((cuts.map (intC .i64)).flatten)) :
    Ctr Try.prog W 5 [.slice a0 bs0.length c0, .slice a1 cuts.length c1] [old W] (fun _ : Unit => True) (fun _ => .bool true) (fun _ => [old W]) := by
  unfold reachBytes at hr0
  refine Ctr.of_body Try.func5 rfl Try.ntmps5 rfl ?_
  refine CG.seq ?_
  refine CG.region ?_
  refine OG.yield (Yield.assign rfl) rfl ?_
  refine OG.nil ?_
  refine QG.then ?_
  refine CG.cut (fun bs : List UInt8 => bs.length ≤ 256 ∧ SlAt W 1 a0 bs.length (bytesV bs) ∧ bs.length ≤ c0) (fun bs => [(0, .slice a0 bs.length c0), (1, .slice a1 cuts.length c1)]) (fun _ => [old W]) ?_ ?_
  · skip
    refine CG.seq ?_
    refine CG.region ?_
    refine OG.yield (Yield.move rfl) rfl ?_
    refine OG.yield (Yield.len_slice Try.underlying30 rfl rfl) rfl ?_
    refine OG.yield (by first | exact Yield.as (Yield.gtr rfl rfl) (bT (by omega)) | exact Yield.as (Yield.gtr rfl rfl) (bF (by omega)) | exact Yield.gtr rfl rfl) rfl ?_
    refine OG.nil ?_
    refine QG.then ?_
    refine CG.cond rfl (fun hc => ?_) (fun hc => ?_)
    · try replace hc := of_decide_eq_true hc
      refine CG.region ?_
      refine OG.yield (Yield.move rfl) rfl ?_
      refine OG.yield (Yield.as (Yield.slice_hi Try.underlying30 ti5 rfl (Bound.some rfl) (by omega) (by omega)) (v' := .slice a0 (bs0.take 256).length c0) (by rw [List.length_take, Nat.min_eq_left (by omega)]; rfl)) rfl ?_
      refine OG.yield (Yield.assign rfl) rfl ?_
      refine OG.nil ?_
      exact QG.mid (bs0.take 256) ⟨by simp; omega, (hb0.old (G := [old W]) Ext.here).takeB 256 W (Sat.start W), by simp; omega⟩ (by repeat (first | exact Env.sub_nil _ | refine Env.sub_cons rfl ?_)) (Imp.refl _)
    · try replace hc := of_decide_eq_false hc
      refine CG.skip ?_
      exact QG.mid bs0 ⟨by omega, hb0, hc0⟩ (by repeat (first | exact Env.sub_nil _ | refine Env.sub_cons rfl ?_)) (Imp.refl _)
  clear hb0 hc0 hr0 bs0
  rintro bs ⟨hlen, hb, hcap⟩
  refine CG.seq ?_
  refine CG.region ?_
  refine OG.callo call14 rfl ((by repeat (first | exact Imp.refl _ | exact Imp.none _ | apply Imp.pull (by repeat (first | exact Ext.here | apply Ext.there)) | apply Imp.trans Imp.drop))) (new_spec W _ 256) rfl ?_
  rintro x -
  refine OG.callo call14 rfl ((by repeat (first | exact Imp.refl _ | exact Imp.none _ | apply Imp.pull (by repeat (first | exact Ext.here | apply Ext.there)) | apply Imp.trans Imp.drop))) (new_spec W _ 256) rfl ?_
  rintro y -
  rw [show kOf 256 256 = 256 by decide]
  refine OG.yield (Yield.assign rfl) rfl ?_
  refine OG.yield (Yield.assign rfl) rfl ?_
  refine OG.nil ?_
  refine QG.then ?_
  refine CG.seq ?_
  refine CG.seq ?_
  refine CG.region ?_
  refine OG.yield (Yield.move rfl) rfl ?_
  refine OG.yield (by first | exact Yield.ptr_nil Try.underlying28 rfl rfl | exact Yield.nil_nil Try.underlying28 rfl rfl) rfl ?_
  refine OG.yield (Yield.move rfl) rfl ?_
  refine OG.guard_yes rfl rfl rfl (by decide) ?_
  refine OG.yield (Yield.move rfl) rfl ?_
  refine OG.guard_yes rfl rfl rfl (by decide) ?_
  refine OG.yield (by first | exact Yield.ptr_nil Try.underlying28 rfl rfl | exact Yield.nil_nil Try.underlying28 rfl rfl) rfl ?_
  refine OG.yield (by first | exact Yield.pick_t rfl rfl | exact Yield.pick_f rfl rfl | exact Yield.pick rfl (fun _ => rfl) (fun _ => rfl)) rfl ?_
  refine OG.yield (Yield.move rfl) rfl ?_
  refine OG.guard_yes rfl rfl rfl (by decide) ?_
  refine OG.yield (Yield.move rfl) rfl ?_
  refine OG.guard_yes rfl rfl rfl (by decide) ?_
  refine OG.effd (Eff.lit0 Try.underlying30 ti5 rfl) rfl ?_
  rintro b25 -
  refine OG.guard_yes rfl rfl rfl (by decide) ?_
  refine OG.yield (Yield.move rfl) rfl ?_
  refine OG.guard_yes rfl rfl rfl (by decide) ?_
  refine OG.effd (by first | exact Eff.appendB0 rfl rfl rfl Try.underlying30 Try.underlying30 ti5 (by decide) (by repeat (first | exact Foc.here | apply Foc.there)) (by first | exact SlR.of_osl (by repeat (first | exact Ext.here | apply Ext.there)) | exact SlR.of_osl_eq (by repeat (first | exact Ext.here | apply Ext.there)) rfl rfl | exact SlR.of_osl_eq (by repeat (first | exact Ext.here | apply Ext.there)) rfl (by simp [bytesV, byteV]) | assumption | exact SlAt.old (by assumption) (by repeat (first | exact Ext.here | apply Ext.there)) | exact RdB.slR (by assumption)) (by omega) | exact Eff.appendB rfl rfl rfl Try.underlying30 Try.underlying30 ti5 (by decide) (by repeat (first | exact Foc.here | apply Foc.there)) (by first | exact SlR.of_osl (by repeat (first | exact Ext.here | apply Ext.there)) | exact SlR.of_osl_eq (by repeat (first | exact Ext.here | apply Ext.there)) rfl rfl | exact SlR.of_osl_eq (by repeat (first | exact Ext.here | apply Ext.there)) rfl (by simp [bytesV, byteV]) | assumption | exact SlAt.old (by assumption) (by repeat (first | exact Ext.here | apply Ext.there)) | exact RdB.slR (by assumption)) (by first | omega | (simp only [List.length_append, List.length_cons, List.length_nil, List.length_take, List.length_drop]; omega))) rfl ?_
  rintro ⟨a27, c27⟩ -
  refine OG.guard_yes rfl rfl rfl (by decide) ?_
  refine OG.callo call16 rfl ((by repeat (first | exact Imp.refl _ | exact Imp.none _ | apply Imp.pull (by repeat (first | exact Ext.here | apply Ext.there)) | apply Imp.trans Imp.drop))) (send_spec W _ (ds := bs) (by first | exact RdB.of_osl (by repeat (first | exact Ext.here | apply Ext.there)) rfl rfl | exact RdB.of_osl (by repeat (first | exact Ext.here | apply Ext.there)) rfl (by simp [bytesV, byteV]) | assumption | exact RdB.of_slR (SlAt.old (by assumption) (by repeat (first | exact Ext.here | apply Ext.there))) (by assumption)) (by omega) (by simp) (by simp)) rfl ?_
  rintro ⟨⟩ -
  simp only [List.nil_append, List.length_nil, Nat.sub_zero]
  rw [List.take_of_length_le hlen]
  refine OG.guard_yes rfl rfl rfl (by decide) ?_
  refine OG.yield (Yield.move rfl) rfl ?_
  refine OG.guard_yes rfl rfl rfl (by decide) ?_
  refine OG.yield (Yield.len_slice Try.underlying30 rfl rfl) rfl ?_
  refine OG.guard_yes rfl rfl rfl (by decide) ?_
  refine OG.yield (Yield.as (Yield.neq rfl rfl) (bF (by omega))) rfl ?_
  refine OG.yield (by first | exact Yield.pick_t rfl rfl | exact Yield.pick_f rfl rfl | exact Yield.pick rfl (fun _ => rfl) (fun _ => rfl)) rfl ?_
  refine OG.yield (Yield.move rfl) rfl ?_
  refine OG.guard_yes rfl rfl rfl (by decide) ?_
  refine OG.yield (Yield.move rfl) rfl ?_
  refine OG.guard_yes rfl rfl rfl (by decide) ?_
  refine OG.callo call15 rfl ((by repeat (first | exact Imp.refl _ | exact Imp.none _ | apply Imp.pull (by repeat (first | exact Ext.here | apply Ext.there)) | apply Imp.trans Imp.drop))) (drain_spec W _ 256 (by omega) (by simp)) rfl ?_
  rintro ⟨⟩ -
  rw [kOf_all (show (bs.length : Int) ≤ 256 by omega), List.take_length, List.drop_length, List.nil_append]
  refine OG.guard_yes rfl rfl rfl (by decide) ?_
  refine OG.yield (Yield.move rfl) rfl ?_
  refine OG.guard_yes rfl rfl rfl (by decide) ?_
  refine OG.yield (Yield.len_slice Try.underlying30 rfl rfl) rfl ?_
  refine OG.guard_yes rfl rfl rfl (by decide) ?_
  refine OG.yield (by first | exact Yield.as (Yield.neq rfl rfl) (bT (by omega)) | exact Yield.as (Yield.neq rfl rfl) (bF (by omega)) | exact Yield.neq rfl rfl) rfl ?_
  refine OG.yield (by first | exact Yield.pick_t rfl rfl | exact Yield.pick_f rfl rfl | exact Yield.pick rfl (fun _ => rfl) (fun _ => rfl)) rfl ?_
  refine OG.nil ?_
  refine QG.then ?_
  refine CG.cond_f rfl ?_
  refine CG.skip ?_
  refine QG.then ?_
  refine CG.seq ?_
  refine CG.region ?_
  refine OG.yield (Yield.assign rfl) rfl ?_
  refine OG.nil ?_
  refine QG.then ?_
  refine CG.cut (fun s : St => s.OK bs cuts.length) (St.env a0 bs.length c0 a1 cuts.length c1 x y) (St.G W bs x y) ?_ ?_
  · skip
    refine CG.seq ?_
    refine CG.region ?_
    refine OG.yield (Yield.assign rfl) rfl ?_
    refine OG.nil ?_
    refine QG.then ?_
    refine CG.block ?_
    refine CG.loop (fun s : St => s.OK bs cuts.length) (St.env a0 bs.length c0 a1 cuts.length c1 x y) (St.G W bs x y) (fun s => cuts.length - s.i) ⟨0, 0, [], []⟩ ⟨by simp, by simp, by simp⟩ (by repeat (first | exact Env.sub_nil _ | refine Env.sub_cons rfl ?_)) (by repeat (first | exact Imp.refl _ | exact Imp.none _ | apply Imp.pull (by repeat (first | exact Ext.here | apply Ext.there)) | apply Imp.trans Imp.drop)) ?_
    rintro s ⟨la, le, im⟩
    unfold St.env
    have hsq := congrArg List.length le
    simp only [List.length_append, List.length_take] at hsq
    refine CG.seq ?_
    refine CG.seq ?_
    rcases head3 s.i cuts.length 60 s.at' bs.length with hh | hh | hh | hh
    · skip
      refine CG.region ?_
      refine OG.yield (Yield.move rfl) rfl ?_
      refine OG.yield (Yield.move rfl) rfl ?_
      refine OG.yield (Yield.len_slice Try.underlying38 rfl rfl) rfl ?_
      refine OG.yield (by first | exact Yield.as (Yield.lss rfl rfl) (bT (by omega)) | exact Yield.as (Yield.lss rfl rfl) (bF (by omega)) | exact Yield.lss rfl rfl) rfl ?_
      refine OG.yield (Yield.move rfl) rfl ?_
      refine OG.guard_yes rfl rfl rfl (by decide) ?_
      refine OG.yield (Yield.move rfl) rfl ?_
      refine OG.guard_yes rfl rfl rfl (by decide) ?_
      refine OG.yield (by first | exact Yield.as (Yield.lss rfl rfl) (bT (by omega)) | exact Yield.as (Yield.lss rfl rfl) (bF (by omega)) | exact Yield.lss rfl rfl) rfl ?_
      refine OG.yield (by first | exact Yield.pick_t rfl rfl | exact Yield.pick_f rfl rfl | exact Yield.pick rfl (fun _ => rfl) (fun _ => rfl)) rfl ?_
      refine OG.yield (Yield.move rfl) rfl ?_
      refine OG.guard_yes rfl rfl rfl (by decide) ?_
      refine OG.yield (Yield.move rfl) rfl ?_
      refine OG.guard_yes rfl rfl rfl (by decide) ?_
      refine OG.yield (Yield.move rfl) rfl ?_
      refine OG.guard_yes rfl rfl rfl (by decide) ?_
      refine OG.yield (Yield.len_slice Try.underlying30 rfl rfl) rfl ?_
      refine OG.guard_yes rfl rfl rfl (by decide) ?_
      refine OG.yield (by first | exact Yield.as (Yield.lss rfl rfl) (bT (by omega)) | exact Yield.as (Yield.lss rfl rfl) (bF (by omega)) | exact Yield.lss rfl rfl) rfl ?_
      refine OG.yield (by first | exact Yield.pick_t rfl rfl | exact Yield.pick_f rfl rfl | exact Yield.pick rfl (fun _ => rfl) (fun _ => rfl)) rfl ?_
      refine OG.nil ?_
      refine QG.then ?_
      refine CG.cond_t rfl ?_
      refine CG.skip ?_
      refine QG.then ?_
      refine CG.seq ?_
      refine CG.block ?_
      refine CG.seq ?_
      obtain ⟨h1, h2, h3⟩ := hh
      have hget : cuts[s.i]? = some cuts[s.i] := by simp [h1]
      generalize cuts[s.i] = cu at hget
      refine CG.pure (fun w hw => (hcu.old (G := St.G W bs x y s) (by repeat (first | exact Ext.here | apply Ext.there))).elem_shape (fun _ => rfl) (by decide) h1 w hw) ?_
      rintro ⟨b, o, rfl⟩
      have hrow : ∀ {G R : List HProp}, Ext G (old W) R → Row W G b (o + s.i * 1) (intC .i64 cu) := fun x => (hcu.old x).elem (fun _ => rfl) hget
      have hw := wrap_u64_range cu
      refine CG.region ?_
      refine OG.yield (Yield.move rfl) rfl ?_
      refine OG.yield (Yield.move rfl) rfl ?_
      refine OG.yield (Yield.index_slice Try.underlying38 ti3 rfl rfl (by omega) (by omega)) rfl ?_
      refine OG.yield (Yield.load ti3 rfl ((hrow (by repeat (first | exact Ext.here | apply Ext.there))) 0 _ rfl)) rfl ?_
      refine OG.yield (Yield.conv Try.underlying39 rfl rfl rfl) rfl ?_
      refine OG.yield (Yield.move rfl) rfl ?_
      generalize IntKind.u64.wrap cu = wr at hw ⊢
      refine OG.yield (Yield.len_slice Try.underlying30 rfl rfl) rfl ?_
      refine OG.yield (Yield.move rfl) rfl ?_
      refine OG.yield (Yield.sub rfl rfl (w64 (by omega) (by omega))) rfl ?_
      refine OG.yield (Yield.conv Try.underlying39 rfl rfl (wu64 (by omega) (by omega))) rfl ?_
      refine OG.yield (Yield.rem rfl rfl (by omega) (tmod_pos (by omega) (by omega))) rfl ?_
      have hm0 := Int.emod_nonneg wr (show ((bs.length : Int) - (s.at' : Int)) ≠ 0 by omega)
      have hm1 := Int.emod_lt_of_pos wr (show 0 < ((bs.length : Int) - (s.at' : Int)) by omega)
      obtain ⟨k, hk⟩ : ∃ k : Nat, wr % ((bs.length : Int) - (s.at' : Int)) = (k : Int) := ⟨(wr % ((bs.length : Int) - (s.at' : Int))).toNat, by omega⟩
      rw [hk] at hm0 hm1 ⊢
      refine OG.yield (Yield.conv Try.underlying3 rfl rfl (w64 (by omega) (by omega))) rfl ?_
      refine OG.yield (Yield.add rfl rfl (w64 (by omega) (by omega))) rfl ?_
      refine OG.yield (Yield.assign rfl) rfl ?_
      refine OG.nil ?_
      rw [show (1 + (k : Int)) = ((k + 1 : Nat) : Int) by omega]
      have hkk : s.at' + (k + 1) ≤ bs.length := by omega
      generalize k + 1 = n at hkk ⊢
      refine QG.then ?_
      refine CG.seq ?_
      refine CG.seq ?_
      refine CG.region ?_
      refine OG.yield (Yield.move rfl) rfl ?_
      refine OG.effd (Eff.lit0 Try.underlying30 ti5 rfl) rfl ?_
      rintro b70 -
      refine OG.yield (Yield.move rfl) rfl ?_
      refine OG.yield (Yield.move rfl) rfl ?_
      refine OG.yield (Yield.move rfl) rfl ?_
      refine OG.yield (Yield.move rfl) rfl ?_
      refine OG.yield (Yield.add rfl rfl (w64 (by omega) (by omega))) rfl ?_
      refine OG.yield (Yield.as (Yield.slice Try.underlying30 ti5 rfl (Bound.some rfl) (Bound.some rfl) (by omega) (by omega) (by omega)) (v' := .slice (a0.map fun x => cutAt x s.at' c0 1) ((bs.drop s.at').take n).length (c0 - s.at')) (by rw [show ((bs.drop s.at').take n).length = n by simp; omega]; congr 1; omega)) rfl ?_
      refine OG.effd (Eff.appendB0 rfl rfl rfl Try.underlying30 Try.underlying30 ti5 (by decide) (by repeat (first | exact Foc.here | apply Foc.there)) ((hb.old (by repeat (first | exact Ext.here | apply Ext.there))).midB hcap hkk) (by simp; omega)) rfl ?_
      rintro ⟨a77, c77⟩ -
      refine OG.callo call16 rfl ((by repeat (first | exact Imp.refl _ | exact Imp.none _ | apply Imp.pull (by repeat (first | exact Ext.here | apply Ext.there)) | apply Imp.trans Imp.drop))) (send_spec W _ (ds := (bs.drop s.at').take n) (by first | exact RdB.of_osl (by repeat (first | exact Ext.here | apply Ext.there)) rfl rfl | exact RdB.of_osl (by repeat (first | exact Ext.here | apply Ext.there)) rfl (by simp [bytesV, byteV]) | assumption | exact RdB.of_slR (SlAt.old (by assumption) (by repeat (first | exact Ext.here | apply Ext.there))) (by assumption)) (by simp; omega) (by omega) (by simp)) rfl ?_
      rintro ⟨⟩ -
      rw [List.take_of_length_le (show ((bs.drop s.at').take n).length ≤ 256 - s.q.length by simp; omega)]
      have hpl : ((bs.drop s.at').take n).length = n := by simp; omega
      refine OG.yield (Yield.move rfl) rfl ?_
      refine OG.yield (Yield.as (Yield.neq rfl rfl) (bF (by omega))) rfl ?_
      refine OG.nil ?_
      refine QG.then ?_
      refine CG.cond_f rfl ?_
      refine CG.skip ?_
      refine QG.then ?_
      refine CG.seq ?_
      refine CG.region ?_
      refine OG.yield (Yield.move rfl) rfl ?_
      refine OG.yield (Yield.move rfl) rfl ?_
      refine OG.yield (Yield.add rfl rfl (w64 (by omega) (by omega))) rfl ?_
      refine OG.yield (Yield.assign rfl) rfl ?_
      refine OG.nil ?_
      rw [show ((s.at' : Int) + (n : Int)) = ((s.at' + n : Nat) : Int) by omega]
      have le2 : s.s ++ (s.q ++ (bs.drop s.at').take n) = bs.take (s.at' + n) := by rw [← List.append_assoc, le, List.take_add]
      have hl2 := congrArg List.length le2
      simp only [List.length_append, hpl, List.length_take] at hl2
      generalize s.q ++ (bs.drop s.at').take n = q2 at le2 ⊢
      have hl3 := congrArg List.length le2
      simp only [List.length_append, List.length_take] at hl3
      refine QG.then ?_
      refine CG.seq ?_
      refine CG.region ?_
      refine OG.yield (Yield.move rfl) rfl ?_
      refine OG.yield (Yield.rem rfl rfl (by omega) (tmod_pos (by omega) (by omega))) rfl ?_
      refine OG.yield (by first | exact Yield.as (Yield.eql rfl rfl) (bT (by omega)) | exact Yield.as (Yield.eql rfl rfl) (bF (by omega)) | exact Yield.eql rfl rfl) rfl ?_
      refine OG.nil ?_
      refine QG.then ?_
      refine CG.cond rfl (fun hc => ?_) (fun hc => ?_)
      · try replace hc := of_decide_eq_true hc
        refine CG.region ?_
        refine OG.yield (Yield.move rfl) rfl ?_
        refine OG.yield (Yield.move rfl) rfl ?_
        refine OG.callo call15 rfl ((by repeat (first | exact Imp.refl _ | exact Imp.none _ | apply Imp.pull (by repeat (first | exact Ext.here | apply Ext.there)) | apply Imp.trans Imp.drop))) (drain_spec W _ (n : Int) (by omega) (by omega)) rfl ?_
        rintro ⟨⟩ -
        refine OG.nil ?_
        refine QG.block_normal ?_
        refine QG.then ?_
        refine CG.region ?_
        refine OG.yield (Yield.move rfl) rfl ?_
        refine OG.yield (Yield.add rfl rfl (w64 (by omega) (by omega))) rfl ?_
        refine OG.yield (Yield.assign rfl) rfl ?_
        refine OG.nil ?_
        refine QG.next ⟨s.i + 1, s.at' + n, q2.drop (kOf n q2.length), s.s ++ q2.take (kOf n q2.length)⟩ ⟨hkk, ?_, by simp only; omega⟩ (by simp only; omega) (by repeat (first | exact Env.sub_nil _ | refine Env.sub_cons rfl ?_)) (by repeat (first | exact Imp.refl _ | exact Imp.none _ | apply Imp.pull (by repeat (first | exact Ext.here | apply Ext.there)) | apply Imp.trans Imp.drop))
        simp only [List.append_assoc, List.take_append_drop]; exact le2
      · try replace hc := of_decide_eq_false hc
        refine CG.skip ?_
        refine QG.block_normal ?_
        refine QG.then ?_
        refine CG.region ?_
        refine OG.yield (Yield.move rfl) rfl ?_
        refine OG.yield (Yield.add rfl rfl (w64 (by omega) (by omega))) rfl ?_
        refine OG.yield (Yield.assign rfl) rfl ?_
        refine OG.nil ?_
        exact QG.next ⟨s.i + 1, s.at' + n, q2, s.s⟩ ⟨hkk, le2, by simp only; omega⟩ (by simp only; omega) (by repeat (first | exact Env.sub_nil _ | refine Env.sub_cons rfl ?_)) (by repeat (first | exact Imp.refl _ | exact Imp.none _ | apply Imp.pull (by repeat (first | exact Ext.here | apply Ext.there)) | apply Imp.trans Imp.drop))
    · skip
      refine CG.region ?_
      refine OG.yield (Yield.move rfl) rfl ?_
      refine OG.yield (Yield.move rfl) rfl ?_
      refine OG.yield (Yield.len_slice Try.underlying38 rfl rfl) rfl ?_
      refine OG.yield (by first | exact Yield.as (Yield.lss rfl rfl) (bT (by omega)) | exact Yield.as (Yield.lss rfl rfl) (bF (by omega)) | exact Yield.lss rfl rfl) rfl ?_
      refine OG.yield (Yield.move rfl) rfl ?_
      refine OG.guard_yes rfl rfl rfl (by decide) ?_
      refine OG.yield (Yield.move rfl) rfl ?_
      refine OG.guard_yes rfl rfl rfl (by decide) ?_
      refine OG.yield (by first | exact Yield.as (Yield.lss rfl rfl) (bT (by omega)) | exact Yield.as (Yield.lss rfl rfl) (bF (by omega)) | exact Yield.lss rfl rfl) rfl ?_
      refine OG.yield (by first | exact Yield.pick_t rfl rfl | exact Yield.pick_f rfl rfl | exact Yield.pick rfl (fun _ => rfl) (fun _ => rfl)) rfl ?_
      refine OG.yield (Yield.move rfl) rfl ?_
      refine OG.guard_yes rfl rfl rfl (by decide) ?_
      refine OG.yield (Yield.move rfl) rfl ?_
      refine OG.guard_yes rfl rfl rfl (by decide) ?_
      refine OG.yield (Yield.move rfl) rfl ?_
      refine OG.guard_yes rfl rfl rfl (by decide) ?_
      refine OG.yield (Yield.len_slice Try.underlying30 rfl rfl) rfl ?_
      refine OG.guard_yes rfl rfl rfl (by decide) ?_
      refine OG.yield (by first | exact Yield.as (Yield.lss rfl rfl) (bT (by omega)) | exact Yield.as (Yield.lss rfl rfl) (bF (by omega)) | exact Yield.lss rfl rfl) rfl ?_
      refine OG.yield (by first | exact Yield.pick_t rfl rfl | exact Yield.pick_f rfl rfl | exact Yield.pick rfl (fun _ => rfl) (fun _ => rfl)) rfl ?_
      refine OG.nil ?_
      refine QG.then ?_
      refine CG.cond_f rfl ?_
      refine CG.exit ?_
      refine QG.pass_exit ?_
      refine QG.pass_exit ?_
      refine QG.block_exit ?_
      exact QG.mid s ⟨la, le, im⟩ (by repeat (first | exact Env.sub_nil _ | refine Env.sub_cons rfl ?_)) (Imp.refl _)
    · skip
      refine CG.region ?_
      refine OG.yield (Yield.move rfl) rfl ?_
      refine OG.yield (Yield.move rfl) rfl ?_
      refine OG.yield (Yield.len_slice Try.underlying38 rfl rfl) rfl ?_
      refine OG.yield (by first | exact Yield.as (Yield.lss rfl rfl) (bT (by omega)) | exact Yield.as (Yield.lss rfl rfl) (bF (by omega)) | exact Yield.lss rfl rfl) rfl ?_
      refine OG.yield (Yield.move rfl) rfl ?_
      refine OG.guard_yes rfl rfl rfl (by decide) ?_
      refine OG.yield (Yield.move rfl) rfl ?_
      refine OG.guard_yes rfl rfl rfl (by decide) ?_
      refine OG.yield (by first | exact Yield.as (Yield.lss rfl rfl) (bT (by omega)) | exact Yield.as (Yield.lss rfl rfl) (bF (by omega)) | exact Yield.lss rfl rfl) rfl ?_
      refine OG.yield (by first | exact Yield.pick_t rfl rfl | exact Yield.pick_f rfl rfl | exact Yield.pick rfl (fun _ => rfl) (fun _ => rfl)) rfl ?_
      refine OG.yield (Yield.move rfl) rfl ?_
      refine OG.guard_no rfl rfl rfl rfl rfl (by decide) (by decide) ?_
      refine OG.guard_no rfl rfl rfl rfl rfl (by decide) (by decide) ?_
      refine OG.guard_no rfl rfl rfl rfl rfl (by decide) (by decide) ?_
      refine OG.guard_no rfl rfl rfl rfl rfl (by decide) (by decide) ?_
      refine OG.yield (by first | exact Yield.pick_t rfl rfl | exact Yield.pick_f rfl rfl | exact Yield.pick rfl (fun _ => rfl) (fun _ => rfl)) rfl ?_
      refine OG.nil ?_
      refine QG.then ?_
      refine CG.cond_f rfl ?_
      refine CG.exit ?_
      refine QG.pass_exit ?_
      refine QG.pass_exit ?_
      refine QG.block_exit ?_
      exact QG.mid s ⟨la, le, im⟩ (by repeat (first | exact Env.sub_nil _ | refine Env.sub_cons rfl ?_)) (Imp.refl _)
    · skip
      refine CG.region ?_
      refine OG.yield (Yield.move rfl) rfl ?_
      refine OG.yield (Yield.move rfl) rfl ?_
      refine OG.yield (Yield.len_slice Try.underlying38 rfl rfl) rfl ?_
      refine OG.yield (by first | exact Yield.as (Yield.lss rfl rfl) (bT (by omega)) | exact Yield.as (Yield.lss rfl rfl) (bF (by omega)) | exact Yield.lss rfl rfl) rfl ?_
      refine OG.yield (Yield.move rfl) rfl ?_
      refine OG.guard_no rfl rfl rfl rfl rfl (by decide) (by decide) ?_
      refine OG.guard_no rfl rfl rfl rfl rfl (by decide) (by decide) ?_
      refine OG.yield (by first | exact Yield.pick_t rfl rfl | exact Yield.pick_f rfl rfl | exact Yield.pick rfl (fun _ => rfl) (fun _ => rfl)) rfl ?_
      refine OG.yield (Yield.move rfl) rfl ?_
      refine OG.guard_no rfl rfl rfl rfl rfl (by decide) (by decide) ?_
      refine OG.guard_no rfl rfl rfl rfl rfl (by decide) (by decide) ?_
      refine OG.guard_no rfl rfl rfl rfl rfl (by decide) (by decide) ?_
      refine OG.guard_no rfl rfl rfl rfl rfl (by decide) (by decide) ?_
      refine OG.yield (by first | exact Yield.pick_t rfl rfl | exact Yield.pick_f rfl rfl | exact Yield.pick rfl (fun _ => rfl) (fun _ => rfl)) rfl ?_
      refine OG.nil ?_
      refine QG.then ?_
      refine CG.cond_f rfl ?_
      refine CG.exit ?_
      refine QG.pass_exit ?_
      refine QG.pass_exit ?_
      refine QG.block_exit ?_
      exact QG.mid s ⟨la, le, im⟩ (by repeat (first | exact Env.sub_nil _ | refine Env.sub_cons rfl ?_)) (Imp.refl _)
  rintro s ⟨la, le, im⟩
  refine CG.seq ?_
  have hsq := congrArg List.length le
  simp only [List.length_append, List.length_take] at hsq
  refine CG.region ?_
  refine OG.yield (Yield.move rfl) rfl ?_
  refine OG.effd (Eff.lit0 Try.underlying30 ti5 rfl) rfl ?_
  rintro b91 -
  refine OG.yield (Yield.move rfl) rfl ?_
  refine OG.yield (Yield.move rfl) rfl ?_
  refine OG.yield (Yield.as (Yield.slice Try.underlying30 ti5 rfl (Bound.some rfl) Bound.none (by omega) (by omega) (by omega)) (v' := .slice (a0.map fun x => cutAt x s.at' c0 1) (bs.drop s.at').length (c0 - s.at')) (by rw [List.length_drop]; congr 1)) rfl ?_
  refine OG.effd (Eff.appendB0 rfl rfl rfl Try.underlying30 Try.underlying30 ti5 (by decide) (by repeat (first | exact Foc.here | apply Foc.there)) ((hb.old (by repeat (first | exact Ext.here | apply Ext.there))).dropB hcap la) (by simp; omega)) rfl ?_
  rintro ⟨a95, c95⟩ -
  refine OG.callo call16 rfl ((by repeat (first | exact Imp.refl _ | exact Imp.none _ | apply Imp.pull (by repeat (first | exact Ext.here | apply Ext.there)) | apply Imp.trans Imp.drop))) (send_spec W _ (ds := bs.drop s.at') (by first | exact RdB.of_osl (by repeat (first | exact Ext.here | apply Ext.there)) rfl rfl | exact RdB.of_osl (by repeat (first | exact Ext.here | apply Ext.there)) rfl (by simp [bytesV, byteV]) | assumption | exact RdB.of_slR (SlAt.old (by assumption) (by repeat (first | exact Ext.here | apply Ext.there))) (by assumption)) (by simp; omega) (by omega) (by simp)) rfl ?_
  rintro ⟨⟩ -
  rw [List.take_of_length_le (show (bs.drop s.at').length ≤ 256 - s.q.length by simp; omega)]
  have le2 : s.s ++ (s.q ++ bs.drop s.at') = bs := by rw [← List.append_assoc, le, List.take_append_drop]
  have hl2 := congrArg List.length le2
  generalize s.q ++ bs.drop s.at' = q2 at le2 hl2 ⊢
  simp only [List.length_append] at hl2
  refine OG.nil ?_
  refine QG.then ?_
  refine CG.seq ?_
  refine CG.region ?_
  refine OG.yield (Yield.move rfl) rfl ?_
  refine OG.callo call15 rfl ((by repeat (first | exact Imp.refl _ | exact Imp.none _ | apply Imp.pull (by repeat (first | exact Ext.here | apply Ext.there)) | apply Imp.trans Imp.drop))) (drain_spec W _ 256 (by omega) (by omega)) rfl ?_
  rintro ⟨⟩ -
  rw [kOf_all (show (q2.length : Int) ≤ 256 by omega), List.take_length, List.drop_length, le2]
  refine OG.nil ?_
  refine QG.then ?_
  refine CG.seq ?_
  refine CG.draw (.look 0 1 (.look 3 0 (.eff1 1 false (.look 2 0 (.eff1 4 false (.look 5 1 (.look 6 1 (.look 7 1 (.look 8 1 (.look 11 0 (.look 12 0 (.eff1 9 false (.look 10 1 (.look 13 1 (.look 14 1 (.look 15 1 (.look 16 1 (.eff1 17 false (.look 18 1 (.look 19 1 (.look 20 1 (.done)))))))))))))))))))))) [1, 4, 9, 17] [] ([old W]) ([]) mixed (by kernel_rfl) ((by repeat (first | exact Imp.refl _ | exact Imp.none _ | apply Imp.pull (by repeat (first | exact Ext.here | apply Ext.there)) | apply Imp.trans Imp.drop))) (Imp.none _) ?_
  refine DG.look rfl rfl (Yield.move rfl) rfl ?_
  refine DG.look rfl rfl (Yield.move rfl) rfl ?_
  refine DG.eff1 ?_
  refine Chg.callo rfl rfl call18 rfl ((by repeat (first | exact Imp.refl _ | exact Imp.none _ | apply Imp.pull (by repeat (first | exact Ext.here | apply Ext.there)) | apply Imp.trans Imp.drop))) (sent_spec W _ (by omega)) rfl (K' := fun p => [oby 5 p.1 p.2 bs, old W]) (fun _ => (by repeat (first | exact Imp.refl _ | exact Imp.none _ | apply Imp.pull (by repeat (first | exact Ext.here | apply Ext.there)) | apply Imp.trans Imp.drop))) (fun _ => (by repeat (first | exact Imp.refl _ | exact Imp.none _ | apply Imp.pull (by repeat (first | exact Ext.here | apply Ext.there)) | apply Imp.trans Imp.drop))) (fun _ => (by repeat (first | exact Imp.refl _ | exact Imp.none _ | apply Imp.pull (by repeat (first | exact Ext.here | apply Ext.there)) | apply Imp.trans Imp.drop))) ?_
  rintro ⟨a100, c100⟩ -
  refine DG.look rfl rfl (Yield.toStr Try.underlying30 Try.underlying9 Try.underlying5 rfl (by first | exact SlR.of_osl (by repeat (first | exact Ext.here | apply Ext.there)) | exact SlR.of_osl_eq (by repeat (first | exact Ext.here | apply Ext.there)) rfl rfl | exact SlR.of_osl_eq (by repeat (first | exact Ext.here | apply Ext.there)) rfl (by simp [bytesV, byteV]) | assumption | exact SlAt.old (by assumption) (by repeat (first | exact Ext.here | apply Ext.there)) | exact RdB.slR (by assumption))) rfl ?_
  refine DG.eff1 ?_
  refine Chg.callo rfl rfl call18 rfl ((by repeat (first | exact Imp.refl _ | exact Imp.none _ | apply Imp.pull (by repeat (first | exact Ext.here | apply Ext.there)) | apply Imp.trans Imp.drop))) (sent_spec W _ (by omega)) rfl (fun _ => (by repeat (first | exact Imp.refl _ | exact Imp.none _ | apply Imp.pull (by repeat (first | exact Ext.here | apply Ext.there)) | apply Imp.trans Imp.drop))) (fun _ => Imp.refl _) (fun _ => (by repeat (first | exact Imp.refl _ | exact Imp.none _ | apply Imp.pull (by repeat (first | exact Ext.here | apply Ext.there)) | apply Imp.trans Imp.drop))) ?_
  rintro ⟨a103, c103⟩ -
  refine DG.look rfl rfl (Yield.toStr Try.underlying30 Try.underlying9 Try.underlying5 rfl (by first | exact SlR.of_osl (by repeat (first | exact Ext.here | apply Ext.there)) | exact SlR.of_osl_eq (by repeat (first | exact Ext.here | apply Ext.there)) rfl rfl | exact SlR.of_osl_eq (by repeat (first | exact Ext.here | apply Ext.there)) rfl (by simp [bytesV, byteV]) | assumption | exact SlAt.old (by assumption) (by repeat (first | exact Ext.here | apply Ext.there)) | exact RdB.slR (by assumption))) rfl ?_
  refine DG.look rfl rfl (by first | exact Yield.str_same rfl rfl | exact Yield.str_eql rfl rfl) rfl ?_
  refine DG.look rfl rfl (Yield.move rfl) rfl ?_
  refine DG.look rfl rfl (Yield.move rfl) rfl ?_
  refine DG.look rfl rfl (Yield.move rfl) rfl ?_
  refine DG.look rfl rfl (Yield.toStr (bs := bs) Try.underlying30 Try.underlying9 Try.underlying5 rfl (hb.old (by repeat (first | exact Ext.here | apply Ext.there)))) rfl ?_
  refine DG.eff1 ?_
  refine Chg.callo rfl rfl call18 rfl ((by repeat (first | exact Imp.refl _ | exact Imp.none _ | apply Imp.pull (by repeat (first | exact Ext.here | apply Ext.there)) | apply Imp.trans Imp.drop))) (sent_spec W _ (by omega)) rfl (fun _ => (by repeat (first | exact Imp.refl _ | exact Imp.none _ | apply Imp.pull (by repeat (first | exact Ext.here | apply Ext.there)) | apply Imp.trans Imp.drop))) (fun _ => Imp.refl _) (fun _ => (by repeat (first | exact Imp.refl _ | exact Imp.none _ | apply Imp.pull (by repeat (first | exact Ext.here | apply Ext.there)) | apply Imp.trans Imp.drop))) ?_
  rintro ⟨a108, c108⟩ -
  refine DG.look rfl rfl (Yield.toStr Try.underlying30 Try.underlying9 Try.underlying5 rfl (by first | exact SlR.of_osl (by repeat (first | exact Ext.here | apply Ext.there)) | exact SlR.of_osl_eq (by repeat (first | exact Ext.here | apply Ext.there)) rfl rfl | exact SlR.of_osl_eq (by repeat (first | exact Ext.here | apply Ext.there)) rfl (by simp [bytesV, byteV]) | assumption | exact SlAt.old (by assumption) (by repeat (first | exact Ext.here | apply Ext.there)) | exact RdB.slR (by assumption))) rfl ?_
  refine DG.look rfl rfl (by first | exact Yield.str_same rfl rfl | exact Yield.str_eql rfl rfl) rfl ?_
  refine DG.look rfl rfl (by first | exact Yield.pick_t rfl rfl | exact Yield.pick_f rfl rfl | exact Yield.pick rfl (fun _ => rfl) (fun _ => rfl)) rfl ?_
  refine DG.look rfl rfl (Yield.move rfl) rfl ?_
  refine DG.look rfl rfl (Yield.move rfl) rfl ?_
  refine DG.eff1 ?_
  refine Chg.callo rfl rfl call17 rfl ((by repeat (first | exact Imp.refl _ | exact Imp.none _ | apply Imp.pull (by repeat (first | exact Ext.here | apply Ext.there)) | apply Imp.trans Imp.drop))) (queued_spec W _) rfl (fun _ => (by repeat (first | exact Imp.refl _ | exact Imp.none _ | apply Imp.pull (by repeat (first | exact Ext.here | apply Ext.there)) | apply Imp.trans Imp.drop))) (fun _ => Imp.refl _) (fun _ => (by repeat (first | exact Imp.refl _ | exact Imp.none _ | apply Imp.pull (by repeat (first | exact Ext.here | apply Ext.there)) | apply Imp.trans Imp.drop))) ?_
  rintro ⟨⟩ -
  refine DG.look rfl rfl (Yield.as (Yield.eql rfl rfl) (bT rfl)) rfl ?_
  refine DG.look rfl rfl (by first | exact Yield.pick_t rfl rfl | exact Yield.pick_f rfl rfl | exact Yield.pick rfl (fun _ => rfl) (fun _ => rfl)) rfl ?_
  refine DG.look rfl rfl (Yield.assign rfl) rfl ?_
  refine DG.done ?_
  refine QG.then ?_
  refine CG.ret ?_
  exact QG.ret1 rfl rfl () trivial rfl (by repeat (first | exact Imp.refl _ | exact Imp.none _ | apply Imp.pull (by repeat (first | exact Ext.here | apply Ext.there)) | apply Imp.trans Imp.drop))
open Go.ChangeShapes Go.WideShapes Go.ChangeAt
theorem own : ownKnob Try.prog.godebug = none := by kernel_rfl
theorem laid : laidOutB Try.prog = true := by kernel_rfl
set_option maxRecDepth 100000 in
theorem lifted (os : Os) (started : os.Started) (H : Type) (enc : TypeId × Value → H) :
    ReturnsInHanded {} Try.checked os 5 .any (Rows.uartPiecesSpec.pre6 enc Try.prog Try.f5 Rows.uartPiecesRow.domain false) (Rows.uartPiecesSpec.post enc Try.prog Try.f5 false true false false) := by
  refine returnsInHanded_of_change_sized (C := Try.checked) own started (by kernel_rfl) Try.func5
    (ChangeSpec.witness6 (enc := enc) (C := Try.checked) false ⟨#[], #[.slice none 0 0, .slice none 0 0], []⟩ 8 (by kernel_rfl) (by kernel_rfl) (by kernel_rfl) (by kernel_rfl)) ?_
  intro W base args ds gs before hval0 hW hcnd hsz0 _
  have hsz : (DataW.weightsEach Try.prog (Try.f5.params.toList ++ Rows.uartPiecesSpec.plain.varTypes Try.prog) (ds ++ gs)).all (· ≤ reachBytes) = true := hsz0
  have hval : ∀ (j : Nat) t v, Try.f5.params[j]? = some t → args[j]? = some v → Value.okWide Try.prog W .any base t v := hval0
  have hW' := hW
  obtain ⟨p, q, hA0, hV, rfl, hfz, hnd⟩ := hW
  have hA : DataW.TrodAll enc Try.prog W 0 (fun _ => true) true Try.f5.params.toList args.toList ds p := hA0
  rw [Try.params5] at hA hval hsz
  obtain ⟨v0, vs0, d0, ds0, p0, q0, hargs, rfl, rfl, h0, r0⟩ := trodAll_cons hA
  obtain ⟨v1, vs1, d1, ds1, p1, q1, rfl, rfl, rfl, h1, r1⟩ := trodAll_cons r0
  obtain ⟨rfl, rfl, rfl⟩ := trodAll_nil r1
  obtain rfl : args = #[v0, v1] := by cases args; simp_all
  obtain ⟨rfl, rfl⟩ := trodVars_none hV
  have k0 := weights_le hsz 0 (t := 30) (d := d0) rfl rfl
  have s0 := Opn.param Try.underlying30 (Opn.bytes Try.underlying30 Try.underlying5 (by kernel_rfl) (by kernel_rfl)) (hval 0 30 v0 rfl rfl) h0 k0
  obtain ⟨x0, c0, b0, e0, l0, s0, m0⟩ := s0
  cases e0
  have k1 := weights_le hsz 1 (t := 38) (d := d1) rfl rfl
  have s1 := Opn.param Try.underlying38 (Opn.ints (by' := 8) Try.underlying38 Try.underlying3 (by kernel_rfl) (by kernel_rfl)) (hval 1 38 v1 rfl rfl) h1 k1
  obtain ⟨x1, c1, cuts, e1, l1, ok1, s1, m1⟩ := s1
  cases e1
  clear hA0 hval0 hsz0 hsz
  refine ((walk W s0 l0 m0 s1) W (Sat.start W)).mono fun e W' he => ?_
  obtain ⟨_, _, he, hs⟩ := he
  subst he
  exact ⟨_, rfl, law_post laid (params_ok (by kernel_rfl)) rfl Try.underlying4 hW' rfl rfl (Sat.below (by repeat (first | exact Ext.here | apply Ext.there)) hs)⟩
theorem over : Rows.uartPiecesRow.holds Try.pinned (OpenSpec.ofChange Rows.uartPiecesSpec) :=
  OpenClaim.holds_of_wide 5 Try.f5 rfl rfl rfl rfl rfl rfl rfl ⟨rfl, rfl, rfl, rfl, rfl⟩ rfl rfl rfl rfl rfl (by kernel_rfl) Try.func5 (by kernel_rfl)
    (of_decide_eq_true (by kernel_rfl)) (by unfold Func.isWrapper; first | (rw [if_pos (by decide +kernel)]; kernel_rfl) | (rw [if_neg (by decide +kernel)]; exact ⟨rfl, rfl⟩))
    (fun os started H enc _ => lifted os started H enc)
theorem proved : Rows.UartPiecesSaid := over
#print axioms proved
end Go.Proofs.Ytmhcdeklfecokaa.uartPieces
