/- vcon's ring: all, take, lay: what lies in a ring, what is taken off it and laid into it, as lists of bytes. -/
import Derived.Test.YtmhcdeklfecokaaTab
import Derived.Test.YtmhcdeklfecokaaMk
namespace Go.Proofs.Ytmhcdeklfecokaa.Vc
open Go Go.Sl Go.RowKit Go.Proofs Go.Proofs.Ytmhcdeklfecokaa.T
set_option linter.unusedVariables false
set_option linter.unusedSimpArgs false
set_option maxRecDepth 100000

/-- From offset o of the cells cs on there lies a ring that holds the bytes bs. -/
structure RingAt (cs : List Value) (o : Nat) (arr : List UInt8) (first : Nat) (bs : List UInt8) : Prop where
  room : o + 66 ≤ cs.length
  len : arr.length = 64
  lt : first < 64
  few : bs.length ≤ 64
  carr : ∀ (i : Nat) (b : UInt8), arr[i]? = some b → cs[o + i]? = some (byteV b)
  cfirst : cs[o + 64]? = some (.int .i64 first)
  cn : cs[o + 65]? = some (.int .i64 bs.length)
  get : ∀ (i : Nat) (b : UInt8), bs[i]? = some b → arr[(first + i) % 64]? = some b
def Ring (cs : List Value) (o : Nat) (bs : List UInt8) : Prop := ∃ arr first, RingAt cs o arr first bs
/-- cs' is cs, but for the cells from o on, m of them. -/
def But (cs cs' : List Value) (o m : Nat) : Prop := cs'.length = cs.length ∧ ∀ k, (k < o ∨ o + m ≤ k) → cs'[k]? = cs[k]?
theorem But.refl (cs : List Value) (o m : Nat) : But cs cs o m := ⟨rfl, fun _ _ => rfl⟩
theorem But.trans {a b c : List Value} {o m : Nat} (h : But a b o m) (k : But b c o m) : But a c o m := ⟨k.1.trans h.1, fun i hi => (k.2 i hi).trans (h.2 i hi)⟩
theorem But.set {cs : List Value} {o m i : Nat} (v : Value) (h1 : o ≤ i) (h2 : i < o + m) : But cs (cs.set i v) o m := ⟨by simp, fun k hk => by rw [List.getElem?_set_ne (by omega)]⟩
theorem Ring.but {cs cs' : List Value} {o o' : Nat} {bs : List UInt8} (h : Ring cs o bs) (b : But cs cs' o' 66) (hd : o + 66 ≤ o' ∨ o' + 66 ≤ o) : Ring cs' o bs := by
  obtain ⟨arr, first, h⟩ := h
  refine ⟨arr, first, by rw [b.1]; exact h.room, h.len, h.lt, h.few, fun i x hi => ?_, ?_, ?_, h.get⟩
  · have := h.carr i x hi
    have hlt : i < 64 := by
      rw [← h.len]
      rcases Nat.lt_or_ge i arr.length with q | q
      · exact q
      · rw [List.getElem?_eq_none q] at hi; cases hi
    rw [b.2 _ (by omega)]; exact this
  · rw [b.2 _ (by omega)]; exact h.cfirst
  · rw [b.2 _ (by omega)]; exact h.cn

section
variable (W0 : World) (Fr : List HProp)

set_option maxHeartbeats 1000000 in
theorem all_spec {g o : Nat} {cs : List Value} {t : TypeId} {bs : List UInt8} (h : Ring cs o bs) :
    Ctr Try.prog W0 39 [.pointer (some ⟨g, o, none⟩)] (blk g cs t :: Fr) (fun _ : Option Addr × Nat => True) (fun p => .slice p.1 bs.length p.2) (fun p => osl 5 1 p.1 p.2 bs.length (bytesV bs) :: blk g cs t :: Fr) := by
  obtain ⟨arr, first, h⟩ := h
  have hfew := h.few
  have hlt := h.lt
  have hlen := h.len
  refine Ctr.of_body Try.func39 rfl Try.ntmps39 rfl ?_
  refine CG.seq ?_
  refine CG.region ?_
  refine OG.yield (Yield.assign rfl) rfl ?_
  refine OG.nil ?_
  refine QG.then ?_
  refine CG.seq ?_
  refine CG.region ?_
  refine OG.effd (Eff.lit0 Try.underlying30 ti5 rfl) rfl ?_
  rintro b5 -
  refine OG.yield (Yield.assign rfl) rfl ?_
  refine OG.nil ?_
  refine QG.then ?_
  refine CG.seq ?_
  refine CG.seq ?_
  refine CG.region ?_
  refine OG.yield (Yield.move rfl) rfl ?_
  refine OG.yield (Yield.nilCheck rfl) rfl ?_
  refine OG.yield (Yield.fieldAddr fa63_2 rfl) rfl ?_
  refine OG.yield (Yield.load ti3 rfl (Cel.of_blk (by repeat (first | exact Ext.here | apply Ext.there)) h.cn)) rfl ?_
  refine OG.yield (Yield.move rfl) rfl ?_
  refine OG.nil ?_
  refine QG.then ?_
  refine CG.block ?_
  refine CG.loop (fun i : Nat × Option Addr × Nat => i.1 ≤ bs.length) (fun i => [(0, .pointer (some ⟨g, o, none⟩)), (3, .slice i.2.1 i.1 i.2.2), (9, .int .i64 bs.length), (10, .int .i64 i.1)])
    (fun i => osl 5 1 i.2.1 i.2.2 i.1 (bytesV (bs.take i.1)) :: blk g cs t :: Fr) (fun i => bs.length - i.1) (0, some ⟨b5, 0, none⟩, 0) (Nat.zero_le _) ?_ (Imp.refl _) ?_
  · exact Env.sub_cons rfl (Env.sub_cons rfl (Env.sub_cons rfl (Env.sub_cons rfl (Env.sub_nil _))))
  rintro ⟨i, a, c⟩ (hi : i ≤ bs.length)
  refine CG.seq ?_
  refine CG.region ?_
  refine OG.yield (by first | exact Yield.as (Yield.lss rfl rfl) (bT (by omega)) | exact Yield.as (Yield.lss rfl rfl) (bF (by omega)) | exact Yield.lss rfl rfl) rfl ?_
  refine OG.nil ?_
  refine QG.then ?_
  refine CG.seq ?_
  refine CG.cond rfl (fun hc => ?_) (fun hc => ?_)
  · try replace hc := of_decide_eq_true hc
    have hi' : i < bs.length := by omega
    have hget : bs[i]? = some bs[i] := by simp [hi']
    refine CG.skip ?_
    refine QG.then ?_
    refine CG.seq ?_
    refine CG.block ?_
    refine CG.seq ?_
    refine CG.region ?_
    refine OG.yield (Yield.move rfl) rfl ?_
    refine OG.yield (Yield.assign rfl) rfl ?_
    refine OG.nil ?_
    refine QG.then ?_
    refine CG.draw (.look 0 0 (.look 1 1 (.look 2 1 (.look 3 1 (.look 4 1 (.look 5 1 (.look 6 1 (.look 7 1 (.look 8 1 (.look 9 1 (.look 10 1 (.look 11 1 (.look 12 1 (.eff1 13 false (.eff1 14 false (.look 15 1 (.done))))))))))))))))) [13, 14] [] ([]) ([]) mixed (by kernel_rfl) (Imp.none _) (Imp.none _) ?_
    refine DG.look rfl rfl (Yield.move rfl) rfl ?_
    refine DG.look rfl rfl (Yield.move rfl) rfl ?_
    refine DG.look rfl rfl (Yield.move rfl) rfl ?_
    refine DG.look rfl rfl (Yield.nilCheck rfl) rfl ?_
    refine DG.look rfl rfl (Yield.fieldAddr fa63_1 rfl) rfl ?_
    refine DG.look rfl rfl (Yield.load ti3 rfl (Cel.of_blk (by repeat (first | exact Ext.here | apply Ext.there)) h.cfirst)) rfl ?_
    refine DG.look rfl rfl (Yield.move rfl) rfl ?_
    refine DG.look rfl rfl (Yield.add rfl rfl (w64 (by omega) (by omega))) rfl ?_
    refine DG.look rfl rfl (Yield.rem rfl rfl (by omega) (tmod_pos (by omega) (by omega))) rfl ?_
    refine DG.look rfl rfl (Yield.nilCheck rfl) rfl ?_
    refine DG.look rfl rfl (Yield.fieldAddr fa63_0 rfl) rfl ?_
    refine DG.look rfl rfl (Yield.index_array Try.underlying61 ti5 rfl rfl (by omega) (by omega)) rfl ?_
    refine DG.look rfl rfl (Yield.load ti5 rfl (Cel.of_blk (by repeat (first | exact Ext.here | apply Ext.there)) (v := byteV bs[i]) (by
      rw [show o + 0 + (((first : Int) + (i : Int)) % 64).toNat * 1 = o + (first + i) % 64 by omega]; exact h.carr _ _ (h.get i _ hget)))) rfl ?_
    refine DG.eff1 ?_
    refine Chg.eff rfl rfl (Eff.lit1 Try.underlying30 ti5 rfl rfl rfl) rfl (fun _ => (by repeat (first | exact Imp.refl _ | exact Imp.none _ | apply Imp.pull (by repeat (first | exact Ext.here | apply Ext.there)) | apply Imp.trans Imp.drop))) (fun _ => Imp.refl _) (fun _ => (by repeat (first | exact Imp.refl _ | exact Imp.none _ | apply Imp.pull (by repeat (first | exact Ext.here | apply Ext.there)) | apply Imp.trans Imp.drop))) ?_
    rintro b26 -
    refine DG.eff1 ?_
    refine Chg.eff rfl rfl (Eff.append rfl rfl rfl Try.underlying30 Try.underlying30 ti5 rfl (by decide) (by repeat (first | exact Foc.here | apply Foc.there)) (SlR.of_osl (by repeat (first | exact Ext.here | apply Ext.there))) (bytesV_one (bs := [bs[i]])) (by omega)) rfl (fun _ => (by repeat (first | exact Imp.refl _ | exact Imp.none _ | apply Imp.pull (by repeat (first | exact Ext.here | apply Ext.there)) | apply Imp.trans Imp.drop))) (fun _ => Imp.refl _) (fun _ => (by repeat (first | exact Imp.refl _ | exact Imp.none _ | apply Imp.pull (by repeat (first | exact Ext.here | apply Ext.there)) | apply Imp.trans Imp.drop))) ?_
    rintro ⟨a', c'⟩ -
    refine DG.look rfl rfl (Yield.assign rfl) rfl ?_
    refine DG.done ?_
    refine QG.block_normal ?_
    refine QG.then ?_
    refine CG.region ?_
    refine OG.yield (Yield.add rfl rfl (w64 (by omega) (by omega))) rfl ?_
    refine OG.yield (Yield.move rfl) rfl ?_
    refine OG.nil ?_
    refine QG.next (i + 1, a', c') (show i + 1 ≤ bs.length by omega) (show bs.length - (i + 1) < bs.length - i by omega) ?_ ?_
    · exact Env.sub_cons rfl (Env.sub_cons rfl (Env.sub_cons rfl (Env.sub_cons rfl (Env.sub_nil _))))
    · dsimp only
      rw [List.take_succ_eq_append_getElem hi', bytesV_append]
      exact (by repeat (first | exact Imp.refl _ | exact Imp.none _ | apply Imp.pull (by repeat (first | exact Ext.here | apply Ext.there)) | apply Imp.trans Imp.drop))
  · try replace hc := of_decide_eq_false hc
    refine CG.exit ?_
    refine QG.pass_exit ?_
    refine QG.pass_exit ?_
    refine QG.block_exit ?_
    refine QG.then ?_
    refine CG.seq ?_
    refine CG.region ?_
    refine OG.yield (Yield.move rfl) rfl ?_
    refine OG.yield (Yield.assign rfl) rfl ?_
    refine OG.nil ?_
    refine QG.then ?_
    refine CG.ret ?_
    refine QG.ret1 rfl rfl (a, c) trivial ?_ ?_
    · have : i = bs.length := by omega
      subst this; rfl
    · have : i = bs.length := by omega
      subst this
      rw [List.take_length]
      exact Imp.refl _

end

theorem lt_of_get {α : Type} {l : List α} {i : Nat} {v : α} (h : l[i]? = some v) : i < l.length := by
  rcases Nat.lt_or_ge i l.length with q | q
  · exact q
  · rw [List.getElem?_eq_none q] at h; cases h

theorem RingAt.take {cs : List Value} {o : Nat} {arr : List UInt8} {first : Nat} {bs : List UInt8} (h : RingAt cs o arr first bs) {k : Nat} (hk : k ≤ bs.length) :
    RingAt ((cs.set (o + 64) (.int .i64 ((first + k) % 64 : Nat))).set (o + 65) (.int .i64 (bs.length - k : Nat))) o arr ((first + k) % 64) (bs.drop k) := by
  have hroom := h.room
  have hlen := h.len
  have hfew := h.few
  refine ⟨by simp; exact hroom, h.len, by omega, by simp; omega, fun i b hi => ?_, ?_, ?_, fun i b hi => ?_⟩
  · have := lt_of_get hi
    rw [List.getElem?_set_ne (by omega), List.getElem?_set_ne (by omega)]; exact h.carr i b hi
  · rw [List.getElem?_set_ne (by omega), List.getElem?_set_self (by omega)]
  · rw [List.getElem?_set_self (by simp; omega)]; simp
  · rw [List.getElem?_drop] at hi
    have := h.get (k + i) b hi
    rw [show (first + (k + i)) % 64 = ((first + k) % 64 + i) % 64 by omega] at this
    exact this
theorem RingAt.put {cs : List Value} {o : Nat} {arr : List UInt8} {first : Nat} {bs : List UInt8} (h : RingAt cs o arr first bs) (b : UInt8) (hk : bs.length < 64) :
    RingAt ((cs.set (o + (first + bs.length) % 64) (byteV b)).set (o + 65) (.int .i64 (bs.length + 1 : Nat))) o (arr.set ((first + bs.length) % 64) b) first (bs ++ [b]) := by
  have hroom := h.room
  have hlen := h.len
  have hlt := h.lt
  refine ⟨by simp; exact hroom, by simp [hlen], h.lt, by simp; omega, fun i x hi => ?_, ?_, ?_, fun i x hi => ?_⟩
  · have := lt_of_get hi
    simp only [List.length_set] at this
    rw [List.getElem?_set_ne (by omega)]
    by_cases hq : (first + bs.length) % 64 = i
    · subst hq
      rw [List.getElem?_set_self (by omega)] at hi
      cases hi
      rw [List.getElem?_set_self (by omega)]
    · rw [List.getElem?_set_ne hq] at hi
      rw [List.getElem?_set_ne (by omega)]; exact h.carr i x hi
  · rw [List.getElem?_set_ne (by omega), List.getElem?_set_ne (by omega)]; exact h.cfirst
  · rw [List.getElem?_set_self (by simp; omega)]; simp
  · have hi2 := lt_of_get hi
    simp only [List.length_append, List.length_singleton] at hi2
    by_cases hq : i = bs.length
    · subst hq
      rw [List.getElem?_append_right (Nat.le_refl _)] at hi
      simp at hi
      subst hi
      rw [List.getElem?_set_self (by omega)]
    · rw [List.getElem?_append_left (by omega)] at hi
      rw [List.getElem?_set_ne (by omega)]; exact h.get i x hi

section
variable (W0 : World) (Fr : List HProp)

/-- How many are taken, when n are asked for. -/
def kOf (n : Int) (m : Nat) : Nat := (max 0 (min n (m : Int))).toNat
theorem kOf_le (n : Int) (m : Nat) : kOf n m ≤ m := by unfold kOf; omega

set_option maxHeartbeats 1000000 in
theorem take_spec {g o : Nat} {cs : List Value} {t : TypeId} {bs : List UInt8} (n : Int) (h : Ring cs o bs) :
    Ctr Try.prog W0 41 [.pointer (some ⟨g, o, none⟩), .int .i64 n] (blk g cs t :: Fr) (fun p : (Option Addr × Nat) × List Value => But cs p.2 o 66 ∧ Ring p.2 o (bs.drop (kOf n bs.length)))
      (fun p => .slice p.1.1 (kOf n bs.length) p.1.2) (fun p => osl 5 1 p.1.1 p.1.2 (kOf n bs.length) (bytesV (bs.take (kOf n bs.length))) :: blk g p.2 t :: Fr) := by
  obtain ⟨arr, first, h⟩ := h
  have hfew := h.few
  have hlt := h.lt
  have hlen := h.len
  have hroom := h.room
  have hk := kOf_le n bs.length
  have hkk : max 0 (min n (bs.length : Int)) = ((kOf n bs.length : Nat) : Int) := by unfold kOf; omega
  generalize kOf n bs.length = k at *
  refine Ctr.of_body Try.func41 rfl Try.ntmps41 rfl ?_
  refine CG.seq ?_
  refine CG.region ?_
  refine OG.yield (Yield.assign rfl) rfl ?_
  refine OG.nil ?_
  refine QG.then ?_
  refine CG.seq ?_
  refine CG.region ?_
  refine OG.yield (Yield.move rfl) rfl ?_
  refine OG.yield (Yield.move rfl) rfl ?_
  refine OG.yield (Yield.nilCheck rfl) rfl ?_
  refine OG.yield (Yield.fieldAddr fa63_2 rfl) rfl ?_
  refine OG.yield (Yield.load ti3 rfl (Cel.of_blk (by repeat (first | exact Ext.here | apply Ext.there)) h.cn)) rfl ?_
  refine OG.yield (Yield.min2 rfl rfl) rfl ?_
  refine OG.yield (Yield.max2 rfl rfl) rfl ?_
  refine OG.yield (Yield.assign rfl) rfl ?_
  refine OG.nil ?_
  rw [hkk]
  refine QG.then ?_
  refine CG.seq ?_
  refine CG.region ?_
  refine OG.yield (Yield.move rfl) rfl ?_
  refine OG.callo call39 rfl ((by repeat (first | exact Imp.refl _ | exact Imp.none _ | apply Imp.pull (by repeat (first | exact Ext.here | apply Ext.there)) | apply Imp.trans Imp.drop))) (all_spec W0 Fr ⟨arr, first, h⟩) rfl ?_
  rintro ⟨a, c⟩ -
  refine OG.pure (fun w hw => osl_facts Ext.here w hw) ?_
  rintro ⟨_, hcap⟩
  refine OG.yield (Yield.move rfl) rfl ?_
  refine OG.yield (Yield.slice_hi Try.underlying30 ti5 rfl (Bound.some rfl) (by omega) (by omega)) rfl ?_
  refine OG.yield (Yield.assign rfl) rfl ?_
  refine OG.nil ?_
  refine QG.then ?_
  refine CG.seq ?_
  refine CG.region ?_
  refine OG.yield (Yield.move rfl) rfl ?_
  refine OG.yield (Yield.move rfl) rfl ?_
  refine OG.yield (Yield.nilCheck rfl) rfl ?_
  refine OG.yield (Yield.fieldAddr fa63_1 rfl) rfl ?_
  refine OG.yield (Yield.load ti3 rfl (Cel.of_blk (by repeat (first | exact Ext.here | apply Ext.there)) h.cfirst)) rfl ?_
  refine OG.yield (Yield.move rfl) rfl ?_
  refine OG.yield (Yield.add rfl rfl (w64 (by omega) (by omega))) rfl ?_
  refine OG.yield (Yield.rem rfl rfl (by omega) (tmod_pos (by omega) (by omega))) rfl ?_
  refine OG.yield (Yield.nilCheck rfl) rfl ?_
  refine OG.yield (Yield.fieldAddr fa63_1 rfl) rfl ?_
  refine OG.eff (Eff.store1 ti3 rfl rfl (by repeat (first | exact Foc.here | apply Foc.there)) rfl (show o + 64 < cs.length by omega)) rfl ?_
  rintro ⟨⟩ -
  refine OG.nil ?_
  refine QG.then ?_
  refine CG.seq ?_
  refine CG.region ?_
  refine OG.yield (Yield.move rfl) rfl ?_
  refine OG.yield (Yield.nilCheck rfl) rfl ?_
  refine OG.yield (Yield.fieldAddr fa63_2 rfl) rfl ?_
  refine OG.yield (Yield.load ti3 rfl (Cel.of_blk (by repeat (first | exact Ext.here | apply Ext.there)) (by rw [List.getElem?_set_ne (by omega)]; exact h.cn))) rfl ?_
  refine OG.yield (Yield.move rfl) rfl ?_
  refine OG.yield (Yield.sub rfl rfl (w64 (by omega) (by omega))) rfl ?_
  refine OG.yield (Yield.nilCheck rfl) rfl ?_
  refine OG.yield (Yield.fieldAddr fa63_2 rfl) rfl ?_
  refine OG.eff (Eff.store1 ti3 rfl rfl (by repeat (first | exact Foc.here | apply Foc.there)) rfl (show o + 65 < (cs.set (o + 64) _).length by simp; omega)) rfl ?_
  rintro ⟨⟩ -
  refine OG.nil ?_
  refine QG.then ?_
  refine CG.seq ?_
  refine CG.region ?_
  refine OG.yield (Yield.move rfl) rfl ?_
  refine OG.yield (Yield.assign rfl) rfl ?_
  refine OG.nil ?_
  refine QG.then ?_
  refine CG.ret ?_
  have e1 : ((first : Int) + (k : Int)) % 64 = (((first + k) % 64 : Nat) : Int) := by omega
  have e2 : ((bs.length : Int) - (k : Int)) = ((bs.length - k : Nat) : Int) := by omega
  rw [e1, e2]
  refine QG.ret1 rfl rfl ((a, c), (cs.set (o + 64) _).set (o + 65) _) ⟨?_, arr, (first + k) % 64, h.take hk⟩ rfl ?_
  · exact (But.set _ (by omega) (by omega)).trans (But.set _ (by omega) (by omega))
  · refine Imp.head (fun x hx => ?_)
    have := osl_take hk x hx
    rw [Nat.mul_one, bytesV_take] at this
    exact this

set_option maxHeartbeats 1000000 in
theorem lay_spec {g o : Nat} {cs : List Value} {t : TypeId} {bs ds : List UInt8} {a2 : Option Addr} {c2 : Nat} (h : Ring cs o bs) (hd : SlR W0 Fr 1 a2 ds.length (bytesV ds)) (hc2 : ds.length ≤ c2) (hsz : ds.length ≤ 2 ^ 48) :
    Ctr Try.prog W0 40 [.pointer (some ⟨g, o, none⟩), .slice a2 ds.length c2] (blk g cs t :: Fr) (fun p : List Value => But cs p o 66 ∧ Ring p o (bs ++ ds.take (64 - bs.length)))
      (fun _ => .int .i64 (min ds.length (64 - bs.length) : Nat)) (fun p => blk g p t :: Fr) := by
  obtain ⟨arr, first, h⟩ := h
  have hfew := h.few
  have hlt := h.lt
  have hlen := h.len
  have hroom := h.room
  have hj : min (ds.length : Int) (64 - (bs.length : Int)) = ((min ds.length (64 - bs.length) : Nat) : Int) := by omega
  have htk : ds.take (min ds.length (64 - bs.length)) = ds.take (64 - bs.length) := by
    rw [Nat.min_def]; split
    · rw [List.take_of_length_le (Nat.le_refl _), List.take_of_length_le (by omega)]
    · rfl
  generalize hjj : min ds.length (64 - bs.length) = j at *
  have hj1 : j ≤ ds.length := by omega
  have hj2 : bs.length + j ≤ 64 := by omega
  refine Ctr.of_body Try.func40 rfl Try.ntmps40 rfl ?_
  refine CG.seq ?_
  refine CG.region ?_
  refine OG.yield (Yield.assign rfl) rfl ?_
  refine OG.nil ?_
  refine QG.then ?_
  refine CG.seq ?_
  refine CG.region ?_
  refine OG.yield (Yield.move rfl) rfl ?_
  refine OG.yield (Yield.len_slice Try.underlying30 rfl rfl) rfl ?_
  refine OG.yield (Yield.move rfl) rfl ?_
  refine OG.yield (Yield.nilCheck rfl) rfl ?_
  refine OG.yield (Yield.fieldAddr fa63_2 rfl) rfl ?_
  refine OG.yield (Yield.load ti3 rfl (Cel.of_blk (by repeat (first | exact Ext.here | apply Ext.there)) h.cn)) rfl ?_
  refine OG.yield (Yield.sub rfl rfl (w64 (by omega) (by omega))) rfl ?_
  refine OG.yield (Yield.min2 rfl rfl) rfl ?_
  refine OG.yield (Yield.assign rfl) rfl ?_
  refine OG.nil ?_
  rw [hj]
  refine QG.then ?_
  refine CG.seq ?_
  refine CG.seq ?_
  refine CG.region ?_
  refine OG.yield (Yield.move rfl) rfl ?_
  refine OG.yield (Yield.move rfl) rfl ?_
  refine OG.yield (Yield.slice_hi Try.underlying30 ti5 rfl (Bound.some rfl) (by omega) (by omega)) rfl ?_
  refine OG.yield (Yield.len_slice Try.underlying30 rfl rfl) rfl ?_
  refine OG.yield (Yield.move rfl) rfl ?_
  refine OG.nil ?_
  refine QG.then ?_
  refine CG.block ?_
  refine CG.loop (fun i : Nat × List Value => i.1 ≤ j ∧ But cs i.2 o 66 ∧ ∃ arr first, RingAt i.2 o arr first (bs ++ ds.take i.1)) (fun i => [(0, .pointer (some ⟨g, o, none⟩)), (5, .int .i64 j), (18, .slice a2 j c2), (19, .int .i64 j), (20, .int .i64 i.1)])
    (fun i => blk g i.2 t :: Fr) (fun i => j - i.1) (0, cs) ⟨Nat.zero_le _, But.refl _ _ _, arr, first, by simpa using h⟩ ?_ (Imp.refl _) ?_
  · exact Env.sub_cons rfl (Env.sub_cons rfl (Env.sub_cons rfl (Env.sub_cons rfl (Env.sub_cons rfl (Env.sub_nil _)))))
  clear h hlt hlen
  clear arr first
  rintro ⟨i, cs1⟩ ⟨hi, hbut, arr, first, h⟩
  dsimp only at hi hbut h
  have hlt := h.lt
  have hlen := h.len
  have hroom1 := h.room
  have hll : (bs ++ ds.take i).length = bs.length + i := by simp; omega
  have hcn : cs1[o + 65]? = some (.int .i64 ((bs.length + i : Nat) : Int)) := by rw [← hll]; exact h.cn
  refine CG.seq ?_
  refine CG.region ?_
  refine OG.yield (by first | exact Yield.as (Yield.lss rfl rfl) (bT (by omega)) | exact Yield.as (Yield.lss rfl rfl) (bF (by omega)) | exact Yield.lss rfl rfl) rfl ?_
  refine OG.nil ?_
  refine QG.then ?_
  refine CG.seq ?_
  refine CG.cond rfl (fun hc => ?_) (fun hc => ?_)
  · try replace hc := of_decide_eq_true hc
    have hi' : i < j := by omega
    have hget : ds[i]? = some ds[i] := by simp
    refine CG.pure (fun w hw => SlR.shape (hd.imp Imp.drop) (by intro q; have := congrArg List.length q; simp [bytesV] at this; subst this; simp at hj1; omega) w hw) ?_
    rintro ⟨b, o2, rfl⟩
    refine CG.skip ?_
    refine QG.then ?_
    refine CG.seq ?_
    refine CG.block ?_
    refine CG.seq ?_
    refine CG.region ?_
    refine OG.yield (Yield.index_slice Try.underlying30 ti5 rfl rfl (by omega) (by omega)) rfl ?_
    refine OG.yield (Yield.load ti5 rfl (v := byteV ds[i]) (by simpa using (SlR.imp hd Imp.drop).cel (bytesV_get hget))) rfl ?_
    refine OG.yield (Yield.assign rfl) rfl ?_
    refine OG.nil ?_
    refine QG.then ?_
    refine CG.seq ?_
    refine CG.draw (.look 0 1 (.look 1 1 (.look 2 1 (.look 3 1 (.look 4 1 (.look 5 1 (.look 6 1 (.look 7 1 (.look 8 1 (.look 9 1 (.look 10 1 (.look 11 1 (.look 12 1 (.look 13 1 (.look 14 1 (.eff1 15 false (.done))))))))))))))))) [15] [] ([]) ([]) mixed (by kernel_rfl) (Imp.none _) (Imp.none _) ?_
    refine DG.look rfl rfl (Yield.move rfl) rfl ?_
    refine DG.look rfl rfl (Yield.move rfl) rfl ?_
    refine DG.look rfl rfl (Yield.nilCheck rfl) rfl ?_
    refine DG.look rfl rfl (Yield.fieldAddr fa63_1 rfl) rfl ?_
    refine DG.look rfl rfl (Yield.load ti3 rfl (Cel.of_blk (by repeat (first | exact Ext.here | apply Ext.there)) h.cfirst)) rfl ?_
    refine DG.look rfl rfl (Yield.move rfl) rfl ?_
    refine DG.look rfl rfl (Yield.nilCheck rfl) rfl ?_
    refine DG.look rfl rfl (Yield.fieldAddr fa63_2 rfl) rfl ?_
    refine DG.look rfl rfl (Yield.load ti3 rfl (Cel.of_blk (by repeat (first | exact Ext.here | apply Ext.there)) hcn)) rfl ?_
    refine DG.look rfl rfl (Yield.add rfl rfl (w64 (by omega) (by omega))) rfl ?_
    refine DG.look rfl rfl (Yield.rem rfl rfl (by omega) (tmod_pos (by omega) (by omega))) rfl ?_
    refine DG.look rfl rfl (Yield.move rfl) rfl ?_
    refine DG.look rfl rfl (Yield.nilCheck rfl) rfl ?_
    refine DG.look rfl rfl (Yield.fieldAddr fa63_0 rfl) rfl ?_
    refine DG.look rfl rfl (Yield.index_array Try.underlying61 ti5 rfl rfl (by omega) (by omega)) rfl ?_
    refine DG.eff1 ?_
    refine Chg.eff rfl rfl (Eff.store1 ti5 rfl rfl (by repeat (first | exact Foc.here | apply Foc.there)) rfl (show o + 0 + (((first : Int) + ((bs.length + i : Nat) : Int)) % 64).toNat * 1 < cs1.length by omega)) rfl (fun _ => (by repeat (first | exact Imp.refl _ | exact Imp.none _ | apply Imp.pull (by repeat (first | exact Ext.here | apply Ext.there)) | apply Imp.trans Imp.drop))) (fun _ => Imp.refl _) (fun _ => (by repeat (first | exact Imp.refl _ | exact Imp.none _ | apply Imp.pull (by repeat (first | exact Ext.here | apply Ext.there)) | apply Imp.trans Imp.drop))) ?_
    rintro ⟨⟩ -
    refine DG.done ?_
    have e0 : o + 0 + (((first : Int) + ((bs.length + i : Nat) : Int)) % 64).toNat * 1 = o + (first + (bs ++ ds.take i).length) % 64 := by rw [hll]; omega
    rw [e0]
    refine QG.then ?_
    refine CG.region ?_
    refine OG.yield (Yield.move rfl) rfl ?_
    refine OG.yield (Yield.nilCheck rfl) rfl ?_
    refine OG.yield (Yield.fieldAddr fa63_2 rfl) rfl ?_
    refine OG.yield (Yield.load ti3 rfl (Cel.of_blk (by repeat (first | exact Ext.here | apply Ext.there)) (by rw [List.getElem?_set_ne (by omega)]; exact hcn))) rfl ?_
    refine OG.yield (Yield.add rfl rfl (w64 (by omega) (by omega))) rfl ?_
    refine OG.yield (Yield.nilCheck rfl) rfl ?_
    refine OG.yield (Yield.fieldAddr fa63_2 rfl) rfl ?_
    refine OG.eff (Eff.store1 ti3 rfl rfl (by repeat (first | exact Foc.here | apply Foc.there)) rfl (show o + 65 < (cs1.set _ _).length by simp; omega)) rfl ?_
    rintro ⟨⟩ -
    refine OG.nil ?_
    refine QG.block_normal ?_
    refine QG.then ?_
    refine CG.region ?_
    refine OG.yield (Yield.add rfl rfl (w64 (by omega) (by omega))) rfl ?_
    refine OG.yield (Yield.move rfl) rfl ?_
    refine OG.nil ?_
    have e1 : (((bs.length + i : Nat) : Int) + 1) = (((bs ++ ds.take i).length + 1 : Nat) : Int) := by rw [hll]; omega
    rw [e1]
    have hput := h.put ds[i] (by omega)
    rw [List.append_assoc, ← List.take_succ_eq_append_getElem (by omega)] at hput
    refine QG.next (i + 1, (cs1.set _ _).set _ _) ⟨show i + 1 ≤ j by omega, hbut.trans ((But.set _ (by omega) (by omega)).trans (But.set _ (by omega) (by omega))), _, _, hput⟩ (show j - (i + 1) < j - i by omega) ?_ (Imp.refl _)
    · exact Env.sub_cons rfl (Env.sub_cons rfl (Env.sub_cons rfl (Env.sub_cons rfl (Env.sub_cons rfl (Env.sub_nil _)))))
  · try replace hc := of_decide_eq_false hc
    refine CG.exit ?_
    refine QG.pass_exit ?_
    refine QG.pass_exit ?_
    refine QG.block_exit ?_
    refine QG.then ?_
    refine CG.seq ?_
    refine CG.region ?_
    refine OG.yield (Yield.move rfl) rfl ?_
    refine OG.yield (Yield.assign rfl) rfl ?_
    refine OG.nil ?_
    refine QG.then ?_
    refine CG.ret ?_
    have hij : i = j := by omega
    subst hij
    refine QG.ret1 rfl rfl cs1 ⟨hbut, arr, first, ?_⟩ rfl (Imp.refl _)
    rw [← htk]; exact h
end
end Go.Proofs.Ytmhcdeklfecokaa.Vc
