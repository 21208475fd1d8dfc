/- BlockOrder: a disk does what it is asked in the order in which it was asked: the law returns true and changes nothing that was there. -/
import Derived.Test.YtoejnhfcegchhaaBlaw
namespace Go.Proofs.Ytoejnhfcegchhaa.blockOrder
open Go Go.Sl Go.RowKit Go.Proofs Go.Proofs.Ytoejnhfcegchhaa.T Go.Proofs.Ytoejnhfcegchhaa.Ms Go.Proofs.Ytoejnhfcegchhaa.Vd Go.Proofs.Ytoejnhfcegchhaa.Bk
set_option linter.unusedVariables false
set_option linter.unusedSimpArgs false
set_option maxRecDepth 100000
/-- All that waits, done: what is told, and the bytes behind it. -/
def allL : B → List Jb → List Rq × B
  | bs, [] => ([], bs)
  | bs, j :: q => (outJ bs j :: (allL (doJ bs j) q).1, (allL (doJ bs j) q).2)
theorem allL_split (now : Int) : ∀ (q : List Jb) (bs : B), allL bs q = ((pollL now bs q).1 ++ (allL (pollL now bs q).2.1 (pollL now bs q).2.2).1, (allL (pollL now bs q).2.1 (pollL now bs q).2.2).2)
  | [], bs => rfl
  | j :: q, bs => by
    rcases (show now < j.done ∨ j.done ≤ now by omega) with h | h
    · rw [pollL_no h]; rfl
    · rw [pollL_yes h]
      have := allL_split now q (doJ bs j)
      show (outJ bs j :: (allL (doJ bs j) q).1, (allL (doJ bs j) q).2) = _
      rw [this]; rfl
theorem allL_app (j : Jb) : ∀ (q : List Jb) (bs : B), allL bs (q ++ [j]) = ((allL bs q).1 ++ [outJ (allL bs q).2 j], doJ (allL bs q).2 j)
  | [], bs => rfl
  | i :: q, bs => by
    have := allL_app j q (doJ bs i)
    show (outJ bs i :: (allL (doJ bs i) (q ++ [j])).1, (allL (doJ bs i) (q ++ [j])).2) = _
    rw [this]; rfl
theorem allL_len {s : Bs} : ∀ (q : List Jb) (bs : B), (s.at bs q).OK → (allL bs q).2.length = bs.length
  | [], bs, h => rfl
  | j :: q, bs, h => by
    show (allL (doJ bs j) q).2.length = _
    rw [allL_len q _ (doJ_ok h), doJ_len h]
theorem allL_all {now : Int} {q : List Jb} {bs : B} (h : ∀ j ∈ q, j.done ≤ now) : (pollL now bs q).1 = (allL bs q).1 := by
  have h1 := allL_split now q bs
  rw [(pollL_all q bs h).1] at h1
  rw [h1]; show _ = _ ++ []; rw [List.append_nil]
theorem getS_get (bs : B) (n t : Nat) : (getS bs n)[t]? = if t < 64 then bs[64 * n + t]? else none := by
  unfold getS; rw [List.getElem?_take, List.getElem?_drop]
theorem setS_lo {bs d : B} {n p : Nat} (h : p < 64 * n) (hb : 64 * n + 64 ≤ bs.length) : (setS bs n d)[p]? = bs[p]? := by
  unfold setS; rw [List.append_assoc, List.getElem?_append_left (by rw [List.length_take]; omega), List.getElem?_take, if_pos h]
theorem setS_hi {bs d : B} {n p : Nat} (h : 64 * n + 64 ≤ p) (hd : d.length = 64) (hb : 64 * n + 64 ≤ bs.length) : (setS bs n d)[p]? = bs[p]? := by
  have e : (bs.take (64 * n) ++ d).length = 64 * n + 64 := by rw [List.length_append, List.length_take, hd]; omega
  unfold setS; rw [List.getElem?_append_right (by rw [e]; exact h), e, List.getElem?_drop, hd]; congr 1; omega
theorem get_set_same {bs d : B} {n : Nat} (hd : d.length = 64) (hb : 64 * n + 64 ≤ bs.length) : getS (setS bs n d) n = d := by
  unfold getS setS
  rw [List.append_assoc, List.drop_left' (by rw [List.length_take]; omega), List.take_left' hd]
theorem get_set_ne {bs d : B} {n m : Nat} (hd : d.length = 64) (hb : 64 * n + 64 ≤ bs.length) (h : m ≠ n) : getS (setS bs n d) m = getS bs m := by
  apply List.ext_getElem?
  intro t
  rw [getS_get, getS_get]
  by_cases ht : t < 64
  · rw [if_pos ht, if_pos ht]
    rcases (show m < n ∨ n < m by omega) with q | q
    · exact setS_lo (by omega) hb
    · exact setS_hi (by omega) hd hb
  · rw [if_neg ht, if_neg ht]
/-- a sector of noughts with a last byte -/
def wz (x : UInt8) : B := (List.replicate 64 0).set 63 x
theorem wz_len (x : UInt8) : (wz x).length = 64 := by simp [wz]
theorem u8_of {n : Nat} (h : n < 256) : IntKind.u8.wrap (n : Int) = ((UInt8.ofNat n).toNat : Int) := by
  rw [show (UInt8.ofNat n).toNat = n by simp; omega]
  rw [IntKind.wrap_u8]; omega
/-- How far the disk has been told. -/
structure Av (s : Bs) (i : Nat) : Prop where
  taken : s.taken ≤ i
  free : s.free ≤ 60000 + 1000 * i
  done : ∀ j ∈ s.q, j.done ≤ 60000 + 1000 * i
  dl : ∀ x ∈ s.delays, 0 ≤ x ∧ x ≤ 999
theorem Av.mono {s : Bs} {i : Nat} (h : Av s i) : Av s (i + 1) :=
  ⟨by have := h.taken; omega, by have := h.free; omega, fun j hj => by have := h.done j hj; omega, h.dl⟩
theorem Av.poll {s : Bs} {i : Nat} (h : Av s i) (now : Int) : Av (pollR s now) i :=
  ⟨h.taken, h.free, fun j hj => h.done j ((pollL_sub s.q s.bytes (now := now)).1 j hj), h.dl⟩
theorem Av.sub {s : Bs} {i : Nat} (h : Av s i) (ho : s.OK) {r : Rq} {now : Int} (hn : now ≤ 60000) : Av (subBR s r now) (i + 1) := by
  have hf := h.free
  have ht := h.taken
  have hdl := delayR_to h.dl ho.taken (by decide)
  have hfr : freeR s now ≤ 60000 + 1000 * ((i + 1 : Nat) : Int) := by unfold freeR; omega
  refine ⟨?_, hfr, fun j hj => ?_, h.dl⟩
  · show s.taken + 1 ≤ ((i + 1 : Nat) : Int); omega
  · rcases List.mem_append.1 hj with hj | hj
    · have := h.done j hj; omega
    · simp only [List.mem_cons, List.not_mem_nil, or_false] at hj; subst hj; exact hfr
theorem full_of {s : Bs} {w : Bool} {sector now : Int} {len : Nat} (he : subBE s w sector len now ≠ 0) (h1 : 0 ≤ now ∧ now ≤ 281474976710656) (h2 : 0 ≤ sector ∧ sector < s.n) (h3 : w = true → len = 64) : 32 ≤ s.q.length := by
  unfold subBE at he
  rw [if_neg (by omega), if_neg (fun q => q.2 (h3 q.1))] at he
  split at he
  · assumption
  · exact absurd rfl he
def gd (l : List Int) (i : Nat) : List Int := (l.take i).map (md 1000)
theorem gd_len {l : List Int} {i : Nat} (h : i ≤ l.length) : (gd l i).length = i := by unfold gd; simp; omega
theorem gd_range {l : List Int} {i : Nat} : ∀ x ∈ gd l i, 0 ≤ x ∧ x ≤ 999 := fun x hx => by
  obtain ⟨y, _, rfl⟩ := List.mem_map.1 hx
  have := md_range (k := 1000) (by decide) y
  omega
theorem gd_step {l : List Int} {i : Nat} {x : Int} (h : l[i]? = some x) : gd l (i + 1) = gd l i ++ [md 1000 x] := by
  obtain ⟨hlt, rfl⟩ := List.getElem?_eq_some_iff.1 h
  unfold gd; rw [List.take_succ_eq_append_getElem hlt, List.map_append]; rfl
structure Lp where
  i : Nat
  a : Option Addr
  c : Nat
structure Ost where
  i : Nat
  now : Int
  s : Bs
  C : B
  g : List CR
  ga : Option Addr
  gc : Nat
  w : List CR
  wa : Option Addr
  wc : Nat
structure Ost.OK (n : Nat) (x : Ost) : Prop where
  le : x.i ≤ n
  now : 0 ≤ x.now ∧ x.now ≤ 300 * x.i
  av : Av x.s x.i
  len : x.s.bytes.length = 256
  cl : x.C.length = 4
  eq : x.g.map CR.abs ++ (allL x.s.bytes x.s.q).1 = x.w.map CR.abs
  cel : ∀ k, k < 4 → getS (allL x.s.bytes x.s.q).2 k = wz (x.C.getD k 0)
  wl : x.w.length ≤ x.i
theorem cel0 : ∀ k, k < 4 → getS (newB 4 []) k = wz (([0, 0, 0, 0] : B).getD k 0) := by decide
theorem pollL_len {s : Bs} (now : Int) : ∀ (q : List Jb) (bs : B), (s.at bs q).OK → (pollL now bs q).2.1.length = bs.length
  | [], bs, h => rfl
  | j :: q, bs, h => by
    rcases (show now < j.done ∨ j.done ≤ now by omega) with hh | hh
    · rw [pollL_no hh]
    · rw [pollL_yes hh]
      show (pollL now (doJ bs j) q).2.1.length = _
      rw [pollL_len now q _ (doJ_ok h), doJ_len h]
theorem poll_len {s : Bs} (h : s.OK) (now : Int) : (pollR s now).bytes.length = s.bytes.length := pollL_len (s := s) now s.q s.bytes h
theorem poll_n {s : Bs} (h : s.OK) (now : Int) : (pollR s now).n = s.n := by
  show (pollR s now).bytes.length / 64 = s.bytes.length / 64; rw [poll_len h]
theorem Ost.OK.mono {n : Nat} {x : Ost} (h : x.OK n) (hi : x.i < n) : Ost.OK n { x with i := x.i + 1 } :=
  ⟨hi, ⟨h.now.1, by have := h.now.2; show x.now ≤ 300 * ((x.i + 1 : Nat) : Int); omega⟩, h.av.mono, h.len, h.cl, h.eq, h.cel, Nat.le_succ_of_le h.wl⟩
theorem poll_all {s : Bs} (now : Int) : (allL s.bytes s.q).1 = (pollL now s.bytes s.q).1 ++ (allL (pollR s now).bytes (pollR s now).q).1 ∧ (allL s.bytes s.q).2 = (allL (pollR s now).bytes (pollR s now).q).2 := by
  have := allL_split now s.q s.bytes
  exact ⟨by rw [this]; rfl, by rw [this]; rfl⟩
/-- a round whose request was refused -/
theorem Ost.OK.poll {n : Nat} {x : Ost} (h : x.OK n) (ho : x.s.OK) (hi : x.i < n) {st : Int} (h1 : 0 ≤ st ∧ st ≤ 300) {l : List CR} (hl : l.map CR.abs = (pollL (x.now + st) x.s.bytes x.s.q).1) (a : Option Addr) (c : Nat) : Ost.OK n { x with i := x.i + 1, now := x.now + st, s := pollR x.s (x.now + st), g := x.g ++ l, ga := a, gc := c } := by
  obtain ⟨e1, e2⟩ := poll_all (s := x.s) (x.now + st)
  refine ⟨hi, ⟨by have := h.now.1; show 0 ≤ x.now + st; omega, by have := h.now.2; show x.now + st ≤ 300 * ((x.i + 1 : Nat) : Int); omega⟩, (h.av.poll _).mono, (poll_len ho _).trans h.len, h.cl, ?_, ?_, Nat.le_succ_of_le h.wl⟩
  · show (x.g ++ l).map CR.abs ++ _ = _
    rw [List.map_append, hl, List.append_assoc, ← h.eq, e1]
  · intro k hk
    show getS (allL (pollR x.s (x.now + st)).bytes (pollR x.s (x.now + st)).q).2 k = _
    rw [← e2]; exact h.cel k hk
/-- a round whose request was taken -/
theorem Ost.OK.take {n : Nat} {x : Ost} (h : x.OK n) (ho : x.s.OK) (hn : n ≤ 200) (hi : x.i < n) {st : Int} (h1 : 0 ≤ st ∧ st ≤ 300) {l : List CR} (hl : l.map CR.abs = (pollL (x.now + st) x.s.bytes x.s.q).1) (hpo : (pollR x.s (x.now + st)).OK) {k : Nat} (hk4 : k < 4) {w : Bool} {v : UInt8} {m m2 : Msg} (hm : m.b = if w then wz v else []) (hm2 : m2.b = if w then wz v else wz (x.C.getD k 0)) (a a' : Option Addr) (c c' : Nat) (p t : Int) :
    Ost.OK n { x with i := x.i + 1, now := x.now + st, s := subBR (pollR x.s (x.now + st)) (CR.abs ⟨p, t, w, k, m⟩) (x.now + st), C := if w then x.C.set k v else x.C, g := x.g ++ l, ga := a, gc := c, w := x.w ++ [⟨p, t, w, k, m2⟩], wa := a', wc := c' } := by
  obtain ⟨e1, e2⟩ := poll_all (s := x.s) (x.now + st)
  have hl256 := allL_len (s := pollR x.s (x.now + st)) (pollR x.s (x.now + st)).q (pollR x.s (x.now + st)).bytes hpo
  rw [poll_len ho, h.len, ← e2] at hl256
  have hap := allL_app ⟨CR.abs ⟨p, t, w, k, m⟩, freeR (pollR x.s (x.now + st)) (x.now + st)⟩ (pollR x.s (x.now + st)).q (pollR x.s (x.now + st)).bytes
  refine ⟨hi, ⟨by have := h.now.1; show 0 ≤ x.now + st; omega, by have := h.now.2; show x.now + st ≤ 300 * ((x.i + 1 : Nat) : Int); omega⟩, (h.av.poll _).sub hpo (by have := h.now.2; omega), (poll_len ho _).trans h.len, ?_, ?_, ?_, ?_⟩
  · show (if w then x.C.set k v else x.C).length = 4
    split
    · rw [List.length_set]; exact h.cl
    · exact h.cl
  · show (x.g ++ l).map CR.abs ++ (allL (pollR x.s (x.now + st)).bytes ((pollR x.s (x.now + st)).q ++ [⟨CR.abs ⟨p, t, w, k, m⟩, freeR (pollR x.s (x.now + st)) (x.now + st)⟩])).1 = (x.w ++ [(⟨p, t, w, k, m2⟩ : CR)]).map CR.abs
    rw [hap, List.map_append, List.map_append, hl, ← h.eq, e1, List.append_assoc, List.append_assoc, List.append_assoc, ← e2]
    congr 3
    cases w with
    | true => simp [outJ, CR.abs, hm, hm2]
    | false =>
      have e3 : m2.b = wz (x.C.getD k 0) := hm2
      simp [outJ, CR.abs, e3, h.cel k hk4]
  · intro q hq
    show getS (allL (pollR x.s (x.now + st)).bytes ((pollR x.s (x.now + st)).q ++ [⟨CR.abs ⟨p, t, w, k, m⟩, freeR (pollR x.s (x.now + st)) (x.now + st)⟩])).2 q = wz ((if w then x.C.set k v else x.C).getD q 0)
    rw [hap, ← e2]
    cases w with
    | true =>
      simp only [if_true] at hm
      simp only [doJ, CR.abs, if_true, Int.toNat_natCast, hm]
      by_cases e : q = k
      · subst e
        rw [get_set_same (wz_len v) (by omega)]
        rw [List.getD_eq_getElem?_getD, List.getElem?_set_self (by rw [h.cl]; exact hq)]; rfl
      · rw [get_set_ne (wz_len v) (by omega) e, h.cel q hq]
        simp only [List.getD_eq_getElem?_getD, List.getElem?_set_ne (fun q => e q.symm)]
    | false => simp only [doJ, CR.abs]; exact h.cel q hq
  · show (x.w ++ [_]).length ≤ x.i + 1
    rw [List.length_append]; have := h.wl; simp only [List.length_cons, List.length_nil]; omega
abbrev OG (b b11 : Nat) (x : Ost) : List HProp := [Bl b x.s, blk b11 (bytesV x.C) 54, oreqs x.ga x.gc x.g, pool (x.g.map CR.m), oreqs x.wa x.wc x.w, pool (x.w.map CR.m)]
set_option maxHeartbeats 8000000 in
theorem walk (W : World) {a0 a1 : Option Addr} {c0 c1 : Nat} {delays : List Int} {ops : List BReq} {step : Int} (hqs0 : SlAt W 1 a0 delays.length ((delays.map (intC .i64)).flatten)) (hops : SlAt W 5 a1 ops.length ((ops.map BReq.cells).flatten)) (hok : ∀ o ∈ ops, o.OK W) :
    Ctr Try.prog W 5 [.slice a0 delays.length c0, .slice a1 ops.length c1, .int .i64 step] [old W] (fun _ : Unit => True) (fun _ => .bool true) (fun _ => [old W]) := by
  have hst := md_range (k := 300) (by decide) step
  have hwst := wrap_u64_range step
  refine Ctr.of_body Try.func5 rfl Try.ntmps5 rfl ?_
  refine CG.seq ?_
  refine CG.region ?_
  refine OG.yield (Yield.assign rfl) rfl ?_
  refine OG.nil ?_
  refine QG.then ?_
  refine CG.seq ?_
  refine CG.seq ?_
  refine CG.region ?_
  refine OG.callo call17 rfl (Imp.refl _) (works_spec W _) rfl ?_
  rintro ⟨⟩ -
  refine OG.yield (Yield.not rfl) rfl ?_
  refine OG.nil ?_
  refine QG.then ?_
  refine CG.cond_f rfl ?_
  refine CG.skip ?_
  refine QG.then ?_
  refine CG.seq ?_
  refine CG.seq ?_
  rcases (show 200 < ops.length ∨ (ops.length ≤ 200 ∧ 300 < delays.length) ∨ (ops.length ≤ 200 ∧ delays.length ≤ 300) by omega) with hp | hp | hp
  · skip
    refine CG.region ?_
    refine OG.yield (Yield.move rfl) rfl ?_
    refine OG.yield (Yield.len_slice Try.underlying32 rfl rfl) rfl ?_
    refine OG.yield (by first | exact Yield.as (Yield.gtr rfl rfl) (bT (by omega)) | exact Yield.as (Yield.gtr rfl rfl) (bF (by omega)) | exact Yield.gtr rfl rfl) rfl ?_
    refine OG.yield (Yield.move rfl) rfl ?_
    refine OG.guard_no rfl rfl rfl rfl rfl (by decide) (by decide) ?_
    refine OG.guard_no rfl rfl rfl rfl rfl (by decide) (by decide) ?_
    refine OG.guard_no rfl rfl rfl rfl rfl (by decide) (by decide) ?_
    refine OG.yield (by first | exact Yield.pick_t rfl rfl | exact Yield.pick_f rfl rfl | exact Yield.pick rfl (fun _ => rfl) (fun _ => rfl)) rfl ?_
    refine OG.nil ?_
    refine QG.then ?_
    refine CG.cond_t rfl ?_
    refine CG.seq ?_
    refine CG.region ?_
    refine OG.yield (Yield.assign rfl) rfl ?_
    refine OG.nil ?_
    refine QG.then ?_
    refine CG.ret ?_
    refine QG.pass_ret ?_
    exact QG.ret1 rfl rfl () trivial rfl (by repeat (first | exact Imp.refl _ | exact Imp.none _ | apply Imp.pull (by repeat (first | exact Ext.here | apply Ext.there)) | apply Imp.trans Imp.drop))
  · skip
    refine CG.region ?_
    refine OG.yield (Yield.move rfl) rfl ?_
    refine OG.yield (Yield.len_slice Try.underlying32 rfl rfl) rfl ?_
    refine OG.yield (by first | exact Yield.as (Yield.gtr rfl rfl) (bT (by omega)) | exact Yield.as (Yield.gtr rfl rfl) (bF (by omega)) | exact Yield.gtr rfl rfl) rfl ?_
    refine OG.yield (Yield.move rfl) rfl ?_
    refine OG.guard_yes rfl rfl rfl (by decide) ?_
    refine OG.yield (Yield.move rfl) rfl ?_
    refine OG.guard_yes rfl rfl rfl (by decide) ?_
    refine OG.yield (Yield.len_slice Try.underlying23 rfl rfl) rfl ?_
    refine OG.guard_yes rfl rfl rfl (by decide) ?_
    refine OG.yield (by first | exact Yield.as (Yield.gtr rfl rfl) (bT (by omega)) | exact Yield.as (Yield.gtr rfl rfl) (bF (by omega)) | exact Yield.gtr rfl rfl) rfl ?_
    refine OG.yield (by first | exact Yield.pick_t rfl rfl | exact Yield.pick_f rfl rfl | exact Yield.pick rfl (fun _ => rfl) (fun _ => rfl)) rfl ?_
    refine OG.nil ?_
    refine QG.then ?_
    refine CG.cond_t rfl ?_
    refine CG.seq ?_
    refine CG.region ?_
    refine OG.yield (Yield.assign rfl) rfl ?_
    refine OG.nil ?_
    refine QG.then ?_
    refine CG.ret ?_
    refine QG.pass_ret ?_
    exact QG.ret1 rfl rfl () trivial rfl (by repeat (first | exact Imp.refl _ | exact Imp.none _ | apply Imp.pull (by repeat (first | exact Ext.here | apply Ext.there)) | apply Imp.trans Imp.drop))
  · skip
    refine CG.region ?_
    refine OG.yield (Yield.move rfl) rfl ?_
    refine OG.yield (Yield.len_slice Try.underlying32 rfl rfl) rfl ?_
    refine OG.yield (by first | exact Yield.as (Yield.gtr rfl rfl) (bT (by omega)) | exact Yield.as (Yield.gtr rfl rfl) (bF (by omega)) | exact Yield.gtr rfl rfl) rfl ?_
    refine OG.yield (Yield.move rfl) rfl ?_
    refine OG.guard_yes rfl rfl rfl (by decide) ?_
    refine OG.yield (Yield.move rfl) rfl ?_
    refine OG.guard_yes rfl rfl rfl (by decide) ?_
    refine OG.yield (Yield.len_slice Try.underlying23 rfl rfl) rfl ?_
    refine OG.guard_yes rfl rfl rfl (by decide) ?_
    refine OG.yield (by first | exact Yield.as (Yield.gtr rfl rfl) (bT (by omega)) | exact Yield.as (Yield.gtr rfl rfl) (bF (by omega)) | exact Yield.gtr rfl rfl) rfl ?_
    refine OG.yield (by first | exact Yield.pick_t rfl rfl | exact Yield.pick_f rfl rfl | exact Yield.pick rfl (fun _ => rfl) (fun _ => rfl)) rfl ?_
    refine OG.nil ?_
    refine QG.then ?_
    refine CG.cond_f rfl ?_
    refine CG.skip ?_
    refine QG.then ?_
    refine CG.seq ?_
    refine CG.region ?_
    refine OG.yield (Yield.assign rfl) rfl ?_
    refine OG.nil ?_
    refine QG.then ?_
    refine CG.seq ?_
    refine CG.seq ?_
    refine CG.region ?_
    refine OG.yield (Yield.assign rfl) rfl ?_
    refine OG.nil ?_
    refine QG.then ?_
    refine CG.block ?_
    refine CG.loop (fun x : Lp => x.i ≤ delays.length) (fun x => [(1, .slice a1 ops.length c1), (2, .int .i64 step), (0, .slice a0 delays.length c0), (7, .slice x.a (gd delays x.i).length x.c), (8, .int .i64 x.i)]) (fun x => [onum 3 .i64 x.a x.c (gd delays x.i), old W]) (fun x => delays.length - x.i) ⟨0, none, 0⟩ (Nat.zero_le _) (by repeat (first | exact Env.sub_nil _ | refine Env.sub_cons rfl ?_)) (osl_nil (E := 3) (sz := 1)) ?_
    rintro ⟨i, a7, c7⟩ hi
    dsimp only at hi ⊢
    have hgl := gd_len hi
    refine CG.seq ?_
    refine CG.seq ?_
    refine CG.region ?_
    refine OG.yield (Yield.move rfl) rfl ?_
    refine OG.yield (Yield.move rfl) rfl ?_
    refine OG.yield (Yield.len_slice Try.underlying23 rfl rfl) rfl ?_
    refine OG.yield (by first | exact Yield.as (Yield.lss rfl rfl) (bT (by omega)) | exact Yield.as (Yield.lss rfl rfl) (bF (by omega)) | exact Yield.lss rfl rfl) rfl ?_
    refine OG.nil ?_
    refine QG.then ?_
    refine CG.cond rfl (fun hc => ?_) (fun hc => ?_)
    · try replace hc := of_decide_eq_true hc
      have h1 : i < delays.length := by omega
      have hget : delays[i]? = some delays[i] := by simp [h1]
      generalize delays[i] = x at hget
      have hmd := md_range (k := 1000) (by decide) x
      have hwx := wrap_u64_range x
      refine CG.pure (fun w hw => (hqs0.old (G := [onum 3 .i64 a7 c7 (gd delays i), old W]) (by repeat (first | exact Ext.here | apply Ext.there))).elem_shape (f := intC .i64) (fun _ => rfl) (by decide) h1 w hw) ?_
      rintro ⟨b0, o0, rfl⟩
      refine CG.skip ?_
      refine QG.then ?_
      refine CG.seq ?_
      refine CG.block ?_
      refine CG.region ?_
      refine OG.yield (Yield.move rfl) rfl ?_
      refine OG.yield (Yield.move rfl) rfl ?_
      refine OG.yield (Yield.move rfl) rfl ?_
      refine OG.yield (Yield.index_slice Try.underlying23 ti3 rfl rfl (by omega) (by omega)) rfl ?_
      refine OG.yield (Yield.load (v := .int .i64 x) ti3 rfl (((hqs0.old (by repeat (first | exact Ext.here | apply Ext.there))).elem (f := intC .i64) (fun _ => rfl) hget) 0 _ rfl)) rfl ?_
      refine OG.yield (Yield.conv Try.underlying25 rfl rfl rfl) rfl ?_
      refine OG.yield (Yield.rem (c := md 1000 x) rfl rfl (by decide) (tmod_pos (by omega) (by omega))) rfl ?_
      refine OG.yield (Yield.conv (c := md 1000 x) Try.underlying3 rfl rfl (w64 (by omega) (by omega))) rfl ?_
      refine OG.effd (Eff.lit1 Try.underlying23 ti3 rfl rfl rfl) rfl ?_
      rintro b41 -
      refine OG.effd (Eff.append (k := 1) (ys := intsV .i64 [md 1000 x]) rfl rfl rfl Try.underlying23 Try.underlying23 ti3 rfl (by decide) (by repeat (first | exact Foc.here | apply Foc.there)) (SlR.of_osl (a := some ⟨b41, 0, none⟩) (by repeat (first | exact Ext.here | apply Ext.there))) (intsV_ones _ _) (by omega)) rfl ?_
      rintro ⟨a42, c42⟩ -
      refine OG.yield (Yield.assign rfl) rfl ?_
      refine OG.nil ?_
      refine QG.block_normal ?_
      refine QG.then ?_
      refine CG.region ?_
      refine OG.yield (Yield.move rfl) rfl ?_
      refine OG.yield (Yield.add rfl rfl (w64 (by omega) (by omega))) rfl ?_
      refine OG.yield (Yield.assign rfl) rfl ?_
      refine OG.nil ?_
      refine QG.next ⟨i + 1, a42, c42⟩ (show i + 1 ≤ delays.length by omega) (show delays.length - (i + 1) < delays.length - i by omega) (by dsimp only; rw [gd_step hget, List.length_append]; exact (by repeat (first | exact Env.sub_nil _ | refine Env.sub_cons rfl ?_))) ?_
      dsimp only
      rw [gd_step hget, onum_app]
      exact (by repeat (first | exact Imp.refl _ | exact Imp.none _ | apply Imp.pull (by repeat (first | exact Ext.here | apply Ext.there)) | apply Imp.trans Imp.drop))
    · try replace hc := of_decide_eq_false hc
      refine CG.exit ?_
      refine QG.pass_exit ?_
      refine QG.pass_exit ?_
      refine QG.block_exit ?_
      refine QG.then ?_
      refine CG.seq ?_
      refine CG.region ?_
      refine OG.yield (Yield.move rfl) rfl ?_
      refine OG.callo call18 rfl (Imp.refl _) (bnew_ok W _ (a := none) (c := 0) (da := a7) (dc := c7) (n := 4) (delays := gd delays i) (img := []) SlR.nil (SlR.of_osl (E := 3) (by repeat (first | exact Ext.here | apply Ext.there))) (by omega) (newE_zero (by decide) (by decide) fun x hx => by have := gd_range x hx; omega)) rfl ?_
      rintro b -
      refine OG.yield (Yield.move rfl) rfl ?_
      refine OG.yield (Yield.extract rfl rfl) rfl ?_
      refine OG.yield (Yield.extract rfl rfl) rfl ?_
      refine OG.yield (Yield.assign rfl) rfl ?_
      refine OG.yield (Yield.assign rfl) rfl ?_
      refine OG.nil ?_
      refine QG.then ?_
      refine CG.seq ?_
      refine CG.seq ?_
      refine CG.region ?_
      refine OG.yield (Yield.move rfl) rfl ?_
      refine OG.callo call19 rfl (Imp.refl _) (num_spec W _ 0) rfl ?_
      rintro ⟨⟩ -
      refine OG.yield (by first | exact Yield.as (Yield.neq rfl rfl) (bT (by omega)) | exact Yield.as (Yield.neq rfl rfl) (bF (by omega)) | exact Yield.neq rfl rfl) rfl ?_
      refine OG.yield (Yield.move rfl) rfl ?_
      refine OG.guard_yes rfl rfl rfl (by decide) ?_
      refine OG.yield (Yield.move rfl) rfl ?_
      refine OG.guard_yes rfl rfl rfl (by decide) ?_
      refine OG.yield (by first | exact Yield.ptr_nil Try.underlying51 rfl rfl | exact Yield.nil_nil Try.underlying51 rfl rfl) rfl ?_
      refine OG.yield (by first | exact Yield.pick_t rfl rfl | exact Yield.pick_f rfl rfl | exact Yield.pick rfl (fun _ => rfl) (fun _ => rfl)) rfl ?_
      refine OG.nil ?_
      refine QG.then ?_
      refine CG.cond_f rfl ?_
      refine CG.skip ?_
      refine QG.then ?_
      refine CG.seq ?_
      refine CG.region ?_
      refine OG.yield (Yield.move rfl) rfl ?_
      refine OG.yield (Yield.conv Try.underlying25 rfl rfl rfl) rfl ?_
      refine OG.yield (Yield.rem (c := md 300 step) rfl rfl (by decide) (tmod_pos (by omega) (by omega))) rfl ?_
      refine OG.yield (Yield.conv (c := md 300 step) Try.underlying3 rfl rfl (w64 (by omega) (by omega))) rfl ?_
      refine OG.yield (Yield.add rfl rfl (w64 (by omega) (by omega))) rfl ?_
      refine OG.yield (Yield.assign rfl) rfl ?_
      refine OG.nil ?_
      refine QG.then ?_
      refine CG.seq ?_
      refine CG.region ?_
      refine OG.yield (Yield.buildArr0 (zs := (bytesV [0, 0, 0, 0]).toArray) Try.underlying54 ti54 ti5) rfl ?_
      refine OG.effd (Eff.alloc ti54) rfl ?_
      rintro b11 -
      refine OG.eff (Eff.storeAll (vs := bytesV [0, 0, 0, 0]) ti54 rfl rfl (by repeat (first | exact Foc.here | apply Foc.there)) rfl bytesV_one rfl) rfl ?_
      rintro ⟨⟩ -
      refine OG.nil ?_
      refine QG.then ?_
      refine CG.seq ?_
      refine CG.region ?_
      refine OG.yield (Yield.assign rfl) rfl ?_
      refine OG.nil ?_
      refine QG.then ?_
      refine CG.seq ?_
      refine CG.region ?_
      refine OG.yield (Yield.assign rfl) rfl ?_
      refine OG.nil ?_
      refine QG.then ?_
      refine CG.seq ?_
      refine CG.region ?_
      refine OG.yield (Yield.assign rfl) rfl ?_
      refine OG.nil ?_
      refine QG.then ?_
      refine CG.seq ?_
      refine CG.seq ?_
      refine CG.region ?_
      refine OG.yield (Yield.assign rfl) rfl ?_
      refine OG.nil ?_
      refine QG.then ?_
      refine CG.block ?_
      refine CG.loop (fun x : Ost => x.OK ops.length) (fun x => [(1, .slice a1 ops.length c1), (2, .int .i64 (1 + md 300 step)), (9, .pointer (some ⟨b, 0, none⟩)), (11, .pointer (some ⟨b11, 0, none⟩)), (12, .slice x.wa x.w.length x.wc), (13, .slice x.ga x.g.length x.gc), (14, .int .i64 x.now), (15, .int .i64 x.i)]) (fun x => OG b b11 x ++ [old W]) (fun x => ops.length - x.i) ⟨0, 0, ⟨newB 4 [], gd delays i, 0, 0, []⟩, [0, 0, 0, 0], [], none, 0, [], none, 0⟩ ⟨Nat.zero_le _, ⟨Int.le_refl _, by show (0 : Int) ≤ 300 * ((0 : Nat) : Int); decide⟩, ⟨by show (0 : Int) ≤ ((0 : Nat) : Int); decide, by show (0 : Int) ≤ 60000 + 1000 * ((0 : Nat) : Int); decide, fun j h => absurd h List.not_mem_nil, gd_range⟩, rfl, rfl, rfl, cel0, Nat.zero_le _⟩ (by repeat (first | exact Env.sub_nil _ | refine Env.sub_cons rfl ?_)) (Imp.trans (Imp.trans pool_nil (Imp.trans (osl_nil (E := 40) (sz := 5)) (Imp.trans pool_nil (Imp.trans (osl_nil (E := 40) (sz := 5)) (by repeat (first | exact Imp.refl _ | exact Imp.none _ | apply Imp.pull (by repeat (first | exact Ext.here | apply Ext.there)) | apply Imp.trans Imp.drop)))))) (Imp.refl _)) ?_
      clear hgl hi
      rintro ⟨i, now, s, C, g, ga, gc, wt, wa, wc⟩ ⟨hi, hnow, hav, hlen, hcl, heq, hcel, hwl⟩
      dsimp only at hi hnow hav hlen hcl heq hcel hwl
      dsimp only [OG, List.cons_append, List.nil_append]
      have hgwl : g.length ≤ i := by have h9 := congrArg List.length heq; simp only [List.length_append, List.length_map] at h9; omega
      refine CG.pure (fun w hw => bl_facts (b := b) (s := s) (by repeat (first | exact Ext.here | apply Ext.there)) w hw) ?_
      intro hso
      refine CG.seq ?_
      refine CG.seq ?_
      refine CG.region ?_
      refine OG.yield (Yield.move rfl) rfl ?_
      refine OG.yield (Yield.move rfl) rfl ?_
      refine OG.yield (Yield.len_slice Try.underlying32 rfl rfl) rfl ?_
      refine OG.yield (by first | exact Yield.as (Yield.lss rfl rfl) (bT (by omega)) | exact Yield.as (Yield.lss rfl rfl) (bF (by omega)) | exact Yield.lss rfl rfl) rfl ?_
      refine OG.nil ?_
      refine QG.then ?_
      refine CG.cond rfl (fun hc => ?_) (fun hc => ?_)
      · try replace hc := of_decide_eq_true hc
        have h1 : i < ops.length := by omega
        have hget : ops[i]? = some ops[i] := by simp [h1]
        generalize ops[i] = op at hget
        have hmd := md_range (k := 4) (by decide) op.Sector
        have hwx := wrap_u64_range op.Sector
        obtain ⟨k, hkd⟩ : ∃ k : Nat, md 4 op.Sector = k := ⟨(md 4 op.Sector).toNat, by omega⟩
        have hk4 : k < 4 := by omega
        refine CG.pure (fun w hw => (hops.old (G := [Bl b s, blk b11 (bytesV C) 54, oreqs ga gc g, pool (g.map CR.m), oreqs wa wc wt, pool (wt.map CR.m), old W]) (by repeat (first | exact Ext.here | apply Ext.there))).elem_shape BReq.len (by decide) h1 w hw) ?_
        rintro ⟨b1, o1, rfl⟩
        have hrow : ∀ {G R : List HProp}, Ext G (old W) R → Row W G b1 (o1 + i * 5) (BReq.cells op) := fun x => (hops.old x).elem BReq.len hget
        refine CG.skip ?_
        refine QG.then ?_
        refine CG.seq ?_
        refine CG.block ?_
        refine CG.seq ?_
        refine CG.draw (.look 0 0 (.look 1 0 (.look 2 0 (.look 3 0 (.look 4 0 (.look 5 0 (.look 6 0 (.look 7 0 (.look 8 0 (.look 9 0 (.look 10 0 (.look 11 0 (.look 12 0 (.look 13 0 (.look 14 0 (.look 15 0 (.look 16 0 (.eff1 17 false (.eff1 18 false (.done)))))))))))))))))))) [17, 18] [] ([old W]) ([]) mixed (by kernel_rfl) ((by repeat (first | exact Imp.refl _ | exact Imp.none _ | apply Imp.pull (by repeat (first | exact Ext.here | apply Ext.there)) | apply Imp.trans Imp.drop))) (Imp.none _) ?_
        refine DG.look rfl rfl (Yield.move rfl) rfl ?_
        refine DG.look rfl rfl (Yield.move rfl) rfl ?_
        refine DG.look rfl rfl (Yield.conv (c := (i : Int)) Try.underlying35 rfl rfl (wu32 (by omega) (by omega))) rfl ?_
        refine DG.look rfl rfl (Yield.move rfl) rfl ?_
        refine DG.look rfl rfl (Yield.move rfl) rfl ?_
        refine DG.look rfl rfl (Yield.index_slice Try.underlying32 ti40 rfl rfl (by omega) (by omega)) rfl ?_
        refine DG.look rfl rfl (Yield.fieldAddr fa40_2 rfl) rfl ?_
        refine DG.look rfl rfl (Yield.load (v := .bool op.Write) ti4 rfl (by rw [show o1 + (i : Int).toNat * 5 + 2 = (o1 + i * 5) + 2 by omega]; exact (hrow (by repeat (first | exact Ext.here | apply Ext.there))) 2 _ rfl)) rfl ?_
        refine DG.look rfl rfl (Yield.move rfl) rfl ?_
        refine DG.look rfl rfl (Yield.move rfl) rfl ?_
        refine DG.look rfl rfl (Yield.index_slice Try.underlying32 ti40 rfl rfl (by omega) (by omega)) rfl ?_
        refine DG.look rfl rfl (Yield.fieldAddr fa40_3 rfl) rfl ?_
        refine DG.look rfl rfl (Yield.load (v := .int .i64 op.Sector) ti3 rfl (by rw [show o1 + (i : Int).toNat * 5 + 3 = (o1 + i * 5) + 3 by omega]; exact (hrow (by repeat (first | exact Ext.here | apply Ext.there))) 3 _ rfl)) rfl ?_
        refine DG.look rfl rfl (Yield.conv Try.underlying25 rfl rfl rfl) rfl ?_
        refine DG.look rfl rfl (Yield.rem (c := md 4 op.Sector) rfl rfl (by decide) (tmod_pos (by omega) (by omega))) rfl ?_
        refine DG.look rfl rfl (Yield.conv (c := (k : Int)) Try.underlying3 rfl rfl (by rw [hkd]; exact w64 (by omega) (by omega))) rfl ?_
        refine DG.look rfl rfl (Yield.build (pvs := [(0, .int .i64 (i : Int)), (1, .int .u32 (i : Int)), (2, .bool op.Write), (3, .int .i64 (k : Int))]) bu40 ti40 rfl (cells := CR.cells ⟨i, i, op.Write, k, Msg.nil⟩) rfl) rfl ?_
        refine DG.eff1 ?_
        refine Chg.eff rfl rfl (Eff.alloc ti40) rfl (fun _ => (by repeat (first | exact Imp.refl _ | exact Imp.none _ | apply Imp.pull (by repeat (first | exact Ext.here | apply Ext.there)) | apply Imp.trans Imp.drop))) (fun _ => Imp.refl _) (fun _ => (by repeat (first | exact Imp.refl _ | exact Imp.none _ | apply Imp.pull (by repeat (first | exact Ext.here | apply Ext.there)) | apply Imp.trans Imp.drop))) ?_
        rintro b16 -
        refine DG.eff1 ?_
        refine Chg.eff rfl rfl (Eff.storeAll ti40 rfl rfl (by repeat (first | exact Foc.here | apply Foc.there)) (CR.len ⟨i, i, op.Write, k, Msg.nil⟩) (CR.ones _) rfl) rfl (fun _ => (by repeat (first | exact Imp.refl _ | exact Imp.none _ | apply Imp.pull (by repeat (first | exact Ext.here | apply Ext.there)) | apply Imp.trans Imp.drop))) (fun _ => Imp.refl _) (fun _ => (by repeat (first | exact Imp.refl _ | exact Imp.none _ | apply Imp.pull (by repeat (first | exact Ext.here | apply Ext.there)) | apply Imp.trans Imp.drop))) ?_
        rintro ⟨⟩ -
        refine DG.done ?_
        refine QG.then ?_
        refine CG.cut (fun m : Msg => m.b = if op.Write then wz (UInt8.ofNat (i + 1)) else []) (fun _ => [(1, .slice (some ⟨b1, o1, none⟩) ops.length c1), (2, .int .i64 (1 + md 300 step)), (9, .pointer (some ⟨b, 0, none⟩)), (11, .pointer (some ⟨b11, 0, none⟩)), (12, .slice wa wt.length wc), (13, .slice ga g.length gc), (14, .int .i64 now), (15, .int .i64 i), (16, .pointer (some ⟨b16, 0, none⟩))]) (fun m => blk b16 (CR.cells ⟨i, i, op.Write, k, m⟩) 40 :: m.own :: Bl b s :: blk b11 (bytesV C) 54 :: oreqs ga gc g :: pool (g.map CR.m) :: oreqs wa wc wt :: pool (wt.map CR.m) :: [old W]) ?_ ?_
        · skip
          refine CG.seq ?_
          refine CG.region ?_
          refine OG.yield (Yield.fieldAddr fa40_2 rfl) rfl ?_
          refine OG.yield (Yield.load (v := .bool op.Write) ti4 rfl (Cel.of_blk (b := b16) (by repeat (first | exact Ext.here | apply Ext.there)) rfl)) rfl ?_
          refine OG.nil ?_
          refine QG.then ?_
          refine CG.cond rfl (fun hc => ?_) (fun hc => ?_)
          · try replace hc := of_decide_eq_true hc
            have hwt : op.Write = true := by simpa using hc
            refine CG.seq ?_
            refine CG.region ?_
            refine OG.effd (Eff.makeB 64 Try.underlying36 ti5 rfl rfl (by decide)) rfl ?_
            rintro b86 -
            refine OG.yield (Yield.fieldAddr fa40_4 rfl) rfl ?_
            refine OG.eff (Eff.store1 ti36 rfl rfl (by repeat (first | exact Foc.here | apply Foc.there)) rfl (by show 4 < 5; decide)) rfl ?_
            rintro ⟨⟩ -
            refine OG.nil ?_
            refine QG.then ?_
            refine CG.region ?_
            refine OG.yield (Yield.fieldAddr fa40_4 rfl) rfl ?_
            refine OG.yield (Yield.load (v := .slice (some ⟨b86, 0, none⟩) 64 64) ti36 rfl (Cel.of_blk (b := b16) (by repeat (first | exact Ext.here | apply Ext.there)) rfl)) rfl ?_
            refine OG.yield (Yield.move rfl) rfl ?_
            refine OG.yield (Yield.add rfl rfl (w64 (by omega) (by omega))) rfl ?_
            refine OG.yield (Yield.conv (c := ((UInt8.ofNat (i + 1)).toNat : Int)) Try.underlying5 rfl rfl (u8_of (n := i + 1) (by omega))) rfl ?_
            refine OG.yield (Yield.index_slice (b := b86) (o := 0) (m := 64) (c := 64) Try.underlying36 ti5 rfl rfl (by omega) (by omega)) rfl ?_
            refine OG.eff (Eff.storeElem (b := b86) (o := 0) (i := 63) (v := byteV (UInt8.ofNat (i + 1))) ti5 rfl rfl (by repeat (first | exact Foc.here | apply Foc.there)) rfl (by decide)) rfl ?_
            rintro ⟨⟩ -
            rw [bytesV_set]
            refine OG.nil ?_
            have hwl2 := wz_len (UInt8.ofNat (i + 1))
            refine QG.mid ⟨some ⟨b86, 0, none⟩, 64, wz (UInt8.ofNat (i + 1))⟩ (by rw [if_pos hwt]) (by repeat (first | exact Env.sub_nil _ | refine Env.sub_cons rfl ?_)) ?_
            dsimp only [CR.cells, Msg.cell, Msg.own, oby]
            rw [hwl2]
            exact (by repeat (first | exact Imp.refl _ | exact Imp.none _ | apply Imp.pull (by repeat (first | exact Ext.here | apply Ext.there)) | apply Imp.trans Imp.drop))
          · try replace hc := of_decide_eq_false hc
            have hwf : op.Write = false := by simpa using hc
            refine CG.skip ?_
            exact QG.mid Msg.nil (by rw [hwf]; rfl) (by repeat (first | exact Env.sub_nil _ | refine Env.sub_cons rfl ?_)) (Imp.trans own_nil (by repeat (first | exact Imp.refl _ | exact Imp.none _ | apply Imp.pull (by repeat (first | exact Ext.here | apply Ext.there)) | apply Imp.trans Imp.drop)))
        rintro m hm
        have hml : m.b.length ≤ 64 := by rw [hm]; split; rw [wz_len]; exact Nat.le_refl _; exact Nat.zero_le _
        have hmw : op.Write = true → m.b.length = 64 := fun q => by rw [hm, if_pos q, wz_len]
        refine CG.seq ?_
        refine CG.region ?_
        refine OG.yield (Yield.move rfl) rfl ?_
        refine OG.yield (Yield.move rfl) rfl ?_
        refine OG.yield (Yield.add rfl rfl (w64 (by omega) (by omega))) rfl ?_
        refine OG.yield (Yield.assign rfl) rfl ?_
        refine OG.nil ?_
        refine QG.then ?_
        refine CG.seq ?_
        refine CG.region ?_
        refine OG.yield (Yield.move rfl) rfl ?_
        refine OG.yield (Yield.move rfl) rfl ?_
        refine OG.yield (Yield.move rfl) rfl ?_
        refine OG.callo call20 rfl ((by repeat (first | exact Imp.refl _ | exact Imp.none _ | apply Imp.pull (by repeat (first | exact Ext.here | apply Ext.there)) | apply Imp.trans Imp.drop))) (poll_spec W _ (b := b) (s := s) (now + (1 + md 300 step))) rfl ?_
        rintro ⟨l1, la1, lc1⟩ hl1
        dsimp only at hl1
        dsimp only [Rqs.G, Rqs.ms, List.cons_append, List.nil_append]
        refine OG.pure (fun w hw => bl_facts (b := b) (s := pollR s (now + (1 + md 300 step))) (by repeat (first | exact Ext.here | apply Ext.there)) w hw) ?_
        intro hpo
        have hpn : (pollR s (now + (1 + md 300 step))).n = s.n := poll_n hso _
        have hsn : s.n = 4 := by show s.bytes.length / 64 = 4; rw [hlen]
        have hl1l : l1.length ≤ 32 := by have h9 := congrArg List.length hl1; rw [List.length_map] at h9; have := (pollL_sub s.q s.bytes (now := now + (1 + md 300 step))).2; have := hso.ql; omega
        refine OG.effd (Eff.append (a := ga) (c := gc) (m := g.length) (xs := (g.map CR.cells).flatten) (k := l1.length) (ys := (l1.map CR.cells).flatten) rfl rfl rfl Try.underlying32 Try.underlying32 ti40 rfl (by decide) (by repeat (first | exact Foc.here | apply Foc.there)) (SlR.of_osl (a := la1) (by repeat (first | exact Ext.here | apply Ext.there))) (flat_ones CR.ones l1) (by omega)) rfl ?_
        rintro ⟨a101, c101⟩ -
        refine OG.yield (Yield.assign rfl) rfl ?_
        refine OG.nil ?_
        refine QG.then ?_
        refine CG.seq ?_
        refine CG.seq ?_
        rcases Classical.em (subBE (pollR s (now + (1 + md 300 step))) op.Write k m.b.length (now + (1 + md 300 step)) = 0) with he | he
        · skip
          refine CG.region ?_
          refine OG.yield (Yield.move rfl) rfl ?_
          refine OG.yield (Yield.load_agg (vs := CR.cells ⟨i, i, op.Write, k, m⟩) ti40 rfl (CR.len _) (Row.of_blk (b := b16) (by repeat (first | exact Ext.here | apply Ext.there)) rfl)) rfl ?_
          refine OG.yield (Yield.move rfl) rfl ?_
          refine OG.callo call21 rfl ((by repeat (first | exact Imp.refl _ | exact Imp.none _ | apply Imp.pull (by repeat (first | exact Ext.here | apply Ext.there)) | apply Imp.trans Imp.drop))) (submit_ok W _ (b := b) (s := pollR s (now + (1 + md 300 step))) (r := ⟨i, i, op.Write, k, m⟩) (now := now + (1 + md 300 step)) (by exact RdB.of_osl (E := 5) (a := m.a) (c := m.c) (by repeat (first | exact Ext.here | apply Ext.there)) rfl rfl) (show m.b.length ≤ dmax by unfold dmax; omega) (by have h9 := (hav.poll (now + (1 + md 300 step))).taken; omega) he) rfl ?_
          rintro ⟨⟩ -
          refine OG.callo call19 rfl (Imp.refl _) (num_spec W _ 0) rfl ?_
          rintro ⟨⟩ -
          refine OG.yield (by first | exact Yield.as (Yield.neq rfl rfl) (bT (by omega)) | exact Yield.as (Yield.neq rfl rfl) (bF (by omega)) | exact Yield.neq rfl rfl) rfl ?_
          refine OG.nil ?_
          refine QG.then ?_
          refine CG.cond_f rfl ?_
          refine CG.skip ?_
          refine QG.then ?_
          refine CG.cut (fun t : Msg × B => t.1.b = (if op.Write then wz (UInt8.ofNat (i + 1)) else wz (C.getD k 0)) ∧ t.2 = if op.Write then C.set k (UInt8.ofNat (i + 1)) else C) (fun _ => [(1, .slice (some ⟨b1, o1, none⟩) ops.length c1), (2, .int .i64 (1 + md 300 step)), (9, .pointer (some ⟨b, 0, none⟩)), (11, .pointer (some ⟨b11, 0, none⟩)), (12, .slice wa wt.length wc), (13, .slice a101 (g.length + l1.length) c101), (14, .int .i64 (now + (1 + md 300 step))), (15, .int .i64 i), (16, .pointer (some ⟨b16, 0, none⟩))]) (fun t => blk b16 (CR.cells ⟨i, i, op.Write, k, t.1⟩) 40 :: t.1.own :: Bl b (subBR (pollR s (now + (1 + md 300 step))) (CR.abs ⟨i, i, op.Write, k, m⟩) (now + (1 + md 300 step))) :: blk b11 (bytesV t.2) 54 :: osl 40 5 a101 c101 (g.length + l1.length) ((g.map CR.cells).flatten ++ (l1.map CR.cells).flatten) :: pool (g.map CR.m) :: pool (l1.map CR.m) :: oreqs wa wc wt :: pool (wt.map CR.m) :: [old W]) ?_ ?_
          · skip
            refine CG.seq ?_
            refine CG.region ?_
            refine OG.yield (Yield.fieldAddr fa40_2 rfl) rfl ?_
            refine OG.yield (Yield.load (v := .bool op.Write) ti4 rfl (Cel.of_blk (b := b16) (by repeat (first | exact Ext.here | apply Ext.there)) rfl)) rfl ?_
            refine OG.nil ?_
            refine QG.then ?_
            refine CG.cond rfl (fun hc => ?_) (fun hc => ?_)
            · try replace hc := of_decide_eq_true hc
              have hwt : op.Write = true := by simpa using hc
              refine CG.region ?_
              refine OG.yield (Yield.fieldAddr fa40_3 rfl) rfl ?_
              refine OG.yield (Yield.load (v := .int .i64 (k : Int)) ti3 rfl (Cel.of_blk (b := b16) (by repeat (first | exact Ext.here | apply Ext.there)) rfl)) rfl ?_
              refine OG.yield (Yield.move rfl) rfl ?_
              refine OG.yield (Yield.add rfl rfl (w64 (by omega) (by omega))) rfl ?_
              refine OG.yield (Yield.conv (c := ((UInt8.ofNat (i + 1)).toNat : Int)) Try.underlying5 rfl rfl (u8_of (n := i + 1) (by omega))) rfl ?_
              refine OG.yield (Yield.as (Yield.index_array (b := b11) (o := 0) (j := (k : Int)) Try.underlying54 ti5 rfl rfl (by omega) (by omega)) (v' := .pointer (some ⟨b11, k, none⟩)) (by rw [show 0 + (k : Int).toNat * 1 = k by omega])) rfl ?_
              refine OG.eff (Eff.store1 (b := b11) (o := k) (v := byteV (UInt8.ofNat (i + 1))) (cs := bytesV C) ti5 rfl rfl (by repeat (first | exact Foc.here | apply Foc.there)) rfl (by rw [bytesV_length, hcl]; exact hk4)) rfl ?_
              rintro ⟨⟩ -
              rw [bytesV_set]
              refine OG.nil ?_
              exact QG.mid (m, C.set k (UInt8.ofNat (i + 1))) ⟨by rw [if_pos hwt, hm, if_pos hwt], by rw [if_pos hwt]⟩ (by repeat (first | exact Env.sub_nil _ | refine Env.sub_cons rfl ?_)) (by repeat (first | exact Imp.refl _ | exact Imp.none _ | apply Imp.pull (by repeat (first | exact Ext.here | apply Ext.there)) | apply Imp.trans Imp.drop))
            · try replace hc := of_decide_eq_false hc
              have hwf : op.Write = false := by simpa using hc
              refine CG.seq ?_
              refine CG.region ?_
              refine OG.effd (Eff.makeB 64 Try.underlying36 ti5 rfl rfl (by decide)) rfl ?_
              rintro b119 -
              refine OG.yield (Yield.fieldAddr fa40_4 rfl) rfl ?_
              refine OG.eff (Eff.store1 ti36 rfl rfl (by repeat (first | exact Foc.here | apply Foc.there)) rfl (by show 4 < 5; decide)) rfl ?_
              rintro ⟨⟩ -
              refine OG.nil ?_
              refine QG.then ?_
              refine CG.draw (.look 0 1 (.look 1 1 (.look 2 1 (.look 3 1 (.look 4 1 (.look 5 1 (.look 6 1 (.eff1 7 false (.done))))))))) [7] [] ([]) ([]) mixed (by kernel_rfl) (Imp.none _) (Imp.none _) ?_
              refine DG.look rfl rfl (Yield.fieldAddr fa40_4 rfl) rfl ?_
              refine DG.look rfl rfl (Yield.load (v := .slice (some ⟨b119, 0, none⟩) 64 64) ti36 rfl (Cel.of_blk (b := b16) (by repeat (first | exact Ext.here | apply Ext.there)) rfl)) rfl ?_
              refine DG.look rfl rfl (Yield.fieldAddr fa40_3 rfl) rfl ?_
              refine DG.look rfl rfl (Yield.load (v := .int .i64 (k : Int)) ti3 rfl (Cel.of_blk (b := b16) (by repeat (first | exact Ext.here | apply Ext.there)) rfl)) rfl ?_
              refine DG.look rfl rfl (Yield.as (Yield.index_array (b := b11) (o := 0) (j := (k : Int)) Try.underlying54 ti5 rfl rfl (by omega) (by omega)) (v' := .pointer (some ⟨b11, k, none⟩)) (by rw [show 0 + (k : Int).toNat * 1 = k by omega])) rfl ?_
              refine DG.look rfl rfl (Yield.load (v := byteV (C.getD k 0)) ti5 rfl (Cel.of_blk (b := b11) (by repeat (first | exact Ext.here | apply Ext.there)) (bytesV_get (by rw [List.getD_eq_getElem?_getD, List.getElem?_eq_getElem (by omega)]; rfl)))) rfl ?_
              refine DG.look rfl rfl (Yield.index_slice (b := b119) (o := 0) (m := 64) (c := 64) Try.underlying36 ti5 rfl rfl (by omega) (by omega)) rfl ?_
              refine DG.eff1 ?_
              refine Chg.eff rfl rfl (Eff.storeElem (b := b119) (o := 0) (i := 63) (v := byteV (C.getD k 0)) ti5 rfl rfl (by repeat (first | exact Foc.here | apply Foc.there)) rfl (by decide)) rfl (fun _ => (by repeat (first | exact Imp.refl _ | exact Imp.none _ | apply Imp.pull (by repeat (first | exact Ext.here | apply Ext.there)) | apply Imp.trans Imp.drop))) (fun _ => Imp.refl _) (fun _ => (by repeat (first | exact Imp.refl _ | exact Imp.none _ | apply Imp.pull (by repeat (first | exact Ext.here | apply Ext.there)) | apply Imp.trans Imp.drop))) ?_
              rintro ⟨⟩ -
              rw [bytesV_set]
              refine DG.done ?_
              have hwl2 := wz_len (C.getD k 0)
              refine QG.mid (⟨some ⟨b119, 0, none⟩, 64, wz (C.getD k 0)⟩, C) ⟨by rw [if_neg (by rw [hwf]; decide)], by rw [if_neg (by rw [hwf]; decide)]⟩ (by repeat (first | exact Env.sub_nil _ | refine Env.sub_cons rfl ?_)) ?_
              dsimp only [CR.cells, Msg.cell, Msg.own, oby]
              rw [hwl2]
              exact (by repeat (first | exact Imp.refl _ | exact Imp.none _ | apply Imp.pull (by repeat (first | exact Ext.here | apply Ext.there)) | apply Imp.trans Imp.drop))
          rintro ⟨m2, C2⟩ ⟨hm2, hC2⟩
          dsimp only at hm2 hC2 ⊢
          refine CG.region ?_
          refine OG.yield (Yield.move rfl) rfl ?_
          refine OG.yield (Yield.load_agg (vs := CR.cells ⟨i, i, op.Write, k, m2⟩) ti40 rfl (CR.len _) (Row.of_blk (b := b16) (by repeat (first | exact Ext.here | apply Ext.there)) rfl)) rfl ?_
          refine OG.effd (Eff.lit [.tmp 129] (vs := [.agg (CR.cells ⟨i, i, op.Write, k, m2⟩).toArray]) (cells := CR.cells ⟨i, i, op.Write, k, m2⟩) Try.underlying32 ti40 rfl rfl rfl rfl (by decide) (by simp [Value.cells, CR.cells]) (by simp [Value.cells])) rfl ?_
          rintro b130 -
          refine OG.effd (Eff.append (a := wa) (c := wc) (m := wt.length) (xs := (wt.map CR.cells).flatten) (k := 1) (ys := CR.cells ⟨i, i, op.Write, k, m2⟩) rfl rfl rfl Try.underlying32 Try.underlying32 ti40 rfl (by decide) (by repeat (first | exact Foc.here | apply Foc.there)) (SlR.of_osl (a := some ⟨b130, 0, none⟩) (by repeat (first | exact Ext.here | apply Ext.there))) (CR.ones _) (by omega)) rfl ?_
          rintro ⟨a131, c131⟩ -
          refine OG.yield (Yield.assign rfl) rfl ?_
          refine OG.nil ?_
          refine QG.block_normal ?_
          refine QG.then ?_
          refine CG.region ?_
          refine OG.yield (Yield.move rfl) rfl ?_
          refine OG.yield (Yield.add rfl rfl (w64 (by omega) (by omega))) rfl ?_
          refine OG.yield (Yield.assign rfl) rfl ?_
          refine OG.nil ?_
          refine QG.next ⟨i + 1, now + (1 + md 300 step), subBR (pollR s (now + (1 + md 300 step))) (CR.abs ⟨i, i, op.Write, k, m⟩) (now + (1 + md 300 step)), C2, g ++ l1, a101, c101, wt ++ [⟨i, i, op.Write, k, m2⟩], a131, c131⟩ (by rw [hC2]; exact Ost.OK.take (x := ⟨i, now, s, C, g, ga, gc, wt, wa, wc⟩) ⟨hi, hnow, hav, hlen, hcl, heq, hcel, hwl⟩ hso (by omega) h1 (by omega) hl1 hpo hk4 hm hm2 a101 a131 c101 c131 i i) (show ops.length - (i + 1) < ops.length - i by omega) (by dsimp only; rw [List.length_append, List.length_append]; exact (by repeat (first | exact Env.sub_nil _ | refine Env.sub_cons rfl ?_))) ?_
          dsimp only [OG, oreqs]
          rw [List.length_append, List.length_append, List.map_append, List.map_append, List.flatten_append, flat_app]
          refine Imp.trans (Imp.pull (A := pool (g.map CR.m)) (by repeat (first | exact Ext.here | apply Ext.there)) (Imp.pull (A := pool (l1.map CR.m)) (by repeat (first | exact Ext.here | apply Ext.there)) (Imp.refl _))) (Imp.trans pool_join ?_)
          refine Imp.trans (Imp.pull (A := m2.own) (by repeat (first | exact Ext.here | apply Ext.there)) (Imp.pull (A := pool (wt.map CR.m)) (by repeat (first | exact Ext.here | apply Ext.there)) (Imp.refl _))) (Imp.trans pool_add ?_)
          rw [List.map_append]
          exact (by repeat (first | exact Imp.refl _ | exact Imp.none _ | apply Imp.pull (by repeat (first | exact Ext.here | apply Ext.there)) | apply Imp.trans Imp.drop))
        · skip
          refine CG.region ?_
          refine OG.yield (Yield.move rfl) rfl ?_
          refine OG.yield (Yield.load_agg (vs := CR.cells ⟨i, i, op.Write, k, m⟩) ti40 rfl (CR.len _) (Row.of_blk (b := b16) (by repeat (first | exact Ext.here | apply Ext.there)) rfl)) rfl ?_
          refine OG.yield (Yield.move rfl) rfl ?_
          refine OG.callo call21 rfl ((by repeat (first | exact Imp.refl _ | exact Imp.none _ | apply Imp.pull (by repeat (first | exact Ext.here | apply Ext.there)) | apply Imp.trans Imp.drop))) (submit_bad W _ (b := b) (s := pollR s (now + (1 + md 300 step))) (r := ⟨i, i, op.Write, k, m⟩) (now := now + (1 + md 300 step)) he) rfl ?_
          rintro ⟨⟩ -
          refine OG.callo call19 rfl (Imp.refl _) (num_spec W _ _) rfl ?_
          rintro ⟨⟩ -
          refine OG.yield (Yield.as (Yield.neq rfl rfl) (bT he)) rfl ?_
          refine OG.nil ?_
          refine QG.then ?_
          refine CG.cond_t rfl ?_
          refine CG.seq ?_
          refine CG.seq ?_
          refine CG.region ?_
          refine OG.yield (Yield.move rfl) rfl ?_
          refine OG.callo call22 rfl ((by repeat (first | exact Imp.refl _ | exact Imp.none _ | apply Imp.pull (by repeat (first | exact Ext.here | apply Ext.there)) | apply Imp.trans Imp.drop))) (waiting_spec W _ (b := b) (s := pollR s (now + (1 + md 300 step)))) rfl ?_
          rintro ⟨⟩ -
          have hfl := full_of he (by omega) (by have h9 : (pollR s (now + (1 + md 300 step))).n = s.n := hpn; rw [h9]; omega) hmw
          refine OG.yield (by first | exact Yield.as (Yield.lss rfl rfl) (bT (by omega)) | exact Yield.as (Yield.lss rfl rfl) (bF (by omega)) | exact Yield.lss rfl rfl) rfl ?_
          refine OG.nil ?_
          refine QG.then ?_
          refine CG.cond_f rfl ?_
          refine CG.skip ?_
          refine QG.then ?_
          refine CG.exit ?_
          refine QG.pass_exit ?_
          refine QG.block_exit ?_
          refine QG.then ?_
          refine CG.region ?_
          refine OG.yield (Yield.move rfl) rfl ?_
          refine OG.yield (Yield.add rfl rfl (w64 (by omega) (by omega))) rfl ?_
          refine OG.yield (Yield.assign rfl) rfl ?_
          refine OG.nil ?_
          exact QG.next ⟨i + 1, now + (1 + md 300 step), pollR s (now + (1 + md 300 step)), C, g ++ l1, a101, c101, wt, wa, wc⟩ (Ost.OK.poll (x := ⟨i, now, s, C, g, ga, gc, wt, wa, wc⟩) ⟨hi, hnow, hav, hlen, hcl, heq, hcel, hwl⟩ hso h1 (by omega) hl1 a101 c101) (show ops.length - (i + 1) < ops.length - i by omega) (by dsimp only; rw [List.length_append]; exact (by repeat (first | exact Env.sub_nil _ | refine Env.sub_cons rfl ?_))) (by dsimp only [OG, oreqs]; rw [List.length_append, List.map_append, List.map_append, List.flatten_append]; exact Imp.trans (Imp.pull (A := pool (g.map CR.m)) (by repeat (first | exact Ext.here | apply Ext.there)) (Imp.pull (A := pool (l1.map CR.m)) (by repeat (first | exact Ext.here | apply Ext.there)) (Imp.refl _))) (Imp.trans pool_join (by repeat (first | exact Imp.refl _ | exact Imp.none _ | apply Imp.pull (by repeat (first | exact Ext.here | apply Ext.there)) | apply Imp.trans Imp.drop))))
      · try replace hc := of_decide_eq_false hc
        refine CG.exit ?_
        refine QG.pass_exit ?_
        refine QG.pass_exit ?_
        refine QG.block_exit ?_
        refine QG.then ?_
        refine CG.seq ?_
        refine CG.region ?_
        refine OG.yield (Yield.move rfl) rfl ?_
        refine OG.yield (Yield.move rfl) rfl ?_
        refine OG.callo call20 rfl ((by repeat (first | exact Imp.refl _ | exact Imp.none _ | apply Imp.pull (by repeat (first | exact Ext.here | apply Ext.there)) | apply Imp.trans Imp.drop))) (poll_spec W _ (b := b) (s := s) 281474976710656) rfl ?_
        rintro ⟨l1, la1, lc1⟩ hl1
        dsimp only at hl1
        dsimp only [Rqs.G, Rqs.ms, List.cons_append, List.nil_append]
        have hall := pollL_all (now := 281474976710656) s.q s.bytes (fun j hj => by have := hav.done j hj; omega)
        have hl1l : l1.length ≤ 32 := by have h9 := congrArg List.length hl1; rw [List.length_map, hall.2] at h9; have := hso.ql; omega
        have hq0 : (pollR s 281474976710656).q.length = 0 := by show (pollL 281474976710656 s.bytes s.q).2.2.length = 0; rw [hall.1]; rfl
        rw [allL_all (fun j hj => by have := hav.done j hj; omega)] at hl1
        refine OG.effd (Eff.append (a := ga) (c := gc) (m := g.length) (xs := (g.map CR.cells).flatten) (k := l1.length) (ys := (l1.map CR.cells).flatten) rfl rfl rfl Try.underlying32 Try.underlying32 ti40 rfl (by decide) (by repeat (first | exact Foc.here | apply Foc.there)) (SlR.of_osl (a := la1) (by repeat (first | exact Ext.here | apply Ext.there))) (flat_ones CR.ones l1) (by omega)) rfl ?_
        rintro ⟨a135, c135⟩ -
        rw [← List.length_append, ← List.flatten_append, ← List.map_append]
        refine OG.yield (Yield.assign rfl) rfl ?_
        refine OG.nil ?_
        refine QG.then ?_
        refine CG.seq ?_
        refine CG.imp (Imp.trans (Imp.pull (A := pool (g.map CR.m)) (by repeat (first | exact Ext.here | apply Ext.there)) (Imp.pull (A := pool (l1.map CR.m)) (by repeat (first | exact Ext.here | apply Ext.there)) (Imp.refl _))) pool_join) ?_
        rw [← List.map_append]
        refine CG.region ?_
        refine OG.yield (Yield.move rfl) rfl ?_
        refine OG.yield (Yield.move rfl) rfl ?_
        refine OG.callo call23 rfl (Imp.refl _) (sameAll_spec W _ (x := ⟨g ++ l1, a135, c135⟩) (y := ⟨wt, wa, wc⟩) (SlR.of_osl (E := 40) (by repeat (first | exact Ext.here | apply Ext.there))) (SlR.of_osl (E := 40) (by repeat (first | exact Ext.here | apply Ext.there))) (mem_pool (r := ⟨g ++ l1, a135, c135⟩) (by repeat (first | exact Ext.here | apply Ext.there))) (mem_pool (r := ⟨wt, wa, wc⟩) (by repeat (first | exact Ext.here | apply Ext.there))) (by dsimp only; rw [List.map_append, hl1]; exact heq) (by show (g ++ l1).length ≤ _; rw [List.length_append]; omega)) rfl ?_
        rintro ⟨⟩ -
        refine OG.yield (Yield.move rfl) rfl ?_
        refine OG.guard_yes rfl rfl rfl (by decide) ?_
        refine OG.yield (Yield.move rfl) rfl ?_
        refine OG.guard_yes rfl rfl rfl (by decide) ?_
        refine OG.callo call22 rfl ((by repeat (first | exact Imp.refl _ | exact Imp.none _ | apply Imp.pull (by repeat (first | exact Ext.here | apply Ext.there)) | apply Imp.trans Imp.drop))) (waiting_spec W _ (b := b) (s := pollR s 281474976710656)) rfl ?_
        rintro ⟨⟩ -
        rw [hq0]
        refine OG.guard_yes rfl rfl rfl (by decide) ?_
        refine OG.yield (by first | exact Yield.as (Yield.eql rfl rfl) (bT (by omega)) | exact Yield.as (Yield.eql rfl rfl) (bF (by omega)) | exact Yield.eql rfl rfl) rfl ?_
        refine OG.yield (by first | exact Yield.pick_t rfl rfl | exact Yield.pick_f rfl rfl | exact Yield.pick rfl (fun _ => rfl) (fun _ => rfl)) rfl ?_
        refine OG.yield (Yield.assign rfl) rfl ?_
        refine OG.nil ?_
        refine QG.then ?_
        refine CG.ret ?_
        exact QG.ret1 rfl rfl () trivial rfl (by repeat (first | exact Imp.refl _ | exact Imp.none _ | apply Imp.pull (by repeat (first | exact Ext.here | apply Ext.there)) | apply Imp.trans Imp.drop))
open Go.ChangeShapes Go.WideShapes Go.ChangeAt
theorem own : ownKnob Try.prog.godebug = none := by kernel_rfl
theorem laid : laidOutB Try.prog = true := by kernel_rfl
set_option maxRecDepth 100000 in
theorem lifted (os : Os) (started : os.Started) (H : Type) (enc : TypeId × Value → H) :
    ReturnsInHanded {} Try.checked os 5 .any (Rows.blockOrderSpec.pre6 enc Try.prog Try.f5 Rows.blockOrderRow.domain false) (Rows.blockOrderSpec.post enc Try.prog Try.f5 false true false false) := by
  refine returnsInHanded_of_change_sized (C := Try.checked) own started (by kernel_rfl) Try.func5
    (ChangeSpec.witness6 (enc := enc) (C := Try.checked) false ⟨#[], #[.slice none 0 0, .slice none 0 0, .int .i64 0], []⟩ 8 (by kernel_rfl) (by kernel_rfl) (by kernel_rfl) (by kernel_rfl)) ?_
  intro W base args ds gs before hval0 hW hcnd hsz0 _
  have hsz : (DataW.weightsEach Try.prog (Try.f5.params.toList ++ Rows.blockOrderSpec.plain.varTypes Try.prog) (ds ++ gs)).all (· ≤ reachBytes) = true := hsz0
  have hval : ∀ (j : Nat) t v, Try.f5.params[j]? = some t → args[j]? = some v → Value.okWide Try.prog W .any base t v := hval0
  have hW' := hW
  obtain ⟨p, q, hA0, hV, rfl, hfz, hnd⟩ := hW
  have hA : DataW.TrodAll enc Try.prog W 0 (fun _ => true) true Try.f5.params.toList args.toList ds p := hA0
  rw [Try.params5] at hA hval hsz
  obtain ⟨v0, vs0, d0, ds0, p0, q0, hargs, rfl, rfl, h0, r0⟩ := trodAll_cons hA
  obtain ⟨v1, vs1, d1, ds1, p1, q1, rfl, rfl, rfl, h1, r1⟩ := trodAll_cons r0
  obtain ⟨v2, vs2, d2, ds2, p2, q2, rfl, rfl, rfl, h2, r2⟩ := trodAll_cons r1
  obtain ⟨rfl, rfl, rfl⟩ := trodAll_nil r2
  obtain rfl : args = #[v0, v1, v2] := by cases args; simp_all
  obtain ⟨rfl, rfl⟩ := trodVars_none hV
  have k0 := weights_le hsz 0 (t := 23) (d := d0) rfl rfl
  have s0 := Opn.param Try.underlying23 (Opn.ints (by' := 8) Try.underlying23 Try.underlying3 (by kernel_rfl) (by kernel_rfl)) (hval 0 23 v0 rfl rfl) h0 k0
  obtain ⟨x0, c0, ds, e0, l0, ok0, s0, m0⟩ := s0
  cases e0
  have k1 := weights_le hsz 1 (t := 32) (d := d1) rfl rfl
  have s1 := Opn.param Try.underlying32 (BReq.list W) (hval 1 32 v1 rfl rfl) h1 k1
  obtain ⟨x1, c1, ops, e1, l1, ok1, s1, m1⟩ := s1
  cases e1
  obtain ⟨a2, rfl, rfl, rfl, w2⟩ := open_int Try.underlying3 (hval 2 3 v2 rfl rfl) h2
  clear hA0 hval0 hsz0 hsz
  refine ((walk W s0 s1 ok1) W (Sat.start W)).mono fun e W' he => ?_
  obtain ⟨_, _, he, hs⟩ := he
  subst he
  exact ⟨_, rfl, law_post laid (params_ok (by kernel_rfl)) rfl Try.underlying4 hW' rfl rfl (Sat.below (by repeat (first | exact Ext.here | apply Ext.there)) hs)⟩
theorem over : Rows.blockOrderRow.holds Try.pinned (OpenSpec.ofChange Rows.blockOrderSpec) :=
  OpenClaim.holds_of_wide 5 Try.f5 rfl rfl rfl rfl rfl rfl rfl ⟨rfl, rfl, rfl, rfl, rfl⟩ rfl rfl rfl rfl rfl (by kernel_rfl) Try.func5 (by kernel_rfl)
    (of_decide_eq_true (by kernel_rfl)) (by unfold Func.isWrapper; first | (rw [if_pos (by decide +kernel)]; kernel_rfl) | (rw [if_neg (by decide +kernel)]; exact ⟨rfl, rfl⟩))
    (fun os started H enc _ => lifted os started H enc)
theorem proved : Rows.BlockOrderSaid := over
#print axioms proved
end Go.Proofs.Ytoejnhfcegchhaa.blockOrder
