/- package page: Pages, the iterator over all pages of a root. -/
import Derived.Test.YtmlfcfbblfcpdaaPgl
import Derived.Test.YtmlfcfbblfcpdaaRng
namespace Go.Proofs.Ytmlfcfbblfcpdaa.Pg
open Go Go.Sl Go.RowKit Go.Proofs Go.Proofs.Ytmlfcfbblfcpdaa.T Go.Proofs.Ytmlfcfbblfcpdaa.Me Go.Proofs.Ytmlfcfbblfcpdaa.Pe
set_option linter.unusedVariables false
set_option linter.unusedSimpArgs false
set_option maxRecDepth 100000
/-- The page p, if it is there, with its frame. -/
def pl (n : Nat) (bs : List UInt8) (root p : Nat) : List (Nat × Int) := if (walkR n bs root p).2.2 = 0 then [(p, (walkR n bs root p).1)] else []
/-- All pages below p. -/
def pagesTo (n : Nat) (bs : List UInt8) (root : Nat) : Nat → List (Nat × Int)
  | 0 => []
  | p + 1 => pagesTo n bs root p ++ pl n bs root p
section
variable {n : Nat} {bs : List UInt8} {root : Nat}
theorem pagesTo_pre : ∀ (d p : Nat), ∃ s, pagesTo n bs root (p + d) = pagesTo n bs root p ++ s
  | 0, p => ⟨[], by simp⟩
  | d + 1, p => by
    obtain ⟨s, hs⟩ := pagesTo_pre d p
    exact ⟨s ++ pl n bs root (p + d), by rw [show p + (d + 1) = (p + d) + 1 by omega, pagesTo, hs, List.append_assoc]⟩
theorem pagesTo_get {p q : Nat} (h : (walkR n bs root p).2.2 = 0) (hp : p < q) : (pagesTo n bs root q)[(pagesTo n bs root p).length]? = some (p, (walkR n bs root p).1) := by
  obtain ⟨s, hs⟩ := pagesTo_pre (n := n) (bs := bs) (root := root) (q - (p + 1)) (p + 1)
  rw [show p + 1 + (q - (p + 1)) = q by omega] at hs
  rw [hs, pagesTo, pl, if_pos h, List.append_assoc, List.getElem?_append_right (Nat.le_refl _), Nat.sub_self]; rfl
theorem pagesTo_yes {p : Nat} (h : (walkR n bs root p).2.2 = 0) : (pagesTo n bs root (p + 1)).length = (pagesTo n bs root p).length + 1 := by
  rw [pagesTo, pl, if_pos h]; simp
theorem pagesTo_no {p : Nat} (h : (walkR n bs root p).2.2 ≠ 0) : pagesTo n bs root (p + 1) = pagesTo n bs root p := by
  rw [pagesTo, pl, if_neg h]; simp
theorem pagesTo_same {p : Nat} : ∀ d, (∀ q, p ≤ q → q < p + d → (walkR n bs root q).2.2 ≠ 0) → pagesTo n bs root (p + d) = pagesTo n bs root p
  | 0, _ => rfl
  | d + 1, h => by
    rw [show p + (d + 1) = (p + d) + 1 by omega, pagesTo_no (h _ (by omega) (by omega))]
    exact pagesTo_same d fun q h1 h2 => h q h1 (by omega)
theorem pagesTo_none {t : Nat} (h : (secR n bs root (t * 64)).2 = false) : pagesTo n bs root ((t + 1) * 64) = pagesTo n bs root (t * 64) := by
  rw [show (t + 1) * 64 = t * 64 + 64 by omega]
  refine pagesTo_same 64 fun q h1 h2 => ?_
  have e : secR n bs root q = secR n bs root (t * 64) := by unfold secR; rw [show q / 64 = t * 64 / 64 by omega]
  unfold walkR
  rw [e, h]; simp
theorem pagesTo_lt {p q : Nat} (h : (walkR n bs root p).2.2 = 0) (hp : p < q) : (pagesTo n bs root p).length < (pagesTo n bs root q).length := by
  have := pagesTo_get (n := n) (bs := bs) (root := root) h hp
  exact (List.getElem?_eq_some_iff.1 this).1
end
/-- All pages. -/
def pages (n : Nat) (bs : List UInt8) (root : Nat) : List (Nat × Int) := pagesTo n bs root 4096
/-- What the k-th round is handed. -/
def pgEnc (l : List (Nat × Int)) (k : Nat) : List Value := [.int .i64 ((l[k]?.getD (0, 0)).1 : Nat), .int .i64 (l[k]?.getD (0, 0)).2]
theorem pgEnc_at {l : List (Nat × Int)} {k p : Nat} {f : Int} (h : l[k]? = some (p, f)) : pgEnc l k = [.int .i64 p, .int .i64 f] := by unfold pgEnc; rw [h]; rfl
/-- The boxes of Pages. -/
abbrev bxs (m bm br : Nat) (root : Int) : List HProp := [blk bm [.pointer (some ⟨m, 0, none⟩)] 24, blk br [.int .i64 root] 3]
section
variable (W0 : World) (Fr : List HProp)
theorem pages_spec {m : Nat} {root : Int} : Ctr Try.prog W0 14 [.pointer (some ⟨m, 0, none⟩), .int .i64 root] Fr (fun _ : Nat × Nat => True) (fun b => .func (.func 44) #[] #[.pointer (some ⟨b.1, 0, none⟩), .pointer (some ⟨b.2, 0, none⟩)]) (fun b => blk b.2 [.int .i64 root] 3 :: blk b.1 [.pointer (some ⟨m, 0, none⟩)] 24 :: Fr) := by
  refine Ctr.of_body Try.func14 rfl Try.ntmps14 rfl ?_
  refine CG.seq ?_
  refine CG.region ?_
  refine OG.effd (Eff.box rfl) rfl ?_
  rintro b2 -
  refine OG.effd (Eff.box rfl) rfl ?_
  rintro b3 -
  refine OG.yield (Yield.assign rfl) rfl ?_
  refine OG.nil ?_
  refine QG.then ?_
  refine CG.seq ?_
  refine CG.region ?_
  refine OG.yield (Yield.makeFunc (first := []) (cap := [.tmp 2, .tmp 3]) rfl rfl) rfl ?_
  refine OG.yield (Yield.assign rfl) rfl ?_
  refine OG.nil ?_
  refine QG.then ?_
  refine CG.ret ?_
  exact QG.ret1 rfl rfl (b2, b3) trivial rfl (Imp.refl _)
theorem pages_hit0 {m n bm br root l : Nat} {bs : List UInt8} (hr : root < n) {ι : Type} {ψ : ι → Prop} {Y : Nat → List HProp} {Z : ι → List HProp} :
    Hit Try.prog W0 44 [.pointer (some ⟨bm, 0, none⟩), .pointer (some ⟨br, 0, none⟩)] (pages n bs root).length (pgEnc (pages n bs root)) l ψ
      (fun k => M m n bs :: blk bm [.pointer (some ⟨m, 0, none⟩)] 24 :: blk br [.int .i64 root] 3 :: Y k) (fun i => M m n bs :: blk bm [.pointer (some ⟨m, 0, none⟩)] 24 :: blk br [.int .i64 root] 3 :: Z i) := by
  intro hy
  refine Ctr.of_body Try.func44 rfl Try.ntmps44 rfl ?_
  refine CG.seq ?_
  refine CG.region ?_
  refine OG.yield (Yield.move rfl) rfl ?_
  refine OG.nil ?_
  refine QG.then ?_
  refine CG.block ?_
  refine CG.loop (fun t : Nat => t ≤ 64) (fun t => [(0, yv l), (1, .pointer (some ⟨bm, 0, none⟩)), (2, .pointer (some ⟨br, 0, none⟩)), (11, .int .i64 t)]) (fun t => M m n bs :: blk bm [.pointer (some ⟨m, 0, none⟩)] 24 :: blk br [.int .i64 root] 3 :: Y (pagesTo n bs root (t * 64)).length) (fun t => 64 - t) 0 (Nat.zero_le _) (by repeat (first | exact Env.sub_nil _ | refine Env.sub_cons rfl ?_)) (Imp.refl _) ?_
  intro t ht
  refine CG.seq ?_
  refine CG.region ?_
  refine OG.yield (by first | exact Yield.as (Yield.lss rfl rfl) (bT (by omega)) | exact Yield.as (Yield.lss rfl rfl) (bF (by omega)) | exact Yield.lss rfl rfl) rfl ?_
  refine OG.nil ?_
  refine QG.then ?_
  refine CG.seq ?_
  refine CG.cond rfl (fun hc => ?_) (fun hc => ?_)
  · try replace hc := of_decide_eq_true hc
    have ht' : t < 64 := by omega
    refine CG.skip ?_
    refine QG.then ?_
    refine CG.seq ?_
    refine CG.block ?_
    refine CG.seq ?_
    refine CG.region ?_
    refine OG.yield (Yield.move rfl) rfl ?_
    refine OG.yield (Yield.assign rfl) rfl ?_
    refine OG.nil ?_
    refine QG.then ?_
    refine CG.seq ?_
    refine CG.seq ?_
    refine CG.region ?_
    refine OG.yield (Yield.load ti24 rfl (by first | exact Cel.of_blk (by repeat (first | exact Ext.here | apply Ext.there)) rfl | exact (hrow (by repeat (first | exact Ext.here | apply Ext.there))) _ _ rfl)) rfl ?_
    refine OG.yield (Yield.load ti3 rfl (by first | exact Cel.of_blk (by repeat (first | exact Ext.here | apply Ext.there)) rfl | exact (hrow (by repeat (first | exact Ext.here | apply Ext.there))) _ _ rfl)) rfl ?_
    refine OG.yield (Yield.move rfl) rfl ?_
    refine OG.yield (Yield.mul (c := ((t * 64 : Nat) : Int)) rfl rfl (by rw [w64 (by omega) (by omega)]; omega)) rfl ?_
    refine OG.callo call38 rfl (Imp.refl _) (second_spec W0 _ (m := m) (n := n) (root := root) (p := t * 64) (bs := bs) hr (by omega)) rfl ?_
    rintro ⟨⟩ -
    refine OG.yield (Yield.move rfl) rfl ?_
    refine OG.yield (Yield.extract rfl rfl) rfl ?_
    refine OG.yield (Yield.extract rfl rfl) rfl ?_
    refine OG.yield (Yield.assign rfl) rfl ?_
    refine OG.yield (Yield.assign rfl) rfl ?_
    refine OG.nil ?_
    refine QG.then ?_
    refine CG.seq ?_
    rcases hs2 : (secR n bs root (t * 64)).2
    · skip
      refine CG.region ?_
      refine OG.yield (Yield.move rfl) rfl ?_
      refine OG.yield (Yield.not rfl) rfl ?_
      refine OG.nil ?_
      refine QG.then ?_
      refine CG.cond_t rfl ?_
      refine CG.exit ?_
      refine QG.pass_exit ?_
      refine QG.block_exit ?_
      refine QG.then ?_
      refine CG.region ?_
      refine OG.yield (Yield.add rfl rfl (w64 (by omega) (by omega))) rfl ?_
      refine OG.yield (Yield.move rfl) rfl ?_
      refine OG.nil ?_
      exact QG.next (t + 1) (show t + 1 ≤ 64 by omega) (show 64 - (t + 1) < 64 - t by omega) (by repeat (first | exact Env.sub_nil _ | refine Env.sub_cons rfl ?_)) (by rw [pagesTo_none hs2]; exact Imp.refl _)
    · skip
      refine CG.region ?_
      refine OG.yield (Yield.move rfl) rfl ?_
      refine OG.yield (Yield.not rfl) rfl ?_
      refine OG.nil ?_
      refine QG.then ?_
      refine CG.cond_f rfl ?_
      refine CG.skip ?_
      refine QG.then ?_
      refine CG.seq ?_
      refine CG.region ?_
      refine OG.yield (Yield.move rfl) rfl ?_
      refine OG.yield (Yield.mul (c := ((t * 64 : Nat) : Int)) rfl rfl (by rw [w64 (by omega) (by omega)]; omega)) rfl ?_
      refine OG.yield (Yield.assign rfl) rfl ?_
      refine OG.nil ?_
      refine QG.then ?_
      refine CG.block ?_
      refine CG.loop (fun p : Nat => t * 64 ≤ p ∧ p ≤ (t + 1) * 64) (fun p => [(0, yv l), (1, .pointer (some ⟨bm, 0, none⟩)), (2, .pointer (some ⟨br, 0, none⟩)), (4, .int .i64 t), (7, .int .i64 p), (11, .int .i64 t)]) (fun p => M m n bs :: blk bm [.pointer (some ⟨m, 0, none⟩)] 24 :: blk br [.int .i64 root] 3 :: Y (pagesTo n bs root p).length) (fun p => (t + 1) * 64 - p) (t * 64) (by omega) (by repeat (first | exact Env.sub_nil _ | refine Env.sub_cons rfl ?_)) (Imp.refl _) ?_
      rintro p ⟨hp1, hp2⟩
      refine CG.seq ?_
      refine CG.seq ?_
      refine CG.region ?_
      refine OG.yield (Yield.move rfl) rfl ?_
      refine OG.yield (Yield.move rfl) rfl ?_
      refine OG.yield (Yield.add rfl rfl (w64 (by omega) (by omega))) rfl ?_
      refine OG.yield (Yield.mul rfl rfl (w64 (by omega) (by omega))) rfl ?_
      refine OG.yield (by first | exact Yield.as (Yield.lss rfl rfl) (bT (by omega)) | exact Yield.as (Yield.lss rfl rfl) (bF (by omega)) | exact Yield.lss rfl rfl) rfl ?_
      refine OG.nil ?_
      refine QG.then ?_
      refine CG.cond rfl (fun hc => ?_) (fun hc => ?_)
      · try replace hc := of_decide_eq_true hc
        have hp3 : p < (t + 1) * 64 := by omega
        refine CG.skip ?_
        refine QG.then ?_
        refine CG.seq ?_
        refine CG.block ?_
        refine CG.seq ?_
        refine CG.region ?_
        refine OG.yield (Yield.load ti24 rfl (by first | exact Cel.of_blk (by repeat (first | exact Ext.here | apply Ext.there)) rfl | exact (hrow (by repeat (first | exact Ext.here | apply Ext.there))) _ _ rfl)) rfl ?_
        refine OG.yield (Yield.load ti3 rfl (by first | exact Cel.of_blk (by repeat (first | exact Ext.here | apply Ext.there)) rfl | exact (hrow (by repeat (first | exact Ext.here | apply Ext.there))) _ _ rfl)) rfl ?_
        refine OG.yield (Yield.move rfl) rfl ?_
        refine OG.callo call13 rfl (Imp.refl _) (walk_spec W0 _ (m := m) (n := n) (root := root) (p := p) (bs := bs) hr (by omega)) rfl ?_
        rintro ⟨⟩ -
        refine OG.yield (Yield.move rfl) rfl ?_
        refine OG.yield (Yield.extract rfl rfl) rfl ?_
        refine OG.yield (Yield.extract rfl rfl) rfl ?_
        refine OG.yield (Yield.extract rfl rfl) rfl ?_
        refine OG.yield (Yield.assign rfl) rfl ?_
        refine OG.yield (Yield.assign rfl) rfl ?_
        refine OG.yield (Yield.assign rfl) rfl ?_
        refine OG.nil ?_
        refine QG.then ?_
        refine CG.seq ?_
        rcases walkR_0 (n := n) (bs := bs) (root := root) (p := p) with ⟨hw, -⟩ | hw
        · skip
          have hk := pagesTo_lt (q := 4096) hw (by omega)
          have hyk := hy _ hk
          rw [show pgEnc (pages n bs root) (pagesTo n bs root p).length = [.int .i64 p, .int .i64 (walkR n bs root p).1] from pgEnc_at (pagesTo_get hw (by omega))] at hyk
          refine CG.region ?_
          refine OG.yield (Yield.move rfl) rfl ?_
          refine OG.yield (by first | exact Yield.as (Yield.eql rfl rfl) (bT (by omega)) | exact Yield.as (Yield.eql rfl rfl) (bF (by omega)) | exact Yield.eql rfl rfl) rfl ?_
          refine OG.yield (Yield.move rfl) rfl ?_
          refine OG.guard_yes rfl rfl rfl (by decide) ?_
          refine OG.yield (Yield.move rfl) rfl ?_
          refine OG.guard_yes rfl rfl rfl (by decide) ?_
          refine OG.yield (Yield.move rfl) rfl ?_
          refine OG.guard_yes rfl rfl rfl (by decide) ?_
          refine OG.yield (Yield.move rfl) rfl ?_
          refine OG.guard_yes rfl rfl rfl (by decide) ?_
          refine OG.yieldc rfl rfl (Imp.refl _) (hyk) rfl ?_
          rintro o ho
          refine OG.guard_yes rfl rfl rfl (by decide) ?_
          refine OG.yield (Yield.not rfl) rfl ?_
          refine OG.yield (by first | exact Yield.pick_t rfl rfl | exact Yield.pick_f rfl rfl | exact Yield.pick rfl (fun _ => rfl) (fun _ => rfl)) rfl ?_
          refine OG.nil ?_
          refine QG.then ?_
          refine CG.cond rfl (fun hc => ?_) (fun hc => ?_)
          · try replace hc := of_decide_eq_true hc
            obtain ⟨i, rfl⟩ : ∃ i, o = some i := by cases o with | none => simp at hc | some i => exact ⟨i, rfl⟩
            refine CG.ret ?_
            refine QG.block_ret ?_
            refine QG.pass_ret ?_
            refine QG.pass_ret ?_
            refine QG.block_ret ?_
            refine QG.block_ret ?_
            refine QG.pass_ret ?_
            refine QG.pass_ret ?_
            refine QG.block_ret ?_
            exact QG.ret0 rfl (some i) ho rfl (Imp.refl _)
          · try replace hc := of_decide_eq_false hc
            obtain rfl : o = none := by cases o with | none => rfl | some i => simp at hc
            refine CG.skip ?_
            refine QG.block_normal ?_
            refine QG.then ?_
            refine CG.region ?_
            refine OG.yield (Yield.move rfl) rfl ?_
            refine OG.yield (Yield.add rfl rfl (w64 (by omega) (by omega))) rfl ?_
            refine OG.yield (Yield.assign rfl) rfl ?_
            refine OG.nil ?_
            exact QG.next (p + 1) (by omega) (by omega) (by repeat (first | exact Env.sub_nil _ | refine Env.sub_cons rfl ?_)) (by rw [pagesTo_yes hw]; exact Imp.refl _)
        · skip
          refine CG.region ?_
          refine OG.yield (Yield.move rfl) rfl ?_
          refine OG.yield (by first | exact Yield.as (Yield.eql rfl rfl) (bT (by omega)) | exact Yield.as (Yield.eql rfl rfl) (bF (by omega)) | exact Yield.eql rfl rfl) rfl ?_
          refine OG.yield (Yield.move rfl) rfl ?_
          refine OG.guard_no rfl rfl rfl rfl rfl (by decide) (by decide) ?_
          refine OG.guard_no rfl rfl rfl rfl rfl (by decide) (by decide) ?_
          refine OG.guard_no rfl rfl rfl rfl rfl (by decide) (by decide) ?_
          refine OG.guard_no rfl rfl rfl rfl rfl (by decide) (by decide) ?_
          refine OG.guard_no rfl rfl rfl rfl rfl (by decide) (by decide) ?_
          refine OG.yield (by first | exact Yield.pick_t rfl rfl | exact Yield.pick_f rfl rfl | exact Yield.pick rfl (fun _ => rfl) (fun _ => rfl)) rfl ?_
          refine OG.nil ?_
          refine QG.then ?_
          refine CG.cond_f rfl ?_
          refine CG.skip ?_
          refine QG.block_normal ?_
          refine QG.then ?_
          refine CG.region ?_
          refine OG.yield (Yield.move rfl) rfl ?_
          refine OG.yield (Yield.add rfl rfl (w64 (by omega) (by omega))) rfl ?_
          refine OG.yield (Yield.assign rfl) rfl ?_
          refine OG.nil ?_
          exact QG.next (p + 1) (by omega) (by omega) (by repeat (first | exact Env.sub_nil _ | refine Env.sub_cons rfl ?_)) (by rw [pagesTo_no (by rw [hw]; decide)]; exact Imp.refl _)
      · try replace hc := of_decide_eq_false hc
        refine CG.exit ?_
        refine QG.pass_exit ?_
        refine QG.pass_exit ?_
        refine QG.block_exit ?_
        refine QG.block_normal ?_
        refine QG.then ?_
        refine CG.region ?_
        refine OG.yield (Yield.add rfl rfl (w64 (by omega) (by omega))) rfl ?_
        refine OG.yield (Yield.move rfl) rfl ?_
        refine OG.nil ?_
        obtain rfl : p = (t + 1) * 64 := by omega
        exact QG.next (t + 1) (show t + 1 ≤ 64 by omega) (show 64 - (t + 1) < 64 - t by omega) (by repeat (first | exact Env.sub_nil _ | refine Env.sub_cons rfl ?_)) (Imp.refl _)
  · try replace hc := of_decide_eq_false hc
    refine CG.exit ?_
    refine QG.pass_exit ?_
    refine QG.pass_exit ?_
    refine QG.block_exit ?_
    obtain rfl : t = 64 := by omega
    exact QG.end0 rfl none trivial rfl (Imp.refl _)
end
end Go.Proofs.Ytmlfcfbblfcpdaa.Pg
