/- package page: Pages at whatever root; the document's Pages. -/
import Derived.Test.YtmlfcfbblfcpdaaPgr
namespace Go.Proofs.Ytmlfcfbblfcpdaa.Pr
open Go Go.Sl Go.RowKit Go.Proofs Go.Proofs.Ytmlfcfbblfcpdaa.T Go.Proofs.Ytmlfcfbblfcpdaa.Me Go.Proofs.Ytmlfcfbblfcpdaa.Pe Go.Proofs.Ytmlfcfbblfcpdaa.Pg
set_option linter.unusedVariables false
set_option linter.unusedSimpArgs false
set_option maxRecDepth 100000
/-- A page and its frame, as cells. -/
def seC (y : Nat × Int) : List Value := [.int .i64 y.1, .int .i64 y.2]
theorem seC_len (y : Nat × Int) : (seC y).length = 2 := rfl
theorem seC_ones (y : Nat × Int) : ∀ v ∈ seC y, one v = true := by simp [seC, one]
/-- All pages of a root that may be none. -/
def pagesI (n : Nat) (bs : List UInt8) (root : Int) : List (Nat × Int) := if 0 ≤ root ∧ root < n then pages n bs root.toNat else []
theorem pagesI_ok {n rt : Nat} {bs : List UInt8} (h : rt < n) : pagesI n bs rt = pages n bs rt := by unfold pagesI; rw [if_pos (by omega), Int.toNat_natCast]
theorem pagesI_no {n : Nat} {bs : List UInt8} {root : Int} (h : ¬(0 ≤ root ∧ root < n)) : pagesI n bs root = [] := by unfold pagesI; rw [if_neg h]
theorem pages_len {n : Nat} {bs : List UInt8} {root : Nat} : ∀ p, (pagesTo n bs root p).length ≤ p
  | 0 => Nat.le_refl _
  | p + 1 => by rw [pagesTo, pl_wk]; have := pages_len (n := n) (bs := bs) (root := root) p; cases wk n bs root p <;> simp <;> omega
theorem pagesI_len {n : Nat} {bs : List UInt8} {root : Int} : (pagesI n bs root).length ≤ 4096 := by
  unfold pagesI; split
  · exact pages_len 4096
  · simp
theorem seC_snoc (l : List (Nat × Int)) (y : Nat × Int) : ((l ++ [y]).map seC).flatten = (l.map seC).flatten ++ seC y := by simp
section
variable (W0 : World) (Fr : List HProp)
theorem rpages_spec {m n root : Nat} {bs : List UInt8} (hl : bs.length = n * 256 ∧ 1 ≤ n ∧ n ≤ 1024) (hr : root < n) : Ctr Try.prog W0 57 [.pointer (some ⟨m, 0, none⟩), .int .i64 root] (RM m n bs :: Fr) (fun _ : Option Addr × Nat => True)
    (fun q => .slice q.1 (pages n bs root).length q.2) (fun q => osl 129 2 q.1 q.2 (pages n bs root).length (((pages n bs root).map seC).flatten) :: RM m n bs :: Fr) := by
  refine Ctr.of_body Try.func57 rfl Try.ntmps57 rfl ?_
  refine CG.seq ?_
  refine CG.region ?_
  refine OG.yield (Yield.assign rfl) rfl ?_
  refine OG.nil ?_
  refine QG.then ?_
  refine CG.seq ?_
  refine CG.region ?_
  refine OG.yield (Yield.assign rfl) rfl ?_
  refine OG.nil ?_
  refine QG.then ?_
  refine CG.seq ?_
  refine CG.seq ?_
  refine CG.region ?_
  refine OG.yield (Yield.assign rfl) rfl ?_
  refine OG.nil ?_
  refine QG.then ?_
  refine CG.block ?_
  refine CG.loop (fun s : Nat × Option Addr × Nat => s.1 ≤ 4096) (fun s => [(0, .pointer (some ⟨m, 0, none⟩)), (1, .int .i64 root), (5, .slice s.2.1 (pagesTo n bs root s.1).length s.2.2), (6, .int .i64 s.1)]) (fun s => osl 129 2 s.2.1 s.2.2 (pagesTo n bs root s.1).length (((pagesTo n bs root s.1).map seC).flatten) :: RM m n bs :: Fr) (fun s => 4096 - s.1) (0, none, 0) (Nat.zero_le _) (by repeat (first | exact Env.sub_nil _ | refine Env.sub_cons rfl ?_)) osl_nil ?_
  rintro ⟨p, a, c⟩ hp
  dsimp only at hp ⊢
  refine CG.seq ?_
  refine CG.seq ?_
  refine CG.region ?_
  refine OG.yield (Yield.move rfl) rfl ?_
  refine OG.yield (by first | exact Yield.as (Yield.lss rfl rfl) (bT (by omega)) | exact Yield.as (Yield.lss rfl rfl) (bF (by omega)) | exact Yield.lss rfl rfl) rfl ?_
  refine OG.nil ?_
  refine QG.then ?_
  refine CG.cond rfl (fun hc => ?_) (fun hc => ?_)
  · try replace hc := of_decide_eq_true hc
    have hp4 : p < 4096 := by omega
    have hle := pages_len (n := n) (bs := bs) (root := root) p
    refine CG.skip ?_
    refine QG.then ?_
    refine CG.seq ?_
    refine CG.block ?_
    refine CG.seq ?_
    refine CG.region ?_
    refine OG.yield (Yield.move rfl) rfl ?_
    refine OG.yield (Yield.move rfl) rfl ?_
    refine OG.yield (Yield.move rfl) rfl ?_
    refine OG.callo call18 rfl ((by repeat (first | exact Imp.refl _ | exact Imp.none _ | apply Imp.pull (by repeat (first | exact Ext.here | apply Ext.there)) | apply Imp.trans Imp.drop))) (walk_spec W0 _ (m := m) (n := n) (root := root) (p := p) (bs := bs) hl hr hp4) rfl ?_
    rintro ⟨⟩ -
    refine OG.yield (Yield.move rfl) rfl ?_
    refine OG.yield (Yield.extract rfl rfl) rfl ?_
    refine OG.yield (Yield.extract rfl rfl) rfl ?_
    refine OG.yield (Yield.extract rfl rfl) rfl ?_
    refine OG.yield (Yield.assign rfl) rfl ?_
    refine OG.yield (Yield.assign rfl) rfl ?_
    refine OG.yield (Yield.assign rfl) rfl ?_
    refine OG.nil ?_
    refine QG.then ?_
    refine CG.seq ?_
    rcases hwk : wk n bs root p with _ | x
    · skip
      rw [walkR_none hwk]
      have e : pagesTo n bs root (p + 1) = pagesTo n bs root p := by rw [pagesTo, pl_wk, hwk, List.append_nil]
      refine CG.region ?_
      refine OG.yield (Yield.move rfl) rfl ?_
      refine OG.yield (by first | exact Yield.as (Yield.eql rfl rfl) (bT (by omega)) | exact Yield.as (Yield.eql rfl rfl) (bF (by omega)) | exact Yield.eql rfl rfl) rfl ?_
      refine OG.nil ?_
      refine QG.then ?_
      refine CG.cond_f rfl ?_
      refine CG.skip ?_
      refine QG.block_normal ?_
      refine QG.then ?_
      refine CG.region ?_
      refine OG.yield (Yield.move rfl) rfl ?_
      refine OG.yield (Yield.add rfl rfl (w64 (by omega) (by omega))) rfl ?_
      refine OG.yield (Yield.assign rfl) rfl ?_
      refine OG.nil ?_
      exact QG.next (p + 1, a, c) (show p + 1 ≤ 4096 by omega) (by simp only; omega) (by simp only [e]; exact (by repeat (first | exact Env.sub_nil _ | refine Env.sub_cons rfl ?_))) (by simp only [e]; exact (by repeat (first | exact Imp.refl _ | exact Imp.none _ | apply Imp.pull (by repeat (first | exact Ext.here | apply Ext.there)) | apply Imp.trans Imp.drop)))
    · skip
      rw [walkR_some hwk]
      have e : pagesTo n bs root (p + 1) = pagesTo n bs root p ++ [(p, (x.1 : Int))] := by rw [pagesTo, pl_wk, hwk]
      refine CG.region ?_
      refine OG.yield (Yield.move rfl) rfl ?_
      refine OG.yield (by first | exact Yield.as (Yield.eql rfl rfl) (bT (by omega)) | exact Yield.as (Yield.eql rfl rfl) (bF (by omega)) | exact Yield.eql rfl rfl) rfl ?_
      refine OG.nil ?_
      refine QG.then ?_
      refine CG.cond_t rfl ?_
      refine CG.region ?_
      refine OG.yield (Yield.move rfl) rfl ?_
      refine OG.yield (Yield.move rfl) rfl ?_
      refine OG.yield (Yield.move rfl) rfl ?_
      refine OG.yield (Yield.build (pvs := [(0, .int .i64 p), (1, .int .i64 x.1)]) bu129 ti129 rfl (cells := seC (p, (x.1 : Int))) rfl) rfl ?_
      refine OG.effd (Eff.lit [.tmp 27] (vs := [.agg (seC (p, (x.1 : Int))).toArray]) (cells := seC (p, (x.1 : Int))) Try.underlying125 ti129 rfl rfl rfl rfl (by decide) (by simp [Value.cells, seC]) (by simp [Value.cells])) rfl ?_
      rintro b28 -
      refine OG.effd (Eff.append (a := a) (c := c) (m := (pagesTo n bs root p).length) (xs := ((pagesTo n bs root p).map seC).flatten) (k := 1) (ys := seC (p, (x.1 : Int))) rfl rfl rfl Try.underlying125 Try.underlying125 ti129 rfl (by decide) (by repeat (first | exact Foc.here | apply Foc.there)) (SlR.of_osl (a := some ⟨b28, 0, none⟩) (by repeat (first | exact Ext.here | apply Ext.there))) (seC_ones _) (by omega)) rfl ?_
      rintro ⟨a29, c29⟩ -
      refine OG.yield (Yield.assign rfl) rfl ?_
      refine OG.nil ?_
      refine QG.block_normal ?_
      refine QG.then ?_
      refine CG.region ?_
      refine OG.yield (Yield.move rfl) rfl ?_
      refine OG.yield (Yield.add rfl rfl (w64 (by omega) (by omega))) rfl ?_
      refine OG.yield (Yield.assign rfl) rfl ?_
      refine OG.nil ?_
      have e2 : (pagesTo n bs root (p + 1)).length = (pagesTo n bs root p).length + 1 := by rw [e]; simp
      exact QG.next (p + 1, a29, c29) (show p + 1 ≤ 4096 by omega) (by simp only; omega) (by simp only [e2]; exact (by repeat (first | exact Env.sub_nil _ | refine Env.sub_cons rfl ?_))) (by simp only [e2]; rw [e, seC_snoc]; exact (by repeat (first | exact Imp.refl _ | exact Imp.none _ | apply Imp.pull (by repeat (first | exact Ext.here | apply Ext.there)) | apply Imp.trans Imp.drop)))
  · try replace hc := of_decide_eq_false hc
    refine CG.exit ?_
    refine QG.pass_exit ?_
    refine QG.pass_exit ?_
    refine QG.block_exit ?_
    refine QG.then ?_
    refine CG.seq ?_
    refine CG.region ?_
    refine OG.yield (Yield.move rfl) rfl ?_
    refine OG.yield (Yield.assign rfl) rfl ?_
    refine OG.nil ?_
    refine QG.then ?_
    refine CG.ret ?_
    obtain rfl : p = 4096 := by omega
    exact QG.ret1 rfl rfl (a, c) trivial rfl (Imp.refl _)
theorem slot_any {root : Int} {i : Int} : Ctr Try.prog W0 39 [.int .i64 root, .int .i64 i] Fr (fun a : Nat => a < 4294967296) (fun a => .int .u32 a) (fun _ => Fr) := by
  refine Ctr.of_body Try.func39 rfl Try.ntmps39 rfl ?_
  refine CG.seq ?_
  refine CG.region ?_
  refine OG.yield (Yield.assign rfl) rfl ?_
  refine OG.nil ?_
  refine QG.then ?_
  refine CG.seq ?_
  refine CG.region ?_
  refine OG.yield (Yield.move rfl) rfl ?_
  refine OG.yield (Yield.mul rfl rfl rfl) rfl ?_
  refine OG.yield (Yield.move rfl) rfl ?_
  refine OG.yield (Yield.mul rfl rfl rfl) rfl ?_
  refine OG.yield (Yield.add rfl rfl rfl) rfl ?_
  refine OG.yield (Yield.conv Try.underlying32 rfl rfl rfl) rfl ?_
  refine OG.yield (Yield.assign rfl) rfl ?_
  refine OG.nil ?_
  refine QG.then ?_
  refine CG.ret ?_
  refine QG.ret1 rfl rfl (IntKind.u32.wrap (IntKind.i64.wrap (IntKind.i64.wrap (root * 256) + IntKind.i64.wrap (4 * i)))).toNat ?_ ?_ (Imp.refl _)
  · have := wrap_u32_range (IntKind.i64.wrap (IntKind.i64.wrap (root * 256) + IntKind.i64.wrap (4 * i))); omega
  · have := wrap_u32_range (IntKind.i64.wrap (IntKind.i64.wrap (root * 256) + IntKind.i64.wrap (4 * i))); rw [Int.toNat_of_nonneg this.1]
theorem load_any {m n a : Nat} {bs : List UInt8} (ha : a < 4294967296) : Ctr Try.prog W0 69 [.pointer (some ⟨m, 0, none⟩), .int .u32 a, .int .i64 4] (M m n bs :: Fr) (fun x : Nat × Int => x.1 < 4294967296) (fun x => .tuple #[.int .u64 x.1, .int .i64 x.2]) (fun _ => M m n bs :: Fr) := by
  rcases merr_cases n a 4 with ⟨k, hk, hk4, hk5, hk6, -⟩ | hbad
  · obtain rfl : k = 4 := by omega
    have hlt : leN ((bs.drop a).take 4) < 4294967296 := by
      have h := leN_lt ((bs.drop a).take 4)
      have h2 : ((bs.drop a).take 4).length ≤ 4 := by rw [List.length_take]; omega
      exact Nat.lt_of_lt_of_le h (Nat.pow_le_pow_right (by decide) (by omega) : 2 ^ (8 * ((bs.drop a).take 4).length) ≤ 2 ^ 32)
    exact (load_ok W0 _ (m := m) (n := n) (a := a) (s := 4) (bs := bs) (by omega) hk5 (by omega)).to (fun _ => (leN ((bs.drop a).take 4), 0)) (fun _ _ => hlt) (fun _ => rfl) (fun _ => Imp.refl _)
  · exact (load_bad W0 _ (m := m) (n := n) (a := a) (s := 4) (bs := bs) ha hbad).to (fun _ => (0, merr n a 4)) (fun _ _ => (show 0 < 4294967296 by decide)) (fun _ => rfl) (fun _ => Imp.refl _)
theorem read_any {m n : Nat} {root i : Int} {bs : List UInt8} : Ctr Try.prog W0 43 [.pointer (some ⟨m, 0, none⟩), .int .i64 root, .int .i64 i] (M m n bs :: Fr) (fun _ : Int × Int × Bool => True) (fun x => .tuple #[.int .i64 x.1, .int .i64 x.2.1, .bool x.2.2]) (fun _ => M m n bs :: Fr) := by
  refine Ctr.of_body Try.func43 rfl Try.ntmps43 rfl ?_
  refine CG.seq ?_
  refine CG.region ?_
  refine OG.yield (Yield.assign rfl) rfl ?_
  refine OG.yield (Yield.assign rfl) rfl ?_
  refine OG.yield (Yield.assign rfl) rfl ?_
  refine OG.nil ?_
  refine QG.then ?_
  refine CG.seq ?_
  refine CG.region ?_
  refine OG.yield (Yield.move rfl) rfl ?_
  refine OG.yield (Yield.move rfl) rfl ?_
  refine OG.yield (Yield.move rfl) rfl ?_
  refine OG.callo call39 rfl (Imp.refl _) (slot_any W0 _ (root := root) (i := i)) rfl ?_
  rintro a ha
  refine OG.callo call69 rfl (Imp.refl _) (load_any W0 _ (m := m) (n := n) (a := a) (bs := bs) ha) rfl ?_
  rintro ⟨wd, er⟩ hwd
  dsimp only at hwd ⊢
  refine OG.yield (Yield.move rfl) rfl ?_
  refine OG.yield (Yield.extract rfl rfl) rfl ?_
  refine OG.yield (Yield.extract rfl rfl) rfl ?_
  refine OG.yield (Yield.assign rfl) rfl ?_
  refine OG.yield (Yield.assign rfl) rfl ?_
  refine OG.nil ?_
  refine QG.then ?_
  refine CG.seq ?_
  refine CG.seq ?_
  refine CG.region ?_
  refine OG.yield (Yield.move rfl) rfl ?_
  refine OG.yield (Yield.neq rfl rfl) rfl ?_
  refine OG.nil ?_
  refine QG.then ?_
  refine CG.cond rfl (fun hc => ?_) (fun hc => ?_)
  · try replace hc := of_decide_eq_true hc
    refine CG.seq ?_
    refine CG.region ?_
    refine OG.yield (Yield.assign rfl) rfl ?_
    refine OG.yield (Yield.assign rfl) rfl ?_
    refine OG.yield (Yield.assign rfl) rfl ?_
    refine OG.nil ?_
    refine QG.then ?_
    refine CG.ret ?_
    refine QG.pass_ret ?_
    exact QG.rets [.int .i64 0, .int .i64 0, .bool false] rfl ⟨rfl, rfl, rfl, trivial⟩ (0, 0, false) trivial rfl (Imp.refl _)
  · try replace hc := of_decide_eq_false hc
    refine CG.skip ?_
    refine QG.then ?_
    refine CG.seq ?_
    refine CG.region ?_
    refine OG.yield (Yield.move rfl) rfl ?_
    refine OG.yield (Yield.conv (c := (wd : Int)) Try.underlying32 rfl rfl (wu32 (by omega) (by omega))) rfl ?_
    refine OG.callo call77 rfl (Imp.refl _) (split_spec W0 _ (wd : Int) (by omega) (by omega)) rfl ?_
    rintro ⟨⟩ -
    rw [split_sp]
    refine OG.yield (Yield.extract rfl rfl) rfl ?_
    refine OG.yield (Yield.extract rfl rfl) rfl ?_
    refine OG.yield (Yield.extract rfl rfl) rfl ?_
    refine OG.yield (Yield.assign rfl) rfl ?_
    refine OG.yield (Yield.assign rfl) rfl ?_
    refine OG.yield (Yield.assign rfl) rfl ?_
    refine OG.nil ?_
    refine QG.then ?_
    refine CG.ret ?_
    exact QG.rets [.int .i64 (sp wd).1, .int .i64 (sp wd).2.1, .bool (sp wd).2.2] rfl ⟨rfl, rfl, rfl, trivial⟩ ((sp wd).1, (sp wd).2.1, (sp wd).2.2) trivial rfl (Imp.refl _)
theorem second_any {m n p : Nat} {root : Int} {bs : List UInt8} (hp : p < 4096) : Ctr Try.prog W0 38 [.pointer (some ⟨m, 0, none⟩), .int .i64 root, .int .i64 p] (M m n bs :: Fr) (fun _ : Int × Bool => True) (fun x => .tuple #[.int .i64 x.1, .bool x.2]) (fun _ => M m n bs :: Fr) := by
  refine Ctr.of_body Try.func38 rfl Try.ntmps38 rfl ?_
  refine CG.seq ?_
  refine CG.region ?_
  refine OG.yield (Yield.assign rfl) rfl ?_
  refine OG.yield (Yield.assign rfl) rfl ?_
  refine OG.nil ?_
  refine QG.then ?_
  refine CG.seq ?_
  refine CG.region ?_
  refine OG.yield (Yield.move rfl) rfl ?_
  refine OG.yield (Yield.move rfl) rfl ?_
  refine OG.yield (Yield.move rfl) rfl ?_
  refine OG.yield (Yield.quo (c := ((p / 64 : Nat) : Int)) rfl rfl (by decide) (quo_nat (b := 64) (by decide) (by omega))) rfl ?_
  refine OG.callo call43 rfl (Imp.refl _) (read_any W0 _ (m := m) (n := n) (root := root) (i := ((p / 64 : Nat) : Int)) (bs := bs)) rfl ?_
  rintro ⟨x1, x2, x3⟩ -
  dsimp only
  refine OG.yield (Yield.move rfl) rfl ?_
  refine OG.yield (Yield.extract rfl rfl) rfl ?_
  refine OG.yield (Yield.extract rfl rfl) rfl ?_
  refine OG.yield (Yield.extract rfl rfl) rfl ?_
  refine OG.yield (Yield.assign rfl) rfl ?_
  refine OG.yield (Yield.assign rfl) rfl ?_
  refine OG.yield (Yield.assign rfl) rfl ?_
  refine OG.nil ?_
  refine QG.then ?_
  refine CG.seq ?_
  cases x3
  · skip
    refine CG.region ?_
    refine OG.yield (Yield.move rfl) rfl ?_
    refine OG.yield (Yield.move rfl) rfl ?_
    refine OG.yield (Yield.move rfl) rfl ?_
    refine OG.guard_no rfl rfl rfl rfl rfl (by decide) (by decide) ?_
    refine OG.guard_no rfl rfl rfl rfl rfl (by decide) (by decide) ?_
    refine OG.guard_no rfl rfl rfl rfl rfl (by decide) (by decide) ?_
    refine OG.yield (by first | exact Yield.pick_t rfl rfl | exact Yield.pick_f rfl rfl | exact Yield.pick rfl (fun _ => rfl) (fun _ => rfl)) rfl ?_
    refine OG.yield (Yield.assign rfl) rfl ?_
    refine OG.yield (Yield.assign rfl) rfl ?_
    refine OG.nil ?_
    refine QG.then ?_
    refine CG.ret ?_
    exact QG.ret2 rfl rfl rfl (x1, false) trivial rfl (Imp.refl _)
  · skip
    refine CG.region ?_
    refine OG.yield (Yield.move rfl) rfl ?_
    refine OG.yield (Yield.move rfl) rfl ?_
    refine OG.yield (Yield.move rfl) rfl ?_
    refine OG.guard_yes rfl rfl rfl (by decide) ?_
    refine OG.yield (Yield.move rfl) rfl ?_
    refine OG.guard_yes rfl rfl rfl (by decide) ?_
    refine OG.yield (Yield.move rfl) rfl ?_
    refine OG.guard_yes rfl rfl rfl (by decide) ?_
    refine OG.callo call40 rfl (Imp.refl _) (has_spec W0 _ (m := m) (n := n) (bs := bs) x1) rfl ?_
    rintro ⟨⟩ -
    refine OG.yield (by first | exact Yield.pick_t rfl rfl | exact Yield.pick_f rfl rfl | exact Yield.pick rfl (fun _ => rfl) (fun _ => rfl)) rfl ?_
    refine OG.yield (Yield.assign rfl) rfl ?_
    refine OG.yield (Yield.assign rfl) rfl ?_
    refine OG.nil ?_
    refine QG.then ?_
    refine CG.ret ?_
    exact QG.ret2 rfl rfl rfl (x1, decide (0 ≤ x1 ∧ x1 < (n : Int))) trivial rfl (Imp.refl _)
theorem pages_hitN {m n bm br l : Nat} {root : Int} {bs : List UInt8} (hr : ¬(0 ≤ root ∧ root < n)) {ι : Type} {ψ : ι → Prop} {enc : Nat → List Value} {Y : Nat → List HProp} {Z : ι → List HProp} :
    Hit Try.prog W0 44 [.pointer (some ⟨bm, 0, none⟩), .pointer (some ⟨br, 0, none⟩)] 0 enc l ψ
      (fun k => M m n bs :: blk bm [.pointer (some ⟨m, 0, none⟩)] 24 :: blk br [.int .i64 root] 3 :: Y k) (fun i => M m n bs :: blk bm [.pointer (some ⟨m, 0, none⟩)] 24 :: blk br [.int .i64 root] 3 :: Z i) := by
  intro hy
  refine Ctr.of_body Try.func44 rfl Try.ntmps44 rfl ?_
  refine CG.seq ?_
  refine CG.region ?_
  refine OG.yield (Yield.move rfl) rfl ?_
  refine OG.nil ?_
  refine QG.then ?_
  refine CG.block ?_
  refine CG.loop (fun t : Nat => t ≤ 64) (fun t => [(0, yv l), (1, .pointer (some ⟨bm, 0, none⟩)), (2, .pointer (some ⟨br, 0, none⟩)), (11, .int .i64 t)]) (fun t => M m n bs :: blk bm [.pointer (some ⟨m, 0, none⟩)] 24 :: blk br [.int .i64 root] 3 :: Y 0) (fun t => 64 - t) 0 (Nat.zero_le _) (by repeat (first | exact Env.sub_nil _ | refine Env.sub_cons rfl ?_)) (Imp.refl _) ?_
  intro t ht
  refine CG.seq ?_
  refine CG.region ?_
  refine OG.yield (by first | exact Yield.as (Yield.lss rfl rfl) (bT (by omega)) | exact Yield.as (Yield.lss rfl rfl) (bF (by omega)) | exact Yield.lss rfl rfl) rfl ?_
  refine OG.nil ?_
  refine QG.then ?_
  refine CG.seq ?_
  refine CG.cond rfl (fun hc => ?_) (fun hc => ?_)
  · try replace hc := of_decide_eq_true hc
    have ht' : t < 64 := by omega
    refine CG.skip ?_
    refine QG.then ?_
    refine CG.seq ?_
    refine CG.block ?_
    refine CG.seq ?_
    refine CG.region ?_
    refine OG.yield (Yield.move rfl) rfl ?_
    refine OG.yield (Yield.assign rfl) rfl ?_
    refine OG.nil ?_
    refine QG.then ?_
    refine CG.seq ?_
    refine CG.seq ?_
    refine CG.region ?_
    refine OG.yield (Yield.load ti24 rfl (by first | exact Cel.of_blk (by repeat (first | exact Ext.here | apply Ext.there)) rfl | exact (hrow (by repeat (first | exact Ext.here | apply Ext.there))) _ _ rfl)) rfl ?_
    refine OG.yield (Yield.load ti3 rfl (by first | exact Cel.of_blk (by repeat (first | exact Ext.here | apply Ext.there)) rfl | exact (hrow (by repeat (first | exact Ext.here | apply Ext.there))) _ _ rfl)) rfl ?_
    refine OG.yield (Yield.move rfl) rfl ?_
    refine OG.yield (Yield.mul (c := ((t * 64 : Nat) : Int)) rfl rfl (by rw [w64 (by omega) (by omega)]; omega)) rfl ?_
    refine OG.callo call38 rfl (Imp.refl _) (second_any W0 _ (m := m) (n := n) (root := root) (p := t * 64) (bs := bs) (by omega)) rfl ?_
    rintro ⟨x1, x2⟩ -
    dsimp only
    refine OG.yield (Yield.move rfl) rfl ?_
    refine OG.yield (Yield.extract rfl rfl) rfl ?_
    refine OG.yield (Yield.extract rfl rfl) rfl ?_
    refine OG.yield (Yield.assign rfl) rfl ?_
    refine OG.yield (Yield.assign rfl) rfl ?_
    refine OG.nil ?_
    refine QG.then ?_
    refine CG.seq ?_
    cases x2
    · skip
      refine CG.region ?_
      refine OG.yield (Yield.move rfl) rfl ?_
      refine OG.yield (Yield.not rfl) rfl ?_
      refine OG.nil ?_
      refine QG.then ?_
      refine CG.cond_t rfl ?_
      refine CG.exit ?_
      refine QG.pass_exit ?_
      refine QG.block_exit ?_
      refine QG.then ?_
      refine CG.region ?_
      refine OG.yield (Yield.add rfl rfl (w64 (by omega) (by omega))) rfl ?_
      refine OG.yield (Yield.move rfl) rfl ?_
      refine OG.nil ?_
      exact QG.next (t + 1) (show t + 1 ≤ 64 by omega) (show 64 - (t + 1) < 64 - t by omega) (by repeat (first | exact Env.sub_nil _ | refine Env.sub_cons rfl ?_)) (Imp.refl _)
    · skip
      refine CG.region ?_
      refine OG.yield (Yield.move rfl) rfl ?_
      refine OG.yield (Yield.not rfl) rfl ?_
      refine OG.nil ?_
      refine QG.then ?_
      refine CG.cond_f rfl ?_
      refine CG.skip ?_
      refine QG.then ?_
      refine CG.seq ?_
      refine CG.region ?_
      refine OG.yield (Yield.move rfl) rfl ?_
      refine OG.yield (Yield.mul (c := ((t * 64 : Nat) : Int)) rfl rfl (by rw [w64 (by omega) (by omega)]; omega)) rfl ?_
      refine OG.yield (Yield.assign rfl) rfl ?_
      refine OG.nil ?_
      refine QG.then ?_
      refine CG.block ?_
      refine CG.loop (fun p : Nat => t * 64 ≤ p ∧ p ≤ (t + 1) * 64) (fun p => [(0, yv l), (1, .pointer (some ⟨bm, 0, none⟩)), (2, .pointer (some ⟨br, 0, none⟩)), (4, .int .i64 t), (7, .int .i64 p), (11, .int .i64 t)]) (fun p => M m n bs :: blk bm [.pointer (some ⟨m, 0, none⟩)] 24 :: blk br [.int .i64 root] 3 :: Y 0) (fun p => (t + 1) * 64 - p) (t * 64) (by omega) (by repeat (first | exact Env.sub_nil _ | refine Env.sub_cons rfl ?_)) (Imp.refl _) ?_
      rintro p ⟨hp1, hp2⟩
      refine CG.seq ?_
      refine CG.seq ?_
      refine CG.region ?_
      refine OG.yield (Yield.move rfl) rfl ?_
      refine OG.yield (Yield.move rfl) rfl ?_
      refine OG.yield (Yield.add rfl rfl (w64 (by omega) (by omega))) rfl ?_
      refine OG.yield (Yield.mul rfl rfl (w64 (by omega) (by omega))) rfl ?_
      refine OG.yield (by first | exact Yield.as (Yield.lss rfl rfl) (bT (by omega)) | exact Yield.as (Yield.lss rfl rfl) (bF (by omega)) | exact Yield.lss rfl rfl) rfl ?_
      refine OG.nil ?_
      refine QG.then ?_
      refine CG.cond rfl (fun hc => ?_) (fun hc => ?_)
      · try replace hc := of_decide_eq_true hc
        have hp3 : p < (t + 1) * 64 := by omega
        refine CG.skip ?_
        refine QG.then ?_
        refine CG.seq ?_
        refine CG.block ?_
        refine CG.seq ?_
        refine CG.region ?_
        refine OG.yield (Yield.load ti24 rfl (by first | exact Cel.of_blk (by repeat (first | exact Ext.here | apply Ext.there)) rfl | exact (hrow (by repeat (first | exact Ext.here | apply Ext.there))) _ _ rfl)) rfl ?_
        refine OG.yield (Yield.load ti3 rfl (by first | exact Cel.of_blk (by repeat (first | exact Ext.here | apply Ext.there)) rfl | exact (hrow (by repeat (first | exact Ext.here | apply Ext.there))) _ _ rfl)) rfl ?_
        refine OG.yield (Yield.move rfl) rfl ?_
        refine OG.callo call13 rfl (Imp.refl _) (Pg.walk_bad W0 _ (m := m) (n := n) (root := root) (p := (p : Int)) (bs := bs) (.inl hr)) rfl ?_
        rintro ⟨⟩ -
        refine OG.yield (Yield.move rfl) rfl ?_
        refine OG.yield (Yield.extract rfl rfl) rfl ?_
        refine OG.yield (Yield.extract rfl rfl) rfl ?_
        refine OG.yield (Yield.extract rfl rfl) rfl ?_
        refine OG.yield (Yield.assign rfl) rfl ?_
        refine OG.yield (Yield.assign rfl) rfl ?_
        refine OG.yield (Yield.assign rfl) rfl ?_
        refine OG.nil ?_
        refine QG.then ?_
        refine CG.seq ?_
        refine CG.region ?_
        refine OG.yield (Yield.move rfl) rfl ?_
        refine OG.yield (by first | exact Yield.as (Yield.eql rfl rfl) (bT (by omega)) | exact Yield.as (Yield.eql rfl rfl) (bF (by omega)) | exact Yield.eql rfl rfl) rfl ?_
        refine OG.yield (Yield.move rfl) rfl ?_
        refine OG.guard_no rfl rfl rfl rfl rfl (by decide) (by decide) ?_
        refine OG.guard_no rfl rfl rfl rfl rfl (by decide) (by decide) ?_
        refine OG.guard_no rfl rfl rfl rfl rfl (by decide) (by decide) ?_
        refine OG.guard_no rfl rfl rfl rfl rfl (by decide) (by decide) ?_
        refine OG.guard_no rfl rfl rfl rfl rfl (by decide) (by decide) ?_
        refine OG.yield (by first | exact Yield.pick_t rfl rfl | exact Yield.pick_f rfl rfl | exact Yield.pick rfl (fun _ => rfl) (fun _ => rfl)) rfl ?_
        refine OG.nil ?_
        refine QG.then ?_
        refine CG.cond_f rfl ?_
        refine CG.skip ?_
        refine QG.block_normal ?_
        refine QG.then ?_
        refine CG.region ?_
        refine OG.yield (Yield.move rfl) rfl ?_
        refine OG.yield (Yield.add rfl rfl (w64 (by omega) (by omega))) rfl ?_
        refine OG.yield (Yield.assign rfl) rfl ?_
        refine OG.nil ?_
        exact QG.next (p + 1) (by omega) (by omega) (by repeat (first | exact Env.sub_nil _ | refine Env.sub_cons rfl ?_)) (Imp.refl _)
      · try replace hc := of_decide_eq_false hc
        refine CG.exit ?_
        refine QG.pass_exit ?_
        refine QG.pass_exit ?_
        refine QG.block_exit ?_
        refine QG.block_normal ?_
        refine QG.then ?_
        refine CG.region ?_
        refine OG.yield (Yield.add rfl rfl (w64 (by omega) (by omega))) rfl ?_
        refine OG.yield (Yield.move rfl) rfl ?_
        refine OG.nil ?_
        exact QG.next (t + 1) (show t + 1 ≤ 64 by omega) (show 64 - (t + 1) < 64 - t by omega) (by repeat (first | exact Env.sub_nil _ | refine Env.sub_cons rfl ?_)) (Imp.refl _)
  · try replace hc := of_decide_eq_false hc
    refine CG.exit ?_
    refine QG.pass_exit ?_
    refine QG.pass_exit ?_
    refine QG.block_exit ?_
    exact QG.end0 rfl none trivial rfl (Imp.refl _)
theorem pages_hitI {m n bm br l : Nat} {root : Int} {bs : List UInt8} {ι : Type} {ψ : ι → Prop} {Y : Nat → List HProp} {Z : ι → List HProp} :
    Hit Try.prog W0 44 [.pointer (some ⟨bm, 0, none⟩), .pointer (some ⟨br, 0, none⟩)] (pagesI n bs root).length (pgEnc (pagesI n bs root)) l ψ
      (fun k => M m n bs :: blk bm [.pointer (some ⟨m, 0, none⟩)] 24 :: blk br [.int .i64 root] 3 :: Y k) (fun i => M m n bs :: blk bm [.pointer (some ⟨m, 0, none⟩)] 24 :: blk br [.int .i64 root] 3 :: Z i) := by
  by_cases h : 0 ≤ root ∧ root < n
  · obtain ⟨rt, rfl⟩ := Int.eq_ofNat_of_zero_le h.1
    rw [pagesI_ok (by omega)]
    exact pages_hit0 W0 (by omega)
  · rw [pagesI_no h]
    exact pages_hitN W0 h
end
end Go.Proofs.Ytmlfcfbblfcpdaa.Pr
