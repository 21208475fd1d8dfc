/- A part of what the last text stands on: rules for steps of the model, and what functions of the program do. -/
import Derived.Test.YtmlfcfbblfcpdaaGreatAll3
set_option linter.unusedSimpArgs false
set_option linter.unusedVariables false
/- Images: what load.Check and the document's Check answer. -/
namespace Go.Proofs.YtmlfcfbblfcpdaaGreat.Sp
open Go Go.Sl Go.RowKit Go.Proofs Go.Proofs.YtmlfcfbblfcpdaaGreat.T
set_option maxRecDepth 100000
/-- A section's last page. -/
def endS (s : SSec) : Int := s.Page + ((s.Bytes.length : Int) - 1) / 256
/-- A section whose fields may not stand. -/
abbrev badS (s : SSec) : Prop := s.Page < 0 ∨ 4096 ≤ s.Page ∨ s.Perm < 1 ∨ 7 < s.Perm ∨ s.Bytes.length = 0
/-- What is wrong with a section; total: how many bytes there are with it. -/
def sectE (s : SSec) (total last : Int) : Int := if badS s then 6 else if 16384 < total then 9 else if 4096 ≤ endS s then 2 else if s.Page ≤ last then 140 else 0
/-- What is wrong with the sections behind some others. -/
def chkL : List SSec → Int → Int → Int
  | [], _, _ => 0
  | s :: l, total, last => if sectE s (total + s.Bytes.length) last = 0 then chkL l (total + s.Bytes.length) (endS s) else sectE s (total + s.Bytes.length) last
/-- What is wrong with an image. -/
def chk (en : Int) (l : List SSec) : Int := if en % 4 ≠ 0 ∨ 1048576 ≤ en then 6 else if 16 < l.length then 9 else chkL l 0 (-1)
theorem sectE_ok {s : SSec} {total last : Int} (h : sectE s total last = 0) : ¬ badS s ∧ total ≤ 16384 ∧ endS s < 4096 ∧ last < s.Page := by
  unfold sectE at h
  split at h
  · cases h
  · split at h
    · cases h
    · split at h
      · cases h
      · split at h
        · cases h
        · rename_i h1 h2 h3 h4
          exact ⟨h1, by omega, by omega, by omega⟩
section
variable (W0 : World) (Fr : List HProp)
theorem end_spec {s : SSec} (h1 : 0 ≤ s.Page) (h2 : s.Page < 4096) (h3 : 0 < s.Bytes.length) (h4 : s.Bytes.length ≤ reachBytes) : Ctr Tryz.prog W0 91 [.agg s.cells.toArray] Fr (fun _ : Unit => True) (fun _ => .int .i64 (endS s)) (fun _ => Fr) := by
  unfold reachBytes at h4
  refine Ctr.of_body Tryz.func91 rfl Tryz.ntmps91 rfl ?_
  refine CG.seq ?_
  refine CG.region ?_
  refine OG.effd (Eff.box rfl) rfl ?_
  rintro b1 -
  refine OG.sg rfl rfl ?_
  refine OG.nil ?_
  refine QG.then ?_
  refine CG.seq ?_
  refine CG.region ?_
  refine OG.yield (Yield.fieldAddr fa82_0 rfl) rfl ?_
  refine OG.yield (Yield.loadA ti3 rfl) rfl ?_
  refine OG.yield (Yield.fieldAddr fa82_2 rfl) rfl ?_
  refine OG.yield (Yield.loadA ti32 rfl) rfl ?_
  refine OG.yield (Yield.len_slice Tryz.underlying32 rfl rfl) rfl ?_
  refine OG.yield (Yield.sub rfl rfl (w64 (by omega) (by omega))) rfl ?_
  refine OG.yield (Yield.quo rfl rfl (by omega) (tdiv_pos (by omega) (by omega) (by omega))) rfl ?_
  refine OG.yield (Yield.add rfl rfl (w64 (by omega) (by omega))) rfl ?_
  refine OG.sg rfl rfl ?_
  refine OG.nil ?_
  refine QG.then ?_
  refine CG.ret ?_
  exact QG.ret1 rfl rfl () trivial rfl iM
theorem last_spec {s : SSec} (h1 : 0 ≤ s.Page) (h2 : s.Page < 4096) (h3 : 0 < s.Bytes.length) (h4 : s.Bytes.length ≤ reachBytes) : Ctr Tryz.prog W0 58 [.agg s.cells.toArray] Fr (fun _ : Unit => True) (fun _ => .int .i64 (endS s)) (fun _ => Fr) := by
  unfold reachBytes at h4
  refine Ctr.of_body Tryz.func58 rfl Tryz.ntmps58 rfl ?_
  refine CG.seq ?_
  refine CG.region ?_
  refine OG.effd (Eff.box rfl) rfl ?_
  rintro b1 -
  refine OG.sg rfl rfl ?_
  refine OG.nil ?_
  refine QG.then ?_
  refine CG.seq ?_
  refine CG.region ?_
  refine OG.yield (Yield.fieldAddr fa82_0 rfl) rfl ?_
  refine OG.yield (Yield.loadA ti3 rfl) rfl ?_
  refine OG.yield (Yield.fieldAddr fa82_2 rfl) rfl ?_
  refine OG.yield (Yield.loadA ti32 rfl) rfl ?_
  refine OG.yield (Yield.len_slice Tryz.underlying32 rfl rfl) rfl ?_
  refine OG.yield (Yield.add rfl rfl (w64 (by omega) (by omega))) rfl ?_
  refine OG.yield (Yield.quo rfl rfl (by omega) (tdiv_pos (by omega) (by omega) (by omega))) rfl ?_
  refine OG.yield (Yield.add rfl rfl (w64 (by omega) (by omega))) rfl ?_
  refine OG.yield (Yield.sub rfl rfl (w64 (by omega) (by omega))) rfl ?_
  refine OG.sg rfl rfl ?_
  refine OG.nil ?_
  refine QG.then ?_
  refine CG.ret ?_
  exact QG.ret1 rfl rfl () trivial (by congr 1; unfold endS; omega) iM
set_option maxHeartbeats 1000000 in
theorem section_spec {s : SSec} {total last : Int} (ht0 : 0 ≤ total) (ht1 : total ≤ 16384) (h4 : s.Bytes.length ≤ reachBytes) : Ctr Tryz.prog W0 90 [.agg s.cells.toArray, .int .i64 total, .int .i64 last] Fr (fun _ : Unit => True) (fun _ => .int .i64 (sectE s (total + s.Bytes.length) last)) (fun _ => Fr) := by
  have h5 := h4
  unfold reachBytes at h5
  refine Ctr.of_body Tryz.func90 rfl Tryz.ntmps90 rfl ?_
  refine CG.seq ?_
  refine CG.region ?_
  refine OG.effd (Eff.box rfl) rfl ?_
  rintro b3 -
  refine OG.sg rfl rfl ?_
  refine OG.nil ?_
  refine QG.then ?_
  refine CG.seq ?_
  refine CG.block ?_
  refine CG.seq ?_
  refine CG.seq ?_
  rcases (show s.Page < 0 ∨ (0 ≤ s.Page ∧ 4096 ≤ s.Page) ∨ (0 ≤ s.Page ∧ s.Page < 4096 ∧ s.Perm < 1) ∨ (0 ≤ s.Page ∧ s.Page < 4096 ∧ 1 ≤ s.Perm ∧ 7 < s.Perm) ∨ (0 ≤ s.Page ∧ s.Page < 4096 ∧ 1 ≤ s.Perm ∧ s.Perm ≤ 7 ∧ s.Bytes.length = 0) ∨ (0 ≤ s.Page ∧ s.Page < 4096 ∧ 1 ≤ s.Perm ∧ s.Perm ≤ 7 ∧ 0 < s.Bytes.length ∧ 16384 < total + s.Bytes.length) ∨ (0 ≤ s.Page ∧ s.Page < 4096 ∧ 1 ≤ s.Perm ∧ s.Perm ≤ 7 ∧ 0 < s.Bytes.length ∧ ¬ 16384 < total + s.Bytes.length ∧ 4096 ≤ endS s) ∨ (0 ≤ s.Page ∧ s.Page < 4096 ∧ 1 ≤ s.Perm ∧ s.Perm ≤ 7 ∧ 0 < s.Bytes.length ∧ ¬ 16384 < total + s.Bytes.length ∧ ¬ 4096 ≤ endS s ∧ s.Page ≤ last) ∨ (0 ≤ s.Page ∧ s.Page < 4096 ∧ 1 ≤ s.Perm ∧ s.Perm ≤ 7 ∧ 0 < s.Bytes.length ∧ ¬ 16384 < total + s.Bytes.length ∧ ¬ 4096 ≤ endS s ∧ ¬ s.Page ≤ last) by omega) with hh | hh | hh | hh | hh | hh | hh | hh | hh
  · skip
    rw [show sectE s (total + s.Bytes.length) last = 6 by unfold sectE; rw [if_pos (by unfold badS; omega)]]
    refine CG.region ?_
    refine OG.yield (Yield.fieldAddr fa82_0 rfl) rfl ?_
    refine OG.yield (Yield.loadA ti3 rfl) rfl ?_
    refine OG.yield Yield.lssA rfl ?_
    refine OG.mv rfl rfl ?_
    refine OG.gn rfl rfl rfl rfl rfl ?_
    refine OG.gn rfl rfl rfl rfl rfl ?_
    refine OG.gn rfl rfl rfl rfl rfl ?_
    refine OG.yield Yield.pickA rfl ?_
    refine OG.sg rfl rfl ?_
    refine OG.nil ?_
    refine QG.then ?_
    refine CG.cond_t rfl ?_
    refine CG.skip ?_
    refine QG.then ?_
    refine CG.cond_t rfl ?_
    refine CG.seq ?_
    refine CG.region ?_
    refine OG.sg rfl rfl ?_
    refine OG.nil ?_
    refine QG.then ?_
    refine CG.ret ?_
    refine QG.block_ret ?_
    refine QG.pass_ret ?_
    exact QG.ret1 rfl rfl () trivial rfl iM
  · skip
    rw [show sectE s (total + s.Bytes.length) last = 6 by unfold sectE; rw [if_pos (by unfold badS; omega)]]
    refine CG.region ?_
    refine OG.yield (Yield.fieldAddr fa82_0 rfl) rfl ?_
    refine OG.yield (Yield.loadA ti3 rfl) rfl ?_
    refine OG.yield Yield.lssA rfl ?_
    refine OG.mv rfl rfl ?_
    refine OG.gy rfl rfl rfl ?_
    refine OG.yield (Yield.fieldAddr fa82_0 rfl) rfl ?_
    refine OG.gy rfl rfl rfl ?_
    refine OG.yield (Yield.loadA ti3 rfl) rfl ?_
    refine OG.gy rfl rfl rfl ?_
    refine OG.yield Yield.geqA rfl ?_
    refine OG.yield Yield.pickA rfl ?_
    refine OG.sg rfl rfl ?_
    refine OG.nil ?_
    refine QG.then ?_
    refine CG.cond_t rfl ?_
    refine CG.skip ?_
    refine QG.then ?_
    refine CG.cond_t rfl ?_
    refine CG.seq ?_
    refine CG.region ?_
    refine OG.sg rfl rfl ?_
    refine OG.nil ?_
    refine QG.then ?_
    refine CG.ret ?_
    refine QG.block_ret ?_
    refine QG.pass_ret ?_
    exact QG.ret1 rfl rfl () trivial rfl iM
  · skip
    rw [show sectE s (total + s.Bytes.length) last = 6 by unfold sectE; rw [if_pos (by unfold badS; omega)]]
    refine CG.region ?_
    refine OG.yield (Yield.fieldAddr fa82_0 rfl) rfl ?_
    refine OG.yield (Yield.loadA ti3 rfl) rfl ?_
    refine OG.yield Yield.lssA rfl ?_
    refine OG.mv rfl rfl ?_
    refine OG.gy rfl rfl rfl ?_
    refine OG.yield (Yield.fieldAddr fa82_0 rfl) rfl ?_
    refine OG.gy rfl rfl rfl ?_
    refine OG.yield (Yield.loadA ti3 rfl) rfl ?_
    refine OG.gy rfl rfl rfl ?_
    refine OG.yield Yield.geqA rfl ?_
    refine OG.yield Yield.pickA rfl ?_
    refine OG.sg rfl rfl ?_
    refine OG.nil ?_
    refine QG.then ?_
    refine CG.cond_f rfl ?_
    refine CG.seq ?_
    refine CG.region ?_
    refine OG.yield (Yield.fieldAddr fa82_1 rfl) rfl ?_
    refine OG.yield (Yield.loadA ti3 rfl) rfl ?_
    refine OG.yield Yield.lssA rfl ?_
    refine OG.mv rfl rfl ?_
    refine OG.gn rfl rfl rfl rfl rfl ?_
    refine OG.gn rfl rfl rfl rfl rfl ?_
    refine OG.gn rfl rfl rfl rfl rfl ?_
    refine OG.yield Yield.pickA rfl ?_
    refine OG.sg rfl rfl ?_
    refine OG.nil ?_
    refine QG.then ?_
    refine CG.cond_t rfl ?_
    refine CG.skip ?_
    refine QG.then ?_
    refine CG.cond_t rfl ?_
    refine CG.seq ?_
    refine CG.region ?_
    refine OG.sg rfl rfl ?_
    refine OG.nil ?_
    refine QG.then ?_
    refine CG.ret ?_
    refine QG.block_ret ?_
    refine QG.pass_ret ?_
    exact QG.ret1 rfl rfl () trivial rfl iM
  · skip
    rw [show sectE s (total + s.Bytes.length) last = 6 by unfold sectE; rw [if_pos (by unfold badS; omega)]]
    refine CG.region ?_
    refine OG.yield (Yield.fieldAddr fa82_0 rfl) rfl ?_
    refine OG.yield (Yield.loadA ti3 rfl) rfl ?_
    refine OG.yield Yield.lssA rfl ?_
    refine OG.mv rfl rfl ?_
    refine OG.gy rfl rfl rfl ?_
    refine OG.yield (Yield.fieldAddr fa82_0 rfl) rfl ?_
    refine OG.gy rfl rfl rfl ?_
    refine OG.yield (Yield.loadA ti3 rfl) rfl ?_
    refine OG.gy rfl rfl rfl ?_
    refine OG.yield Yield.geqA rfl ?_
    refine OG.yield Yield.pickA rfl ?_
    refine OG.sg rfl rfl ?_
    refine OG.nil ?_
    refine QG.then ?_
    refine CG.cond_f rfl ?_
    refine CG.seq ?_
    refine CG.region ?_
    refine OG.yield (Yield.fieldAddr fa82_1 rfl) rfl ?_
    refine OG.yield (Yield.loadA ti3 rfl) rfl ?_
    refine OG.yield Yield.lssA rfl ?_
    refine OG.mv rfl rfl ?_
    refine OG.gy rfl rfl rfl ?_
    refine OG.yield (Yield.fieldAddr fa82_1 rfl) rfl ?_
    refine OG.gy rfl rfl rfl ?_
    refine OG.yield (Yield.loadA ti3 rfl) rfl ?_
    refine OG.gy rfl rfl rfl ?_
    refine OG.yield Yield.gtrA rfl ?_
    refine OG.yield Yield.pickA rfl ?_
    refine OG.sg rfl rfl ?_
    refine OG.nil ?_
    refine QG.then ?_
    refine CG.cond_t rfl ?_
    refine CG.skip ?_
    refine QG.then ?_
    refine CG.cond_t rfl ?_
    refine CG.seq ?_
    refine CG.region ?_
    refine OG.sg rfl rfl ?_
    refine OG.nil ?_
    refine QG.then ?_
    refine CG.ret ?_
    refine QG.block_ret ?_
    refine QG.pass_ret ?_
    exact QG.ret1 rfl rfl () trivial rfl iM
  · skip
    rw [show sectE s (total + s.Bytes.length) last = 6 by unfold sectE; rw [if_pos (by unfold badS; omega)]]
    refine CG.region ?_
    refine OG.yield (Yield.fieldAddr fa82_0 rfl) rfl ?_
    refine OG.yield (Yield.loadA ti3 rfl) rfl ?_
    refine OG.yield Yield.lssA rfl ?_
    refine OG.mv rfl rfl ?_
    refine OG.gy rfl rfl rfl ?_
    refine OG.yield (Yield.fieldAddr fa82_0 rfl) rfl ?_
    refine OG.gy rfl rfl rfl ?_
    refine OG.yield (Yield.loadA ti3 rfl) rfl ?_
    refine OG.gy rfl rfl rfl ?_
    refine OG.yield Yield.geqA rfl ?_
    refine OG.yield Yield.pickA rfl ?_
    refine OG.sg rfl rfl ?_
    refine OG.nil ?_
    refine QG.then ?_
    refine CG.cond_f rfl ?_
    refine CG.seq ?_
    refine CG.region ?_
    refine OG.yield (Yield.fieldAddr fa82_1 rfl) rfl ?_
    refine OG.yield (Yield.loadA ti3 rfl) rfl ?_
    refine OG.yield Yield.lssA rfl ?_
    refine OG.mv rfl rfl ?_
    refine OG.gy rfl rfl rfl ?_
    refine OG.yield (Yield.fieldAddr fa82_1 rfl) rfl ?_
    refine OG.gy rfl rfl rfl ?_
    refine OG.yield (Yield.loadA ti3 rfl) rfl ?_
    refine OG.gy rfl rfl rfl ?_
    refine OG.yield Yield.gtrA rfl ?_
    refine OG.yield Yield.pickA rfl ?_
    refine OG.sg rfl rfl ?_
    refine OG.nil ?_
    refine QG.then ?_
    refine CG.cond_f rfl ?_
    refine CG.region ?_
    refine OG.yield (Yield.fieldAddr fa82_2 rfl) rfl ?_
    refine OG.yield (Yield.loadA ti32 rfl) rfl ?_
    refine OG.yield (Yield.len_slice Tryz.underlying32 rfl rfl) rfl ?_
    refine OG.yield Yield.eqlA rfl ?_
    refine OG.sg rfl rfl ?_
    refine OG.nil ?_
    refine QG.then ?_
    refine CG.cond_t rfl ?_
    refine CG.seq ?_
    refine CG.region ?_
    refine OG.sg rfl rfl ?_
    refine OG.nil ?_
    refine QG.then ?_
    refine CG.ret ?_
    refine QG.block_ret ?_
    refine QG.pass_ret ?_
    exact QG.ret1 rfl rfl () trivial rfl iM
  · skip
    rw [show sectE s (total + s.Bytes.length) last = 9 by unfold sectE; rw [if_neg (by unfold badS; omega), if_pos hh.2.2.2.2.2]]
    refine CG.region ?_
    refine OG.yield (Yield.fieldAddr fa82_0 rfl) rfl ?_
    refine OG.yield (Yield.loadA ti3 rfl) rfl ?_
    refine OG.yield Yield.lssA rfl ?_
    refine OG.mv rfl rfl ?_
    refine OG.gy rfl rfl rfl ?_
    refine OG.yield (Yield.fieldAddr fa82_0 rfl) rfl ?_
    refine OG.gy rfl rfl rfl ?_
    refine OG.yield (Yield.loadA ti3 rfl) rfl ?_
    refine OG.gy rfl rfl rfl ?_
    refine OG.yield Yield.geqA rfl ?_
    refine OG.yield Yield.pickA rfl ?_
    refine OG.sg rfl rfl ?_
    refine OG.nil ?_
    refine QG.then ?_
    refine CG.cond_f rfl ?_
    refine CG.seq ?_
    refine CG.region ?_
    refine OG.yield (Yield.fieldAddr fa82_1 rfl) rfl ?_
    refine OG.yield (Yield.loadA ti3 rfl) rfl ?_
    refine OG.yield Yield.lssA rfl ?_
    refine OG.mv rfl rfl ?_
    refine OG.gy rfl rfl rfl ?_
    refine OG.yield (Yield.fieldAddr fa82_1 rfl) rfl ?_
    refine OG.gy rfl rfl rfl ?_
    refine OG.yield (Yield.loadA ti3 rfl) rfl ?_
    refine OG.gy rfl rfl rfl ?_
    refine OG.yield Yield.gtrA rfl ?_
    refine OG.yield Yield.pickA rfl ?_
    refine OG.sg rfl rfl ?_
    refine OG.nil ?_
    refine QG.then ?_
    refine CG.cond_f rfl ?_
    refine CG.region ?_
    refine OG.yield (Yield.fieldAddr fa82_2 rfl) rfl ?_
    refine OG.yield (Yield.loadA ti32 rfl) rfl ?_
    refine OG.yield (Yield.len_slice Tryz.underlying32 rfl rfl) rfl ?_
    refine OG.yield Yield.eqlA rfl ?_
    refine OG.sg rfl rfl ?_
    refine OG.nil ?_
    refine QG.then ?_
    refine CG.cond_f rfl ?_
    refine CG.seq ?_
    refine CG.region ?_
    refine OG.mv rfl rfl ?_
    refine OG.yield (Yield.fieldAddr fa82_2 rfl) rfl ?_
    refine OG.yield (Yield.loadA ti32 rfl) rfl ?_
    refine OG.yield (Yield.len_slice Tryz.underlying32 rfl rfl) rfl ?_
    refine OG.yield (Yield.add rfl rfl (w64 (by omega) (by omega))) rfl ?_
    refine OG.yield Yield.gtrA rfl ?_
    refine OG.sg rfl rfl ?_
    refine OG.nil ?_
    refine QG.then ?_
    refine CG.cond_t rfl ?_
    refine CG.seq ?_
    refine CG.region ?_
    refine OG.sg rfl rfl ?_
    refine OG.nil ?_
    refine QG.then ?_
    refine CG.ret ?_
    refine QG.block_ret ?_
    refine QG.pass_ret ?_
    exact QG.ret1 rfl rfl () trivial rfl iM
  · skip
    rw [show sectE s (total + s.Bytes.length) last = 2 by unfold sectE; rw [if_neg (by unfold badS; omega), if_neg hh.2.2.2.2.2.1, if_pos hh.2.2.2.2.2.2]]
    refine CG.region ?_
    refine OG.yield (Yield.fieldAddr fa82_0 rfl) rfl ?_
    refine OG.yield (Yield.loadA ti3 rfl) rfl ?_
    refine OG.yield Yield.lssA rfl ?_
    refine OG.mv rfl rfl ?_
    refine OG.gy rfl rfl rfl ?_
    refine OG.yield (Yield.fieldAddr fa82_0 rfl) rfl ?_
    refine OG.gy rfl rfl rfl ?_
    refine OG.yield (Yield.loadA ti3 rfl) rfl ?_
    refine OG.gy rfl rfl rfl ?_
    refine OG.yield Yield.geqA rfl ?_
    refine OG.yield Yield.pickA rfl ?_
    refine OG.sg rfl rfl ?_
    refine OG.nil ?_
    refine QG.then ?_
    refine CG.cond_f rfl ?_
    refine CG.seq ?_
    refine CG.region ?_
    refine OG.yield (Yield.fieldAddr fa82_1 rfl) rfl ?_
    refine OG.yield (Yield.loadA ti3 rfl) rfl ?_
    refine OG.yield Yield.lssA rfl ?_
    refine OG.mv rfl rfl ?_
    refine OG.gy rfl rfl rfl ?_
    refine OG.yield (Yield.fieldAddr fa82_1 rfl) rfl ?_
    refine OG.gy rfl rfl rfl ?_
    refine OG.yield (Yield.loadA ti3 rfl) rfl ?_
    refine OG.gy rfl rfl rfl ?_
    refine OG.yield Yield.gtrA rfl ?_
    refine OG.yield Yield.pickA rfl ?_
    refine OG.sg rfl rfl ?_
    refine OG.nil ?_
    refine QG.then ?_
    refine CG.cond_f rfl ?_
    refine CG.region ?_
    refine OG.yield (Yield.fieldAddr fa82_2 rfl) rfl ?_
    refine OG.yield (Yield.loadA ti32 rfl) rfl ?_
    refine OG.yield (Yield.len_slice Tryz.underlying32 rfl rfl) rfl ?_
    refine OG.yield Yield.eqlA rfl ?_
    refine OG.sg rfl rfl ?_
    refine OG.nil ?_
    refine QG.then ?_
    refine CG.cond_f rfl ?_
    refine CG.seq ?_
    refine CG.region ?_
    refine OG.mv rfl rfl ?_
    refine OG.yield (Yield.fieldAddr fa82_2 rfl) rfl ?_
    refine OG.yield (Yield.loadA ti32 rfl) rfl ?_
    refine OG.yield (Yield.len_slice Tryz.underlying32 rfl rfl) rfl ?_
    refine OG.yield (Yield.add rfl rfl (w64 (by omega) (by omega))) rfl ?_
    refine OG.yield Yield.gtrA rfl ?_
    refine OG.sg rfl rfl ?_
    refine OG.nil ?_
    refine QG.then ?_
    refine CG.cond_f rfl ?_
    refine CG.seq ?_
    refine CG.region ?_
    refine OG.yield (Yield.load_agg (vs := s.cells) ti82 rfl (SSec.len _) (Row.of_blk (b := b3) eX rfl)) rfl ?_
    refine OG.callo call91 rfl (iM) (end_spec W0 _ (s := s) (by omega) (by omega) (by omega) h4) rfl ?_
    rintro ⟨⟩ -
    refine OG.yield Yield.geqA rfl ?_
    refine OG.sg rfl rfl ?_
    refine OG.nil ?_
    refine QG.then ?_
    refine CG.cond_t rfl ?_
    refine CG.seq ?_
    refine CG.region ?_
    refine OG.sg rfl rfl ?_
    refine OG.nil ?_
    refine QG.then ?_
    refine CG.ret ?_
    refine QG.block_ret ?_
    refine QG.pass_ret ?_
    exact QG.ret1 rfl rfl () trivial rfl iM
  · skip
    rw [show sectE s (total + s.Bytes.length) last = 140 by unfold sectE; rw [if_neg (by unfold badS; omega), if_neg hh.2.2.2.2.2.1, if_neg hh.2.2.2.2.2.2.1, if_pos hh.2.2.2.2.2.2.2]]
    refine CG.region ?_
    refine OG.yield (Yield.fieldAddr fa82_0 rfl) rfl ?_
    refine OG.yield (Yield.loadA ti3 rfl) rfl ?_
    refine OG.yield Yield.lssA rfl ?_
    refine OG.mv rfl rfl ?_
    refine OG.gy rfl rfl rfl ?_
    refine OG.yield (Yield.fieldAddr fa82_0 rfl) rfl ?_
    refine OG.gy rfl rfl rfl ?_
    refine OG.yield (Yield.loadA ti3 rfl) rfl ?_
    refine OG.gy rfl rfl rfl ?_
    refine OG.yield Yield.geqA rfl ?_
    refine OG.yield Yield.pickA rfl ?_
    refine OG.sg rfl rfl ?_
    refine OG.nil ?_
    refine QG.then ?_
    refine CG.cond_f rfl ?_
    refine CG.seq ?_
    refine CG.region ?_
    refine OG.yield (Yield.fieldAddr fa82_1 rfl) rfl ?_
    refine OG.yield (Yield.loadA ti3 rfl) rfl ?_
    refine OG.yield Yield.lssA rfl ?_
    refine OG.mv rfl rfl ?_
    refine OG.gy rfl rfl rfl ?_
    refine OG.yield (Yield.fieldAddr fa82_1 rfl) rfl ?_
    refine OG.gy rfl rfl rfl ?_
    refine OG.yield (Yield.loadA ti3 rfl) rfl ?_
    refine OG.gy rfl rfl rfl ?_
    refine OG.yield Yield.gtrA rfl ?_
    refine OG.yield Yield.pickA rfl ?_
    refine OG.sg rfl rfl ?_
    refine OG.nil ?_
    refine QG.then ?_
    refine CG.cond_f rfl ?_
    refine CG.region ?_
    refine OG.yield (Yield.fieldAddr fa82_2 rfl) rfl ?_
    refine OG.yield (Yield.loadA ti32 rfl) rfl ?_
    refine OG.yield (Yield.len_slice Tryz.underlying32 rfl rfl) rfl ?_
    refine OG.yield Yield.eqlA rfl ?_
    refine OG.sg rfl rfl ?_
    refine OG.nil ?_
    refine QG.then ?_
    refine CG.cond_f rfl ?_
    refine CG.seq ?_
    refine CG.region ?_
    refine OG.mv rfl rfl ?_
    refine OG.yield (Yield.fieldAddr fa82_2 rfl) rfl ?_
    refine OG.yield (Yield.loadA ti32 rfl) rfl ?_
    refine OG.yield (Yield.len_slice Tryz.underlying32 rfl rfl) rfl ?_
    refine OG.yield (Yield.add rfl rfl (w64 (by omega) (by omega))) rfl ?_
    refine OG.yield Yield.gtrA rfl ?_
    refine OG.sg rfl rfl ?_
    refine OG.nil ?_
    refine QG.then ?_
    refine CG.cond_f rfl ?_
    refine CG.seq ?_
    refine CG.region ?_
    refine OG.yield (Yield.load_agg (vs := s.cells) ti82 rfl (SSec.len _) (Row.of_blk (b := b3) eX rfl)) rfl ?_
    refine OG.callo call91 rfl (iM) (end_spec W0 _ (s := s) (by omega) (by omega) (by omega) h4) rfl ?_
    rintro ⟨⟩ -
    refine OG.yield Yield.geqA rfl ?_
    refine OG.sg rfl rfl ?_
    refine OG.nil ?_
    refine QG.then ?_
    refine CG.cond_f rfl ?_
    refine CG.seq ?_
    refine CG.region ?_
    refine OG.yield (Yield.fieldAddr fa82_0 rfl) rfl ?_
    refine OG.yield (Yield.loadA ti3 rfl) rfl ?_
    refine OG.mv rfl rfl ?_
    refine OG.yield Yield.leqA rfl ?_
    refine OG.sg rfl rfl ?_
    refine OG.nil ?_
    refine QG.then ?_
    refine CG.cond_t rfl ?_
    refine CG.seq ?_
    refine CG.region ?_
    refine OG.sg rfl rfl ?_
    refine OG.nil ?_
    refine QG.then ?_
    refine CG.ret ?_
    refine QG.block_ret ?_
    refine QG.pass_ret ?_
    exact QG.ret1 rfl rfl () trivial rfl iM
  · skip
    rw [show sectE s (total + s.Bytes.length) last = 0 by unfold sectE; rw [if_neg (by unfold badS; omega), if_neg hh.2.2.2.2.2.1, if_neg hh.2.2.2.2.2.2.1, if_neg hh.2.2.2.2.2.2.2]]
    refine CG.region ?_
    refine OG.yield (Yield.fieldAddr fa82_0 rfl) rfl ?_
    refine OG.yield (Yield.loadA ti3 rfl) rfl ?_
    refine OG.yield Yield.lssA rfl ?_
    refine OG.mv rfl rfl ?_
    refine OG.gy rfl rfl rfl ?_
    refine OG.yield (Yield.fieldAddr fa82_0 rfl) rfl ?_
    refine OG.gy rfl rfl rfl ?_
    refine OG.yield (Yield.loadA ti3 rfl) rfl ?_
    refine OG.gy rfl rfl rfl ?_
    refine OG.yield Yield.geqA rfl ?_
    refine OG.yield Yield.pickA rfl ?_
    refine OG.sg rfl rfl ?_
    refine OG.nil ?_
    refine QG.then ?_
    refine CG.cond_f rfl ?_
    refine CG.seq ?_
    refine CG.region ?_
    refine OG.yield (Yield.fieldAddr fa82_1 rfl) rfl ?_
    refine OG.yield (Yield.loadA ti3 rfl) rfl ?_
    refine OG.yield Yield.lssA rfl ?_
    refine OG.mv rfl rfl ?_
    refine OG.gy rfl rfl rfl ?_
    refine OG.yield (Yield.fieldAddr fa82_1 rfl) rfl ?_
    refine OG.gy rfl rfl rfl ?_
    refine OG.yield (Yield.loadA ti3 rfl) rfl ?_
    refine OG.gy rfl rfl rfl ?_
    refine OG.yield Yield.gtrA rfl ?_
    refine OG.yield Yield.pickA rfl ?_
    refine OG.sg rfl rfl ?_
    refine OG.nil ?_
    refine QG.then ?_
    refine CG.cond_f rfl ?_
    refine CG.region ?_
    refine OG.yield (Yield.fieldAddr fa82_2 rfl) rfl ?_
    refine OG.yield (Yield.loadA ti32 rfl) rfl ?_
    refine OG.yield (Yield.len_slice Tryz.underlying32 rfl rfl) rfl ?_
    refine OG.yield Yield.eqlA rfl ?_
    refine OG.sg rfl rfl ?_
    refine OG.nil ?_
    refine QG.then ?_
    refine CG.cond_f rfl ?_
    refine CG.seq ?_
    refine CG.region ?_
    refine OG.mv rfl rfl ?_
    refine OG.yield (Yield.fieldAddr fa82_2 rfl) rfl ?_
    refine OG.yield (Yield.loadA ti32 rfl) rfl ?_
    refine OG.yield (Yield.len_slice Tryz.underlying32 rfl rfl) rfl ?_
    refine OG.yield (Yield.add rfl rfl (w64 (by omega) (by omega))) rfl ?_
    refine OG.yield Yield.gtrA rfl ?_
    refine OG.sg rfl rfl ?_
    refine OG.nil ?_
    refine QG.then ?_
    refine CG.cond_f rfl ?_
    refine CG.seq ?_
    refine CG.region ?_
    refine OG.yield (Yield.load_agg (vs := s.cells) ti82 rfl (SSec.len _) (Row.of_blk (b := b3) eX rfl)) rfl ?_
    refine OG.callo call91 rfl (iM) (end_spec W0 _ (s := s) (by omega) (by omega) (by omega) h4) rfl ?_
    rintro ⟨⟩ -
    refine OG.yield Yield.geqA rfl ?_
    refine OG.sg rfl rfl ?_
    refine OG.nil ?_
    refine QG.then ?_
    refine CG.cond_f rfl ?_
    refine CG.seq ?_
    refine CG.region ?_
    refine OG.yield (Yield.fieldAddr fa82_0 rfl) rfl ?_
    refine OG.yield (Yield.loadA ti3 rfl) rfl ?_
    refine OG.mv rfl rfl ?_
    refine OG.yield Yield.leqA rfl ?_
    refine OG.sg rfl rfl ?_
    refine OG.nil ?_
    refine QG.then ?_
    refine CG.cond_f rfl ?_
    refine CG.skip ?_
    refine QG.block_normal ?_
    refine QG.then ?_
    refine CG.seq ?_
    refine CG.region ?_
    refine OG.sg rfl rfl ?_
    refine OG.nil ?_
    refine QG.then ?_
    refine CG.ret ?_
    exact QG.ret1 rfl rfl () trivial rfl iM
set_option maxHeartbeats 1000000 in
theorem rsection_spec {s : SSec} {total last : Int} (h4 : s.Bytes.length ≤ reachBytes) : Ctr Tryz.prog W0 93 [.agg s.cells.toArray, .int .i64 total, .int .i64 last] Fr (fun _ : Unit => True) (fun _ => .int .i64 (sectE s total last)) (fun _ => Fr) := by
  have h5 := h4
  unfold reachBytes at h5
  refine Ctr.of_body Tryz.func93 rfl Tryz.ntmps93 rfl ?_
  refine CG.seq ?_
  refine CG.region ?_
  refine OG.effd (Eff.box rfl) rfl ?_
  rintro b3 -
  refine OG.sg rfl rfl ?_
  refine OG.nil ?_
  refine QG.then ?_
  refine CG.seq ?_
  refine CG.seq ?_
  rcases (show s.Page < 0 ∨ (0 ≤ s.Page ∧ 4096 ≤ s.Page) ∨ (0 ≤ s.Page ∧ s.Page < 4096 ∧ s.Perm < 1) ∨ (0 ≤ s.Page ∧ s.Page < 4096 ∧ 1 ≤ s.Perm ∧ 7 < s.Perm) ∨ (0 ≤ s.Page ∧ s.Page < 4096 ∧ 1 ≤ s.Perm ∧ s.Perm ≤ 7 ∧ s.Bytes.length = 0) ∨ (0 ≤ s.Page ∧ s.Page < 4096 ∧ 1 ≤ s.Perm ∧ s.Perm ≤ 7 ∧ 0 < s.Bytes.length ∧ 16384 < total) ∨ (0 ≤ s.Page ∧ s.Page < 4096 ∧ 1 ≤ s.Perm ∧ s.Perm ≤ 7 ∧ 0 < s.Bytes.length ∧ ¬ 16384 < total ∧ 4096 ≤ endS s) ∨ (0 ≤ s.Page ∧ s.Page < 4096 ∧ 1 ≤ s.Perm ∧ s.Perm ≤ 7 ∧ 0 < s.Bytes.length ∧ ¬ 16384 < total ∧ ¬ 4096 ≤ endS s ∧ s.Page ≤ last) ∨ (0 ≤ s.Page ∧ s.Page < 4096 ∧ 1 ≤ s.Perm ∧ s.Perm ≤ 7 ∧ 0 < s.Bytes.length ∧ ¬ 16384 < total ∧ ¬ 4096 ≤ endS s ∧ ¬ s.Page ≤ last) by omega) with hh | hh | hh | hh | hh | hh | hh | hh | hh
  · skip
    rw [show sectE s (total) last = 6 by unfold sectE; rw [if_pos (by unfold badS; omega)]]
    refine CG.region ?_
    refine OG.yield (Yield.fieldAddr fa82_0 rfl) rfl ?_
    refine OG.yield (Yield.loadA ti3 rfl) rfl ?_
    refine OG.yield Yield.lssA rfl ?_
    refine OG.mv rfl rfl ?_
    refine OG.gn rfl rfl rfl rfl rfl ?_
    refine OG.gn rfl rfl rfl rfl rfl ?_
    refine OG.gn rfl rfl rfl rfl rfl ?_
    refine OG.yield Yield.pickA rfl ?_
    refine OG.mv rfl rfl ?_
    refine OG.gn rfl rfl rfl rfl rfl ?_
    refine OG.gn rfl rfl rfl rfl rfl ?_
    refine OG.gn rfl rfl rfl rfl rfl ?_
    refine OG.yield Yield.pickA rfl ?_
    refine OG.mv rfl rfl ?_
    refine OG.gn rfl rfl rfl rfl rfl ?_
    refine OG.gn rfl rfl rfl rfl rfl ?_
    refine OG.gn rfl rfl rfl rfl rfl ?_
    refine OG.yield Yield.pickA rfl ?_
    refine OG.mv rfl rfl ?_
    refine OG.gn rfl rfl rfl rfl rfl ?_
    refine OG.gn rfl rfl rfl rfl rfl ?_
    refine OG.gn rfl rfl rfl rfl rfl ?_
    refine OG.gn rfl rfl rfl rfl rfl ?_
    refine OG.yield Yield.pickA rfl ?_
    refine OG.nil ?_
    refine QG.then ?_
    refine CG.cond_t rfl ?_
    refine CG.seq ?_
    refine CG.region ?_
    refine OG.sg rfl rfl ?_
    refine OG.nil ?_
    refine QG.then ?_
    refine CG.ret ?_
    refine QG.pass_ret ?_
    exact QG.ret1 rfl rfl () trivial rfl iM
  · skip
    rw [show sectE s (total) last = 6 by unfold sectE; rw [if_pos (by unfold badS; omega)]]
    refine CG.region ?_
    refine OG.yield (Yield.fieldAddr fa82_0 rfl) rfl ?_
    refine OG.yield (Yield.loadA ti3 rfl) rfl ?_
    refine OG.yield Yield.lssA rfl ?_
    refine OG.mv rfl rfl ?_
    refine OG.gy rfl rfl rfl ?_
    refine OG.yield (Yield.fieldAddr fa82_0 rfl) rfl ?_
    refine OG.gy rfl rfl rfl ?_
    refine OG.yield (Yield.loadA ti3 rfl) rfl ?_
    refine OG.gy rfl rfl rfl ?_
    refine OG.yield Yield.gtrA rfl ?_
    refine OG.yield Yield.pickA rfl ?_
    refine OG.mv rfl rfl ?_
    refine OG.gn rfl rfl rfl rfl rfl ?_
    refine OG.gn rfl rfl rfl rfl rfl ?_
    refine OG.gn rfl rfl rfl rfl rfl ?_
    refine OG.yield Yield.pickA rfl ?_
    refine OG.mv rfl rfl ?_
    refine OG.gn rfl rfl rfl rfl rfl ?_
    refine OG.gn rfl rfl rfl rfl rfl ?_
    refine OG.gn rfl rfl rfl rfl rfl ?_
    refine OG.yield Yield.pickA rfl ?_
    refine OG.mv rfl rfl ?_
    refine OG.gn rfl rfl rfl rfl rfl ?_
    refine OG.gn rfl rfl rfl rfl rfl ?_
    refine OG.gn rfl rfl rfl rfl rfl ?_
    refine OG.gn rfl rfl rfl rfl rfl ?_
    refine OG.yield Yield.pickA rfl ?_
    refine OG.nil ?_
    refine QG.then ?_
    refine CG.cond_t rfl ?_
    refine CG.seq ?_
    refine CG.region ?_
    refine OG.sg rfl rfl ?_
    refine OG.nil ?_
    refine QG.then ?_
    refine CG.ret ?_
    refine QG.pass_ret ?_
    exact QG.ret1 rfl rfl () trivial rfl iM
  · skip
    rw [show sectE s (total) last = 6 by unfold sectE; rw [if_pos (by unfold badS; omega)]]
    refine CG.region ?_
    refine OG.yield (Yield.fieldAddr fa82_0 rfl) rfl ?_
    refine OG.yield (Yield.loadA ti3 rfl) rfl ?_
    refine OG.yield Yield.lssA rfl ?_
    refine OG.mv rfl rfl ?_
    refine OG.gy rfl rfl rfl ?_
    refine OG.yield (Yield.fieldAddr fa82_0 rfl) rfl ?_
    refine OG.gy rfl rfl rfl ?_
    refine OG.yield (Yield.loadA ti3 rfl) rfl ?_
    refine OG.gy rfl rfl rfl ?_
    refine OG.yield Yield.gtrA rfl ?_
    refine OG.yield Yield.pickA rfl ?_
    refine OG.mv rfl rfl ?_
    refine OG.gy rfl rfl rfl ?_
    refine OG.yield (Yield.fieldAddr fa82_1 rfl) rfl ?_
    refine OG.gy rfl rfl rfl ?_
    refine OG.yield (Yield.loadA ti3 rfl) rfl ?_
    refine OG.gy rfl rfl rfl ?_
    refine OG.yield Yield.lssA rfl ?_
    refine OG.yield Yield.pickA rfl ?_
    refine OG.mv rfl rfl ?_
    refine OG.gn rfl rfl rfl rfl rfl ?_
    refine OG.gn rfl rfl rfl rfl rfl ?_
    refine OG.gn rfl rfl rfl rfl rfl ?_
    refine OG.yield Yield.pickA rfl ?_
    refine OG.mv rfl rfl ?_
    refine OG.gn rfl rfl rfl rfl rfl ?_
    refine OG.gn rfl rfl rfl rfl rfl ?_
    refine OG.gn rfl rfl rfl rfl rfl ?_
    refine OG.gn rfl rfl rfl rfl rfl ?_
    refine OG.yield Yield.pickA rfl ?_
    refine OG.nil ?_
    refine QG.then ?_
    refine CG.cond_t rfl ?_
    refine CG.seq ?_
    refine CG.region ?_
    refine OG.sg rfl rfl ?_
    refine OG.nil ?_
    refine QG.then ?_
    refine CG.ret ?_
    refine QG.pass_ret ?_
    exact QG.ret1 rfl rfl () trivial rfl iM
  · skip
    rw [show sectE s (total) last = 6 by unfold sectE; rw [if_pos (by unfold badS; omega)]]
    refine CG.region ?_
    refine OG.yield (Yield.fieldAddr fa82_0 rfl) rfl ?_
    refine OG.yield (Yield.loadA ti3 rfl) rfl ?_
    refine OG.yield Yield.lssA rfl ?_
    refine OG.mv rfl rfl ?_
    refine OG.gy rfl rfl rfl ?_
    refine OG.yield (Yield.fieldAddr fa82_0 rfl) rfl ?_
    refine OG.gy rfl rfl rfl ?_
    refine OG.yield (Yield.loadA ti3 rfl) rfl ?_
    refine OG.gy rfl rfl rfl ?_
    refine OG.yield Yield.gtrA rfl ?_
    refine OG.yield Yield.pickA rfl ?_
    refine OG.mv rfl rfl ?_
    refine OG.gy rfl rfl rfl ?_
    refine OG.yield (Yield.fieldAddr fa82_1 rfl) rfl ?_
    refine OG.gy rfl rfl rfl ?_
    refine OG.yield (Yield.loadA ti3 rfl) rfl ?_
    refine OG.gy rfl rfl rfl ?_
    refine OG.yield Yield.lssA rfl ?_
    refine OG.yield Yield.pickA rfl ?_
    refine OG.mv rfl rfl ?_
    refine OG.gy rfl rfl rfl ?_
    refine OG.yield (Yield.fieldAddr fa82_1 rfl) rfl ?_
    refine OG.gy rfl rfl rfl ?_
    refine OG.yield (Yield.loadA ti3 rfl) rfl ?_
    refine OG.gy rfl rfl rfl ?_
    refine OG.yield Yield.gtrA rfl ?_
    refine OG.yield Yield.pickA rfl ?_
    refine OG.mv rfl rfl ?_
    refine OG.gn rfl rfl rfl rfl rfl ?_
    refine OG.gn rfl rfl rfl rfl rfl ?_
    refine OG.gn rfl rfl rfl rfl rfl ?_
    refine OG.gn rfl rfl rfl rfl rfl ?_
    refine OG.yield Yield.pickA rfl ?_
    refine OG.nil ?_
    refine QG.then ?_
    refine CG.cond_t rfl ?_
    refine CG.seq ?_
    refine CG.region ?_
    refine OG.sg rfl rfl ?_
    refine OG.nil ?_
    refine QG.then ?_
    refine CG.ret ?_
    refine QG.pass_ret ?_
    exact QG.ret1 rfl rfl () trivial rfl iM
  · skip
    rw [show sectE s (total) last = 6 by unfold sectE; rw [if_pos (by unfold badS; omega)]]
    refine CG.region ?_
    refine OG.yield (Yield.fieldAddr fa82_0 rfl) rfl ?_
    refine OG.yield (Yield.loadA ti3 rfl) rfl ?_
    refine OG.yield Yield.lssA rfl ?_
    refine OG.mv rfl rfl ?_
    refine OG.gy rfl rfl rfl ?_
    refine OG.yield (Yield.fieldAddr fa82_0 rfl) rfl ?_
    refine OG.gy rfl rfl rfl ?_
    refine OG.yield (Yield.loadA ti3 rfl) rfl ?_
    refine OG.gy rfl rfl rfl ?_
    refine OG.yield Yield.gtrA rfl ?_
    refine OG.yield Yield.pickA rfl ?_
    refine OG.mv rfl rfl ?_
    refine OG.gy rfl rfl rfl ?_
    refine OG.yield (Yield.fieldAddr fa82_1 rfl) rfl ?_
    refine OG.gy rfl rfl rfl ?_
    refine OG.yield (Yield.loadA ti3 rfl) rfl ?_
    refine OG.gy rfl rfl rfl ?_
    refine OG.yield Yield.lssA rfl ?_
    refine OG.yield Yield.pickA rfl ?_
    refine OG.mv rfl rfl ?_
    refine OG.gy rfl rfl rfl ?_
    refine OG.yield (Yield.fieldAddr fa82_1 rfl) rfl ?_
    refine OG.gy rfl rfl rfl ?_
    refine OG.yield (Yield.loadA ti3 rfl) rfl ?_
    refine OG.gy rfl rfl rfl ?_
    refine OG.yield Yield.gtrA rfl ?_
    refine OG.yield Yield.pickA rfl ?_
    refine OG.mv rfl rfl ?_
    refine OG.gy rfl rfl rfl ?_
    refine OG.yield (Yield.fieldAddr fa82_2 rfl) rfl ?_
    refine OG.gy rfl rfl rfl ?_
    refine OG.yield (Yield.loadA ti32 rfl) rfl ?_
    refine OG.gy rfl rfl rfl ?_
    refine OG.yield (Yield.len_slice Tryz.underlying32 rfl rfl) rfl ?_
    refine OG.gy rfl rfl rfl ?_
    refine OG.yield Yield.eqlA rfl ?_
    refine OG.yield Yield.pickA rfl ?_
    refine OG.nil ?_
    refine QG.then ?_
    refine CG.cond_t rfl ?_
    refine CG.seq ?_
    refine CG.region ?_
    refine OG.sg rfl rfl ?_
    refine OG.nil ?_
    refine QG.then ?_
    refine CG.ret ?_
    refine QG.pass_ret ?_
    exact QG.ret1 rfl rfl () trivial rfl iM
  · skip
    rw [show sectE s (total) last = 9 by unfold sectE; rw [if_neg (by unfold badS; omega), if_pos hh.2.2.2.2.2]]
    refine CG.region ?_
    refine OG.yield (Yield.fieldAddr fa82_0 rfl) rfl ?_
    refine OG.yield (Yield.loadA ti3 rfl) rfl ?_
    refine OG.yield Yield.lssA rfl ?_
    refine OG.mv rfl rfl ?_
    refine OG.gy rfl rfl rfl ?_
    refine OG.yield (Yield.fieldAddr fa82_0 rfl) rfl ?_
    refine OG.gy rfl rfl rfl ?_
    refine OG.yield (Yield.loadA ti3 rfl) rfl ?_
    refine OG.gy rfl rfl rfl ?_
    refine OG.yield Yield.gtrA rfl ?_
    refine OG.yield Yield.pickA rfl ?_
    refine OG.mv rfl rfl ?_
    refine OG.gy rfl rfl rfl ?_
    refine OG.yield (Yield.fieldAddr fa82_1 rfl) rfl ?_
    refine OG.gy rfl rfl rfl ?_
    refine OG.yield (Yield.loadA ti3 rfl) rfl ?_
    refine OG.gy rfl rfl rfl ?_
    refine OG.yield Yield.lssA rfl ?_
    refine OG.yield Yield.pickA rfl ?_
    refine OG.mv rfl rfl ?_
    refine OG.gy rfl rfl rfl ?_
    refine OG.yield (Yield.fieldAddr fa82_1 rfl) rfl ?_
    refine OG.gy rfl rfl rfl ?_
    refine OG.yield (Yield.loadA ti3 rfl) rfl ?_
    refine OG.gy rfl rfl rfl ?_
    refine OG.yield Yield.gtrA rfl ?_
    refine OG.yield Yield.pickA rfl ?_
    refine OG.mv rfl rfl ?_
    refine OG.gy rfl rfl rfl ?_
    refine OG.yield (Yield.fieldAddr fa82_2 rfl) rfl ?_
    refine OG.gy rfl rfl rfl ?_
    refine OG.yield (Yield.loadA ti32 rfl) rfl ?_
    refine OG.gy rfl rfl rfl ?_
    refine OG.yield (Yield.len_slice Tryz.underlying32 rfl rfl) rfl ?_
    refine OG.gy rfl rfl rfl ?_
    refine OG.yield Yield.eqlA rfl ?_
    refine OG.yield Yield.pickA rfl ?_
    refine OG.nil ?_
    refine QG.then ?_
    refine CG.cond_f rfl ?_
    refine CG.skip ?_
    refine QG.then ?_
    refine CG.seq ?_
    refine CG.seq ?_
    refine CG.region ?_
    refine OG.mv rfl rfl ?_
    refine OG.yield Yield.gtrA rfl ?_
    refine OG.nil ?_
    refine QG.then ?_
    refine CG.cond_t rfl ?_
    refine CG.seq ?_
    refine CG.region ?_
    refine OG.sg rfl rfl ?_
    refine OG.nil ?_
    refine QG.then ?_
    refine CG.ret ?_
    refine QG.pass_ret ?_
    exact QG.ret1 rfl rfl () trivial rfl iM
  · skip
    rw [show sectE s (total) last = 2 by unfold sectE; rw [if_neg (by unfold badS; omega), if_neg hh.2.2.2.2.2.1, if_pos hh.2.2.2.2.2.2]]
    refine CG.region ?_
    refine OG.yield (Yield.fieldAddr fa82_0 rfl) rfl ?_
    refine OG.yield (Yield.loadA ti3 rfl) rfl ?_
    refine OG.yield Yield.lssA rfl ?_
    refine OG.mv rfl rfl ?_
    refine OG.gy rfl rfl rfl ?_
    refine OG.yield (Yield.fieldAddr fa82_0 rfl) rfl ?_
    refine OG.gy rfl rfl rfl ?_
    refine OG.yield (Yield.loadA ti3 rfl) rfl ?_
    refine OG.gy rfl rfl rfl ?_
    refine OG.yield Yield.gtrA rfl ?_
    refine OG.yield Yield.pickA rfl ?_
    refine OG.mv rfl rfl ?_
    refine OG.gy rfl rfl rfl ?_
    refine OG.yield (Yield.fieldAddr fa82_1 rfl) rfl ?_
    refine OG.gy rfl rfl rfl ?_
    refine OG.yield (Yield.loadA ti3 rfl) rfl ?_
    refine OG.gy rfl rfl rfl ?_
    refine OG.yield Yield.lssA rfl ?_
    refine OG.yield Yield.pickA rfl ?_
    refine OG.mv rfl rfl ?_
    refine OG.gy rfl rfl rfl ?_
    refine OG.yield (Yield.fieldAddr fa82_1 rfl) rfl ?_
    refine OG.gy rfl rfl rfl ?_
    refine OG.yield (Yield.loadA ti3 rfl) rfl ?_
    refine OG.gy rfl rfl rfl ?_
    refine OG.yield Yield.gtrA rfl ?_
    refine OG.yield Yield.pickA rfl ?_
    refine OG.mv rfl rfl ?_
    refine OG.gy rfl rfl rfl ?_
    refine OG.yield (Yield.fieldAddr fa82_2 rfl) rfl ?_
    refine OG.gy rfl rfl rfl ?_
    refine OG.yield (Yield.loadA ti32 rfl) rfl ?_
    refine OG.gy rfl rfl rfl ?_
    refine OG.yield (Yield.len_slice Tryz.underlying32 rfl rfl) rfl ?_
    refine OG.gy rfl rfl rfl ?_
    refine OG.yield Yield.eqlA rfl ?_
    refine OG.yield Yield.pickA rfl ?_
    refine OG.nil ?_
    refine QG.then ?_
    refine CG.cond_f rfl ?_
    refine CG.skip ?_
    refine QG.then ?_
    refine CG.seq ?_
    refine CG.seq ?_
    refine CG.region ?_
    refine OG.mv rfl rfl ?_
    refine OG.yield Yield.gtrA rfl ?_
    refine OG.nil ?_
    refine QG.then ?_
    refine CG.cond_f rfl ?_
    refine CG.skip ?_
    refine QG.then ?_
    refine CG.seq ?_
    refine CG.seq ?_
    refine CG.region ?_
    refine OG.yield (Yield.load_agg (vs := s.cells) ti82 rfl (SSec.len _) (Row.of_blk (b := b3) eX rfl)) rfl ?_
    refine OG.callo call58 rfl (iM) (last_spec W0 _ (s := s) (by omega) (by omega) (by omega) h4) rfl ?_
    rintro ⟨⟩ -
    refine OG.yield Yield.gtrA rfl ?_
    refine OG.nil ?_
    refine QG.then ?_
    refine CG.cond_t rfl ?_
    refine CG.seq ?_
    refine CG.region ?_
    refine OG.sg rfl rfl ?_
    refine OG.nil ?_
    refine QG.then ?_
    refine CG.ret ?_
    refine QG.pass_ret ?_
    exact QG.ret1 rfl rfl () trivial rfl iM
  · skip
    rw [show sectE s (total) last = 140 by unfold sectE; rw [if_neg (by unfold badS; omega), if_neg hh.2.2.2.2.2.1, if_neg hh.2.2.2.2.2.2.1, if_pos hh.2.2.2.2.2.2.2]]
    refine CG.region ?_
    refine OG.yield (Yield.fieldAddr fa82_0 rfl) rfl ?_
    refine OG.yield (Yield.loadA ti3 rfl) rfl ?_
    refine OG.yield Yield.lssA rfl ?_
    refine OG.mv rfl rfl ?_
    refine OG.gy rfl rfl rfl ?_
    refine OG.yield (Yield.fieldAddr fa82_0 rfl) rfl ?_
    refine OG.gy rfl rfl rfl ?_
    refine OG.yield (Yield.loadA ti3 rfl) rfl ?_
    refine OG.gy rfl rfl rfl ?_
    refine OG.yield Yield.gtrA rfl ?_
    refine OG.yield Yield.pickA rfl ?_
    refine OG.mv rfl rfl ?_
    refine OG.gy rfl rfl rfl ?_
    refine OG.yield (Yield.fieldAddr fa82_1 rfl) rfl ?_
    refine OG.gy rfl rfl rfl ?_
    refine OG.yield (Yield.loadA ti3 rfl) rfl ?_
    refine OG.gy rfl rfl rfl ?_
    refine OG.yield Yield.lssA rfl ?_
    refine OG.yield Yield.pickA rfl ?_
    refine OG.mv rfl rfl ?_
    refine OG.gy rfl rfl rfl ?_
    refine OG.yield (Yield.fieldAddr fa82_1 rfl) rfl ?_
    refine OG.gy rfl rfl rfl ?_
    refine OG.yield (Yield.loadA ti3 rfl) rfl ?_
    refine OG.gy rfl rfl rfl ?_
    refine OG.yield Yield.gtrA rfl ?_
    refine OG.yield Yield.pickA rfl ?_
    refine OG.mv rfl rfl ?_
    refine OG.gy rfl rfl rfl ?_
    refine OG.yield (Yield.fieldAddr fa82_2 rfl) rfl ?_
    refine OG.gy rfl rfl rfl ?_
    refine OG.yield (Yield.loadA ti32 rfl) rfl ?_
    refine OG.gy rfl rfl rfl ?_
    refine OG.yield (Yield.len_slice Tryz.underlying32 rfl rfl) rfl ?_
    refine OG.gy rfl rfl rfl ?_
    refine OG.yield Yield.eqlA rfl ?_
    refine OG.yield Yield.pickA rfl ?_
    refine OG.nil ?_
    refine QG.then ?_
    refine CG.cond_f rfl ?_
    refine CG.skip ?_
    refine QG.then ?_
    refine CG.seq ?_
    refine CG.seq ?_
    refine CG.region ?_
    refine OG.mv rfl rfl ?_
    refine OG.yield Yield.gtrA rfl ?_
    refine OG.nil ?_
    refine QG.then ?_
    refine CG.cond_f rfl ?_
    refine CG.skip ?_
    refine QG.then ?_
    refine CG.seq ?_
    refine CG.seq ?_
    refine CG.region ?_
    refine OG.yield (Yield.load_agg (vs := s.cells) ti82 rfl (SSec.len _) (Row.of_blk (b := b3) eX rfl)) rfl ?_
    refine OG.callo call58 rfl (iM) (last_spec W0 _ (s := s) (by omega) (by omega) (by omega) h4) rfl ?_
    rintro ⟨⟩ -
    refine OG.yield Yield.gtrA rfl ?_
    refine OG.nil ?_
    refine QG.then ?_
    refine CG.cond_f rfl ?_
    refine CG.skip ?_
    refine QG.then ?_
    refine CG.seq ?_
    refine CG.seq ?_
    refine CG.region ?_
    refine OG.yield (Yield.fieldAddr fa82_0 rfl) rfl ?_
    refine OG.yield (Yield.loadA ti3 rfl) rfl ?_
    refine OG.mv rfl rfl ?_
    refine OG.yield Yield.leqA rfl ?_
    refine OG.nil ?_
    refine QG.then ?_
    refine CG.cond_t rfl ?_
    refine CG.seq ?_
    refine CG.region ?_
    refine OG.sg rfl rfl ?_
    refine OG.nil ?_
    refine QG.then ?_
    refine CG.ret ?_
    refine QG.pass_ret ?_
    exact QG.ret1 rfl rfl () trivial rfl iM
  · skip
    rw [show sectE s (total) last = 0 by unfold sectE; rw [if_neg (by unfold badS; omega), if_neg hh.2.2.2.2.2.1, if_neg hh.2.2.2.2.2.2.1, if_neg hh.2.2.2.2.2.2.2]]
    refine CG.region ?_
    refine OG.yield (Yield.fieldAddr fa82_0 rfl) rfl ?_
    refine OG.yield (Yield.loadA ti3 rfl) rfl ?_
    refine OG.yield Yield.lssA rfl ?_
    refine OG.mv rfl rfl ?_
    refine OG.gy rfl rfl rfl ?_
    refine OG.yield (Yield.fieldAddr fa82_0 rfl) rfl ?_
    refine OG.gy rfl rfl rfl ?_
    refine OG.yield (Yield.loadA ti3 rfl) rfl ?_
    refine OG.gy rfl rfl rfl ?_
    refine OG.yield Yield.gtrA rfl ?_
    refine OG.yield Yield.pickA rfl ?_
    refine OG.mv rfl rfl ?_
    refine OG.gy rfl rfl rfl ?_
    refine OG.yield (Yield.fieldAddr fa82_1 rfl) rfl ?_
    refine OG.gy rfl rfl rfl ?_
    refine OG.yield (Yield.loadA ti3 rfl) rfl ?_
    refine OG.gy rfl rfl rfl ?_
    refine OG.yield Yield.lssA rfl ?_
    refine OG.yield Yield.pickA rfl ?_
    refine OG.mv rfl rfl ?_
    refine OG.gy rfl rfl rfl ?_
    refine OG.yield (Yield.fieldAddr fa82_1 rfl) rfl ?_
    refine OG.gy rfl rfl rfl ?_
    refine OG.yield (Yield.loadA ti3 rfl) rfl ?_
    refine OG.gy rfl rfl rfl ?_
    refine OG.yield Yield.gtrA rfl ?_
    refine OG.yield Yield.pickA rfl ?_
    refine OG.mv rfl rfl ?_
    refine OG.gy rfl rfl rfl ?_
    refine OG.yield (Yield.fieldAddr fa82_2 rfl) rfl ?_
    refine OG.gy rfl rfl rfl ?_
    refine OG.yield (Yield.loadA ti32 rfl) rfl ?_
    refine OG.gy rfl rfl rfl ?_
    refine OG.yield (Yield.len_slice Tryz.underlying32 rfl rfl) rfl ?_
    refine OG.gy rfl rfl rfl ?_
    refine OG.yield Yield.eqlA rfl ?_
    refine OG.yield Yield.pickA rfl ?_
    refine OG.nil ?_
    refine QG.then ?_
    refine CG.cond_f rfl ?_
    refine CG.skip ?_
    refine QG.then ?_
    refine CG.seq ?_
    refine CG.seq ?_
    refine CG.region ?_
    refine OG.mv rfl rfl ?_
    refine OG.yield Yield.gtrA rfl ?_
    refine OG.nil ?_
    refine QG.then ?_
    refine CG.cond_f rfl ?_
    refine CG.skip ?_
    refine QG.then ?_
    refine CG.seq ?_
    refine CG.seq ?_
    refine CG.region ?_
    refine OG.yield (Yield.load_agg (vs := s.cells) ti82 rfl (SSec.len _) (Row.of_blk (b := b3) eX rfl)) rfl ?_
    refine OG.callo call58 rfl (iM) (last_spec W0 _ (s := s) (by omega) (by omega) (by omega) h4) rfl ?_
    rintro ⟨⟩ -
    refine OG.yield Yield.gtrA rfl ?_
    refine OG.nil ?_
    refine QG.then ?_
    refine CG.cond_f rfl ?_
    refine CG.skip ?_
    refine QG.then ?_
    refine CG.seq ?_
    refine CG.seq ?_
    refine CG.region ?_
    refine OG.yield (Yield.fieldAddr fa82_0 rfl) rfl ?_
    refine OG.yield (Yield.loadA ti3 rfl) rfl ?_
    refine OG.mv rfl rfl ?_
    refine OG.yield Yield.leqA rfl ?_
    refine OG.nil ?_
    refine QG.then ?_
    refine CG.cond_f rfl ?_
    refine CG.skip ?_
    refine QG.then ?_
    refine CG.seq ?_
    refine CG.region ?_
    refine OG.sg rfl rfl ?_
    refine OG.nil ?_
    refine QG.then ?_
    refine CG.ret ?_
    exact QG.ret1 rfl rfl () trivial rfl iM
end
end Go.Proofs.YtmlfcfbblfcpdaaGreat.Sp
/- Images: Check, the program's and the document's. -/
namespace Go.Proofs.YtmlfcfbblfcpdaaGreat.Sp
open Go Go.Sl Go.RowKit Go.Proofs Go.Proofs.YtmlfcfbblfcpdaaGreat.T
set_option maxRecDepth 100000
/-- Sections that may be read. -/
structure SecR (W0 : World) (G : List HProp) (a : Option Addr) (l : List SSec) : Prop where
  cells : SlR W0 G 3 a l.length ((l.map SSec.cells).flatten)
  len : ∀ s ∈ l, s.Bytes.length ≤ reachBytes
  bytes : ∀ s ∈ l, RdB W0 G s.Bytesa s.Bytesc s.Bytes
theorem SecR.imp {W0 : World} {G G' : List HProp} {a : Option Addr} {l : List SSec} (h : SecR W0 G' a l) (i : Imp G G') : SecR W0 G a l := ⟨h.cells.imp i, h.len, fun s hs => (h.bytes s hs).imp i⟩
abbrev imgV (en : Int) (a : Option Addr) (l : List SSec) (c : Nat) : Value := .agg #[.int .u32 en, .slice a l.length c]
theorem sectE_min {s : SSec} {t last : Int} : sectE s (min t 1048576) last = sectE s t last := by
  unfold sectE
  by_cases h : 16384 < t
  · rw [if_pos (show 16384 < min t 1048576 by omega), if_pos h]
  · rw [if_neg (show ¬ 16384 < min t 1048576 by omega), if_neg h]
theorem chkL_step {l : List SSec} {i : Nat} {s : SSec} {t e : Int} (hs : l[i]? = some s) : chkL (l.drop i) t e = if sectE s (t + s.Bytes.length) e = 0 then chkL (l.drop (i + 1)) (t + s.Bytes.length) (endS s) else sectE s (t + s.Bytes.length) e := by
  obtain ⟨hi, rfl⟩ := List.getElem?_eq_some_iff.1 hs
  rw [List.drop_eq_getElem_cons hi]; rfl
section
variable (W0 : World) (Fr : List HProp)
set_option maxHeartbeats 1000000 in
theorem check_spec {en : Int} {a : Option Addr} {l : List SSec} {c : Nat} (hen : 0 ≤ en) (hen2 : en ≤ 4294967295) (h : SecR W0 Fr a l) : Ctr Tryz.prog W0 52 [imgV en a l c] Fr (fun _ : Unit => True) (fun _ => .int .i64 (chk en l)) (fun _ => Fr) := by
  refine Ctr.of_body Tryz.func52 rfl Tryz.ntmps52 rfl ?_
  refine CG.seq ?_
  refine CG.region ?_
  refine OG.effd (Eff.box rfl) rfl ?_
  rintro b1 -
  refine OG.sg rfl rfl ?_
  refine OG.nil ?_
  refine QG.then ?_
  refine CG.seq ?_
  refine CG.block ?_
  refine CG.seq ?_
  rcases (show en % 4 ≠ 0 ∨ (en % 4 = 0 ∧ 1048576 ≤ en) ∨ ((en % 4 = 0 ∧ en < 1048576) ∧ 16 < l.length) ∨ ((en % 4 = 0 ∧ en < 1048576) ∧ l.length ≤ 16) by omega) with hh | hh | hh | hh
  · skip
    rw [show chk en l = 6 by unfold chk; rw [if_pos (by omega)]]
    refine CG.region ?_
    refine OG.yield (Yield.fieldAddr fa35_0 rfl) rfl ?_
    refine OG.yield (Yield.loadA ti30 rfl) rfl ?_
    refine OG.yield (Yield.rem rfl rfl (by omega) (tmod_pos (by omega) (by omega))) rfl ?_
    refine OG.yield Yield.neqA rfl ?_
    refine OG.mv rfl rfl ?_
    refine OG.gn rfl rfl rfl rfl rfl ?_
    refine OG.gn rfl rfl rfl rfl rfl ?_
    refine OG.gn rfl rfl rfl rfl rfl ?_
    refine OG.yield Yield.pickA rfl ?_
    refine OG.sg rfl rfl ?_
    refine OG.nil ?_
    refine QG.then ?_
    refine CG.cond_t rfl ?_
    refine CG.seq ?_
    refine CG.region ?_
    refine OG.sg rfl rfl ?_
    refine OG.nil ?_
    refine QG.then ?_
    refine CG.ret ?_
    refine QG.block_ret ?_
    refine QG.pass_ret ?_
    exact QG.ret1 rfl rfl () trivial rfl iM
  · skip
    rw [show chk en l = 6 by unfold chk; rw [if_pos (by omega)]]
    refine CG.region ?_
    refine OG.yield (Yield.fieldAddr fa35_0 rfl) rfl ?_
    refine OG.yield (Yield.loadA ti30 rfl) rfl ?_
    refine OG.yield (Yield.rem rfl rfl (by omega) (tmod_pos (by omega) (by omega))) rfl ?_
    refine OG.yield Yield.neqA rfl ?_
    refine OG.mv rfl rfl ?_
    refine OG.gy rfl rfl rfl ?_
    refine OG.yield (Yield.fieldAddr fa35_0 rfl) rfl ?_
    refine OG.gy rfl rfl rfl ?_
    refine OG.yield (Yield.loadA ti30 rfl) rfl ?_
    refine OG.gy rfl rfl rfl ?_
    refine OG.yield Yield.geqA rfl ?_
    refine OG.yield Yield.pickA rfl ?_
    refine OG.sg rfl rfl ?_
    refine OG.nil ?_
    refine QG.then ?_
    refine CG.cond_t rfl ?_
    refine CG.seq ?_
    refine CG.region ?_
    refine OG.sg rfl rfl ?_
    refine OG.nil ?_
    refine QG.then ?_
    refine CG.ret ?_
    refine QG.block_ret ?_
    refine QG.pass_ret ?_
    first | exact QG.ret1 rfl rfl () trivial rfl iM | exact QG.ret1 rfl rfl () trivial (congrArg (Value.int .i64) hck2) iM
  · skip
    rw [show chk en l = 9 by unfold chk; rw [if_neg (by omega), if_pos hh.2]]
    refine CG.region ?_
    refine OG.yield (Yield.fieldAddr fa35_0 rfl) rfl ?_
    refine OG.yield (Yield.loadA ti30 rfl) rfl ?_
    refine OG.yield (Yield.rem rfl rfl (by omega) (tmod_pos (by omega) (by omega))) rfl ?_
    refine OG.yield Yield.neqA rfl ?_
    refine OG.mv rfl rfl ?_
    refine OG.gy rfl rfl rfl ?_
    refine OG.yield (Yield.fieldAddr fa35_0 rfl) rfl ?_
    refine OG.gy rfl rfl rfl ?_
    refine OG.yield (Yield.loadA ti30 rfl) rfl ?_
    refine OG.gy rfl rfl rfl ?_
    refine OG.yield Yield.geqA rfl ?_
    refine OG.yield Yield.pickA rfl ?_
    refine OG.sg rfl rfl ?_
    refine OG.nil ?_
    refine QG.then ?_
    refine CG.cond_f rfl ?_
    refine CG.seq ?_
    refine CG.region ?_
    refine OG.yield (Yield.fieldAddr fa35_1 rfl) rfl ?_
    refine OG.yield (Yield.loadA ti33 rfl) rfl ?_
    refine OG.yield (Yield.len_slice Tryz.underlying33 rfl rfl) rfl ?_
    refine OG.yield Yield.gtrA rfl ?_
    refine OG.sg rfl rfl ?_
    refine OG.nil ?_
    refine QG.then ?_
    refine CG.cond_t rfl ?_
    refine CG.seq ?_
    refine CG.region ?_
    refine OG.sg rfl rfl ?_
    refine OG.nil ?_
    refine QG.then ?_
    refine CG.ret ?_
    refine QG.block_ret ?_
    refine QG.pass_ret ?_
    exact QG.ret1 rfl rfl () trivial rfl iM
  · skip
    have hck : chk en l = chkL l 0 (-1) := by unfold chk; rw [if_neg (by omega), if_neg (by omega)]
    refine CG.region ?_
    refine OG.yield (Yield.fieldAddr fa35_0 rfl) rfl ?_
    refine OG.yield (Yield.loadA ti30 rfl) rfl ?_
    refine OG.yield (Yield.rem rfl rfl (by omega) (tmod_pos (by omega) (by omega))) rfl ?_
    refine OG.yield Yield.neqA rfl ?_
    refine OG.mv rfl rfl ?_
    refine OG.gy rfl rfl rfl ?_
    refine OG.yield (Yield.fieldAddr fa35_0 rfl) rfl ?_
    refine OG.gy rfl rfl rfl ?_
    refine OG.yield (Yield.loadA ti30 rfl) rfl ?_
    refine OG.gy rfl rfl rfl ?_
    refine OG.yield Yield.geqA rfl ?_
    refine OG.yield Yield.pickA rfl ?_
    refine OG.sg rfl rfl ?_
    refine OG.nil ?_
    refine QG.then ?_
    refine CG.cond_f rfl ?_
    refine CG.seq ?_
    refine CG.region ?_
    refine OG.yield (Yield.fieldAddr fa35_1 rfl) rfl ?_
    refine OG.yield (Yield.loadA ti33 rfl) rfl ?_
    refine OG.yield (Yield.len_slice Tryz.underlying33 rfl rfl) rfl ?_
    refine OG.yield Yield.gtrA rfl ?_
    refine OG.sg rfl rfl ?_
    refine OG.nil ?_
    refine QG.then ?_
    refine CG.cond_f rfl ?_
    refine CG.skip ?_
    refine QG.block_normal ?_
    refine QG.then ?_
    refine CG.seq ?_
    refine CG.region ?_
    refine OG.sg rfl rfl ?_
    refine OG.sg rfl rfl ?_
    refine OG.nil ?_
    refine QG.then ?_
    refine CG.seq ?_
    refine CG.seq ?_
    refine CG.region ?_
    refine OG.yield (Yield.fieldAddr fa35_1 rfl) rfl ?_
    refine OG.yield (Yield.loadA ti33 rfl) rfl ?_
    refine OG.yield (Yield.len_slice Tryz.underlying33 rfl rfl) rfl ?_
    refine OG.mv rfl rfl ?_
    refine OG.nil ?_
    refine QG.then ?_
    refine CG.block ?_
    refine CG.loop (fun y : Nat × Int × Int => y.1 ≤ l.length ∧ 0 ≤ y.2.1 ∧ y.2.1 ≤ 16384 ∧ chkL (l.drop y.1) y.2.1 y.2.2 = chk en l) (fun y => [(1, .pointer (some ⟨b1, 0, none⟩)), (3, .int .i64 y.2.1), (4, .int .i64 y.2.2), (24, .slice a l.length c), (25, .int .i64 l.length), (26, .int .i64 y.1)]) (fun _ => Fr) (fun y => l.length - y.1) (0, 0, -1) ⟨Nat.zero_le _, by decide, by decide, by rw [hck]; rfl⟩ eS iM ?_
    rintro ⟨i, tot, last⟩ ⟨hi, ht0, ht1, hck2⟩
    dsimp only at hi ht0 ht1 hck2 ⊢
    refine CG.seq ?_
    refine CG.region ?_
    refine OG.yield Yield.lssA rfl ?_
    refine OG.nil ?_
    refine QG.then ?_
    refine CG.seq ?_
    refine CG.cond rfl (fun hc => ?_) (fun hc => ?_)
    · try replace hc := of_decide_eq_true hc
      obtain ⟨s, hs⟩ : ∃ s, l[i]? = some s := ⟨_, List.getElem?_eq_getElem (by omega)⟩
      have hsm := List.mem_of_getElem? hs
      have hsl := h.len s hsm
      have hsl2 := hsl
      unfold reachBytes at hsl2
      rw [chkL_step hs] at hck2
      refine CG.pure (fun w hw => SlR.elem_shape (W0 := W0) (f := SSec.cells) (xs := l) (i := i) h.cells SSec.len (by decide) (by omega) w hw) ?_
      rintro ⟨ba, bo, rfl⟩
      have r1 := SlR.elem (f := SSec.cells) (xs := l) (i := i) h.cells SSec.len hs
      refine CG.skip ?_
      refine QG.then ?_
      refine CG.seq ?_
      refine CG.block ?_
      refine CG.seq ?_
      refine CG.region ?_
      refine OG.yield (Yield.index_slice Tryz.underlying33 ti82 rfl rfl (by omega) (by omega)) rfl ?_
      refine OG.yield (Yield.load_agg (vs := s.cells) ti82 rfl (SSec.len _) (by rw [show bo + (i : Int).toNat * 3 = bo + i * 3 by omega]; exact r1)) rfl ?_
      refine OG.effd (Eff.alloc ti82) rfl ?_
      rintro b6 -
      refine OG.eff (Eff.storeAll (vs := s.cells) ti82 rfl rfl fC rfl (SSec.ones _) (by simp [Value.cells])) rfl ?_
      rintro ⟨⟩ -
      refine OG.nil ?_
      refine QG.then ?_
      refine CG.seq ?_
      refine CG.seq ?_
      refine CG.region ?_
      refine OG.yield (Yield.load_agg (vs := s.cells) ti82 rfl (SSec.len _) (Row.of_blk (b := b6) eX rfl)) rfl ?_
      refine OG.mv rfl rfl ?_
      refine OG.mv rfl rfl ?_
      refine OG.callo call90 rfl (iM) (section_spec W0 _ (s := s) (total := tot) (last := last) ht0 ht1 hsl) rfl ?_
      rintro ⟨⟩ -
      refine OG.sg rfl rfl ?_
      refine OG.nil ?_
      refine QG.then ?_
      refine CG.seq ?_
      rcases Decidable.em (sectE s (tot + s.Bytes.length) last = 0) with he | he
      · skip
        obtain ⟨ok1, ok2, ok3, ok4⟩ := sectE_ok he
        rw [if_pos he] at hck2
        refine CG.region ?_
        refine OG.mv rfl rfl ?_
        refine OG.yield (Yield.as (Yield.neq rfl rfl) (v' := .bool false) (bF (by simpa using he))) rfl ?_
        refine OG.nil ?_
        refine QG.then ?_
        refine CG.cond_f rfl ?_
        refine CG.skip ?_
        refine QG.then ?_
        refine CG.seq ?_
        refine CG.region ?_
        refine OG.mv rfl rfl ?_
        refine OG.yield (Yield.fieldAddr fa82_2 rfl) rfl ?_
        refine OG.yield (Yield.loadA ti32 rfl) rfl ?_
        refine OG.yield (Yield.len_slice Tryz.underlying32 rfl rfl) rfl ?_
        refine OG.yield (Yield.add rfl rfl (w64 (by omega) (by omega))) rfl ?_
        refine OG.sg rfl rfl ?_
        refine OG.nil ?_
        refine QG.then ?_
        refine CG.region ?_
        refine OG.yield (Yield.load_agg (vs := s.cells) ti82 rfl (SSec.len _) (Row.of_blk (b := b6) eX rfl)) rfl ?_
        refine OG.callo call91 rfl (iM) (end_spec W0 _ (s := s) (by omega) (by omega) (by omega) hsl) rfl ?_
        rintro ⟨⟩ -
        refine OG.sg rfl rfl ?_
        refine OG.nil ?_
        refine QG.block_normal ?_
        refine QG.then ?_
        refine CG.region ?_
        refine OG.yield (Yield.add rfl rfl (w64 (by omega) (by omega))) rfl ?_
        refine OG.mv rfl rfl ?_
        refine OG.nil ?_
        exact QG.next (i + 1, tot + s.Bytes.length, endS s) ⟨by simp only; omega, by simp only; omega, ok2, hck2⟩ (by simp only; omega) eS iM
      · skip
        rw [if_neg he] at hck2
        refine CG.region ?_
        refine OG.mv rfl rfl ?_
        refine OG.yield (Yield.as (Yield.neq rfl rfl) (v' := .bool true) (bT he)) rfl ?_
        refine OG.nil ?_
        refine QG.then ?_
        refine CG.cond_t rfl ?_
        refine CG.seq ?_
        refine CG.region ?_
        refine OG.mv rfl rfl ?_
        refine OG.sg rfl rfl ?_
        refine OG.nil ?_
        refine QG.then ?_
        refine CG.ret ?_
        refine QG.pass_ret ?_
        refine QG.block_ret ?_
        refine QG.pass_ret ?_
        refine QG.pass_ret ?_
        refine QG.block_ret ?_
        refine QG.pass_ret ?_
        first | exact QG.ret1 rfl rfl () trivial rfl iM | exact QG.ret1 rfl rfl () trivial (congrArg (Value.int .i64) hck2) iM
    · try replace hc := of_decide_eq_false hc
      refine CG.exit ?_
      refine QG.pass_exit ?_
      refine QG.pass_exit ?_
      refine QG.block_exit ?_
      refine QG.then ?_
      refine CG.seq ?_
      refine CG.region ?_
      refine OG.sg rfl rfl ?_
      refine OG.nil ?_
      refine QG.then ?_
      refine CG.ret ?_
      obtain rfl : i = l.length := by omega
      rw [List.drop_length] at hck2
      exact QG.ret1 rfl rfl () trivial (by rw [← hck2]; rfl) iM
set_option maxHeartbeats 1000000 in
theorem rcheck_spec {en : Int} {a : Option Addr} {l : List SSec} {c : Nat} (hen : 0 ≤ en) (hen2 : en ≤ 4294967295) (h : SecR W0 Fr a l) : Ctr Tryz.prog W0 57 [imgV en a l c] Fr (fun _ : Unit => True) (fun _ => .int .i64 (chk en l)) (fun _ => Fr) := by
  refine Ctr.of_body Tryz.func57 rfl Tryz.ntmps57 rfl ?_
  refine CG.seq ?_
  refine CG.region ?_
  refine OG.effd (Eff.box rfl) rfl ?_
  rintro b1 -
  refine OG.sg rfl rfl ?_
  refine OG.nil ?_
  refine QG.then ?_
  refine CG.seq ?_
  refine CG.seq ?_
  rcases (show en % 4 ≠ 0 ∨ (en % 4 = 0 ∧ 1048576 ≤ en) ∨ ((en % 4 = 0 ∧ en < 1048576) ∧ 16 < l.length) ∨ ((en % 4 = 0 ∧ en < 1048576) ∧ l.length ≤ 16) by omega) with hh | hh | hh | hh
  · skip
    rw [show chk en l = 6 by unfold chk; rw [if_pos (by omega)]]
    refine CG.region ?_
    refine OG.yield (Yield.fieldAddr fa35_0 rfl) rfl ?_
    refine OG.yield (Yield.loadA ti30 rfl) rfl ?_
    refine OG.yield (Yield.rem rfl rfl (by omega) (tmod_pos (by omega) (by omega))) rfl ?_
    refine OG.yield Yield.neqA rfl ?_
    refine OG.mv rfl rfl ?_
    refine OG.gn rfl rfl rfl rfl rfl ?_
    refine OG.gn rfl rfl rfl rfl rfl ?_
    refine OG.gn rfl rfl rfl rfl rfl ?_
    refine OG.yield Yield.pickA rfl ?_
    refine OG.nil ?_
    refine QG.then ?_
    refine CG.cond_t rfl ?_
    refine CG.seq ?_
    refine CG.region ?_
    refine OG.sg rfl rfl ?_
    refine OG.nil ?_
    refine QG.then ?_
    refine CG.ret ?_
    refine QG.pass_ret ?_
    exact QG.ret1 rfl rfl () trivial rfl iM
  · skip
    rw [show chk en l = 6 by unfold chk; rw [if_pos (by omega)]]
    refine CG.region ?_
    refine OG.yield (Yield.fieldAddr fa35_0 rfl) rfl ?_
    refine OG.yield (Yield.loadA ti30 rfl) rfl ?_
    refine OG.yield (Yield.rem rfl rfl (by omega) (tmod_pos (by omega) (by omega))) rfl ?_
    refine OG.yield Yield.neqA rfl ?_
    refine OG.mv rfl rfl ?_
    refine OG.gy rfl rfl rfl ?_
    refine OG.yield (Yield.fieldAddr fa35_0 rfl) rfl ?_
    refine OG.gy rfl rfl rfl ?_
    refine OG.yield (Yield.loadA ti30 rfl) rfl ?_
    refine OG.gy rfl rfl rfl ?_
    refine OG.yield Yield.geqA rfl ?_
    refine OG.yield Yield.pickA rfl ?_
    refine OG.nil ?_
    refine QG.then ?_
    refine CG.cond_t rfl ?_
    refine CG.seq ?_
    refine CG.region ?_
    refine OG.sg rfl rfl ?_
    refine OG.nil ?_
    refine QG.then ?_
    refine CG.ret ?_
    refine QG.pass_ret ?_
    first | exact QG.ret1 rfl rfl () trivial rfl iM | exact QG.ret1 rfl rfl () trivial (congrArg (Value.int .i64) hck2) iM
  · skip
    rw [show chk en l = 9 by unfold chk; rw [if_neg (by omega), if_pos hh.2]]
    refine CG.region ?_
    refine OG.yield (Yield.fieldAddr fa35_0 rfl) rfl ?_
    refine OG.yield (Yield.loadA ti30 rfl) rfl ?_
    refine OG.yield (Yield.rem rfl rfl (by omega) (tmod_pos (by omega) (by omega))) rfl ?_
    refine OG.yield Yield.neqA rfl ?_
    refine OG.mv rfl rfl ?_
    refine OG.gy rfl rfl rfl ?_
    refine OG.yield (Yield.fieldAddr fa35_0 rfl) rfl ?_
    refine OG.gy rfl rfl rfl ?_
    refine OG.yield (Yield.loadA ti30 rfl) rfl ?_
    refine OG.gy rfl rfl rfl ?_
    refine OG.yield Yield.geqA rfl ?_
    refine OG.yield Yield.pickA rfl ?_
    refine OG.nil ?_
    refine QG.then ?_
    refine CG.cond_f rfl ?_
    refine CG.skip ?_
    refine QG.then ?_
    refine CG.seq ?_
    refine CG.seq ?_
    refine CG.region ?_
    refine OG.yield (Yield.fieldAddr fa35_1 rfl) rfl ?_
    refine OG.yield (Yield.loadA ti33 rfl) rfl ?_
    refine OG.yield (Yield.len_slice Tryz.underlying33 rfl rfl) rfl ?_
    refine OG.yield Yield.gtrA rfl ?_
    refine OG.nil ?_
    refine QG.then ?_
    refine CG.cond_t rfl ?_
    refine CG.seq ?_
    refine CG.region ?_
    refine OG.sg rfl rfl ?_
    refine OG.nil ?_
    refine QG.then ?_
    refine CG.ret ?_
    refine QG.pass_ret ?_
    exact QG.ret1 rfl rfl () trivial rfl iM
  · skip
    have hck : chk en l = chkL l 0 (-1) := by unfold chk; rw [if_neg (by omega), if_neg (by omega)]
    refine CG.region ?_
    refine OG.yield (Yield.fieldAddr fa35_0 rfl) rfl ?_
    refine OG.yield (Yield.loadA ti30 rfl) rfl ?_
    refine OG.yield (Yield.rem rfl rfl (by omega) (tmod_pos (by omega) (by omega))) rfl ?_
    refine OG.yield Yield.neqA rfl ?_
    refine OG.mv rfl rfl ?_
    refine OG.gy rfl rfl rfl ?_
    refine OG.yield (Yield.fieldAddr fa35_0 rfl) rfl ?_
    refine OG.gy rfl rfl rfl ?_
    refine OG.yield (Yield.loadA ti30 rfl) rfl ?_
    refine OG.gy rfl rfl rfl ?_
    refine OG.yield Yield.geqA rfl ?_
    refine OG.yield Yield.pickA rfl ?_
    refine OG.nil ?_
    refine QG.then ?_
    refine CG.cond_f rfl ?_
    refine CG.skip ?_
    refine QG.then ?_
    refine CG.seq ?_
    refine CG.seq ?_
    refine CG.region ?_
    refine OG.yield (Yield.fieldAddr fa35_1 rfl) rfl ?_
    refine OG.yield (Yield.loadA ti33 rfl) rfl ?_
    refine OG.yield (Yield.len_slice Tryz.underlying33 rfl rfl) rfl ?_
    refine OG.yield Yield.gtrA rfl ?_
    refine OG.nil ?_
    refine QG.then ?_
    refine CG.cond_f rfl ?_
    refine CG.skip ?_
    refine QG.then ?_
    refine CG.seq ?_
    refine CG.region ?_
    refine OG.sg rfl rfl ?_
    refine OG.nil ?_
    refine QG.then ?_
    refine CG.seq ?_
    refine CG.region ?_
    refine OG.sg rfl rfl ?_
    refine OG.nil ?_
    refine QG.then ?_
    refine CG.seq ?_
    refine CG.seq ?_
    refine CG.region ?_
    refine OG.sg rfl rfl ?_
    refine OG.nil ?_
    refine QG.then ?_
    refine CG.block ?_
    refine CG.loop (fun y : Nat × Int × Int => y.1 ≤ l.length ∧ 0 ≤ y.2.1 ∧ y.2.1 ≤ 16384 ∧ chkL (l.drop y.1) y.2.1 y.2.2 = chk en l) (fun y => [(1, .pointer (some ⟨b1, 0, none⟩)), (3, .int .i64 y.2.1), (4, .int .i64 y.2.2), (5, .int .i64 y.1)]) (fun _ => blk b1 [.int .u32 en, .slice a l.length c] 35 :: Fr) (fun y => l.length - y.1) (0, 0, -1) ⟨Nat.zero_le _, by decide, by decide, by rw [hck]; rfl⟩ eS iM ?_
    rintro ⟨i, tot, last⟩ ⟨hi, ht0, ht1, hck2⟩
    dsimp only at hi ht0 ht1 hck2 ⊢
    refine CG.seq ?_
    refine CG.seq ?_
    refine CG.region ?_
    refine OG.mv rfl rfl ?_
    refine OG.yield (Yield.fieldAddr fa35_1 rfl) rfl ?_
    refine OG.yield (Yield.loadA ti33 rfl) rfl ?_
    refine OG.yield (Yield.len_slice Tryz.underlying33 rfl rfl) rfl ?_
    refine OG.yield Yield.lssA rfl ?_
    refine OG.nil ?_
    refine QG.then ?_
    refine CG.cond rfl (fun hc => ?_) (fun hc => ?_)
    · try replace hc := of_decide_eq_true hc
      obtain ⟨s, hs⟩ : ∃ s, l[i]? = some s := ⟨_, List.getElem?_eq_getElem (by omega)⟩
      have hsm := List.mem_of_getElem? hs
      have hsl := h.len s hsm
      have hsl2 := hsl
      unfold reachBytes at hsl2
      rw [chkL_step hs] at hck2
      refine CG.pure (fun w hw => SlR.elem_shape (W0 := W0) (G := Fr) (f := SSec.cells) (xs := l) (i := i) h.cells SSec.len (by decide) (by omega) w (hw.imp Imp.drop)) ?_
      rintro ⟨ba, bo, rfl⟩
      have r1 : Row W0 (blk b1 [.int .u32 en, .slice (some ⟨ba, bo, none⟩) l.length c] 35 :: Fr) ba (bo + i * 3) s.cells := (SlR.elem (f := SSec.cells) (xs := l) (i := i) h.cells SSec.len hs).imp Imp.drop
      refine CG.skip ?_
      refine QG.then ?_
      refine CG.seq ?_
      refine CG.block ?_
      refine CG.seq ?_
      refine CG.region ?_
      refine OG.mv rfl rfl ?_
      refine OG.yield (Yield.fieldAddr fa35_1 rfl) rfl ?_
      refine OG.yield (Yield.loadA ti33 rfl) rfl ?_
      refine OG.mv rfl rfl ?_
      refine OG.yield (Yield.index_slice Tryz.underlying33 ti82 rfl rfl (by omega) (by omega)) rfl ?_
      refine OG.yield (Yield.fieldAddr fa82_2 rfl) rfl ?_
      refine OG.yield (Yield.load (v := .slice s.Bytesa s.Bytes.length s.Bytesc) ti32 rfl (by rw [show bo + (i : Int).toNat * 3 = bo + i * 3 by omega]; exact r1 2 _ rfl)) rfl ?_
      refine OG.yield (Yield.len_slice Tryz.underlying32 rfl rfl) rfl ?_
      refine OG.yield (Yield.add rfl rfl (w64 (by omega) (by omega))) rfl ?_
      refine OG.yield (Yield.min2 rfl rfl) rfl ?_
      refine OG.sg rfl rfl ?_
      refine OG.nil ?_
      refine QG.then ?_
      refine CG.seq ?_
      refine CG.region ?_
      refine OG.yield (Yield.fieldAddr fa35_1 rfl) rfl ?_
      refine OG.yield (Yield.loadA ti33 rfl) rfl ?_
      refine OG.mv rfl rfl ?_
      refine OG.yield (Yield.index_slice Tryz.underlying33 ti82 rfl rfl (by omega) (by omega)) rfl ?_
      refine OG.yield (Yield.load_agg (vs := s.cells) ti82 rfl (SSec.len _) (by rw [show bo + (i : Int).toNat * 3 = bo + i * 3 by omega]; exact r1)) rfl ?_
      refine OG.mv rfl rfl ?_
      refine OG.mv rfl rfl ?_
      refine OG.callo call93 rfl (iM) (rsection_spec W0 _ (s := s) (total := min (tot + s.Bytes.length) 1048576) (last := last) hsl) rfl ?_
      rintro ⟨⟩ -
      rw [sectE_min]
      refine OG.sg rfl rfl ?_
      refine OG.nil ?_
      refine QG.then ?_
      refine CG.seq ?_
      refine CG.seq ?_
      rcases Decidable.em (sectE s (tot + s.Bytes.length) last = 0) with he | he
      · skip
        obtain ⟨ok1, ok2, ok3, ok4⟩ := sectE_ok he
        rw [if_pos he] at hck2
        refine CG.region ?_
        refine OG.mv rfl rfl ?_
        refine OG.yield (Yield.as (Yield.neq rfl rfl) (v' := .bool false) (bF (by simpa using he))) rfl ?_
        refine OG.nil ?_
        refine QG.then ?_
        refine CG.cond_f rfl ?_
        refine CG.skip ?_
        refine QG.then ?_
        refine CG.region ?_
        refine OG.yield (Yield.fieldAddr fa35_1 rfl) rfl ?_
        refine OG.yield (Yield.loadA ti33 rfl) rfl ?_
        refine OG.mv rfl rfl ?_
        refine OG.yield (Yield.index_slice Tryz.underlying33 ti82 rfl rfl (by omega) (by omega)) rfl ?_
        refine OG.yield (Yield.load_agg (vs := s.cells) ti82 rfl (SSec.len _) (by rw [show bo + (i : Int).toNat * 3 = bo + i * 3 by omega]; exact r1)) rfl ?_
        refine OG.callo call58 rfl (iM) (last_spec W0 _ (s := s) (by omega) (by omega) (by omega) hsl) rfl ?_
        rintro ⟨⟩ -
        refine OG.sg rfl rfl ?_
        refine OG.nil ?_
        refine QG.block_normal ?_
        refine QG.then ?_
        refine CG.region ?_
        refine OG.mv rfl rfl ?_
        refine OG.yield (Yield.add rfl rfl (w64 (by omega) (by omega))) rfl ?_
        refine OG.sg rfl rfl ?_
        refine OG.nil ?_
        rw [show min (tot + (s.Bytes.length : Int)) 1048576 = tot + s.Bytes.length by omega]
        exact QG.next (i + 1, tot + s.Bytes.length, endS s) ⟨by simp only; omega, by simp only; omega, ok2, hck2⟩ (by simp only; omega) eS iM
      · skip
        rw [if_neg he] at hck2
        refine CG.region ?_
        refine OG.mv rfl rfl ?_
        refine OG.yield (Yield.as (Yield.neq rfl rfl) (v' := .bool true) (bT he)) rfl ?_
        refine OG.nil ?_
        refine QG.then ?_
        refine CG.cond_t rfl ?_
        refine CG.seq ?_
        refine CG.region ?_
        refine OG.mv rfl rfl ?_
        refine OG.sg rfl rfl ?_
        refine OG.nil ?_
        refine QG.then ?_
        refine CG.ret ?_
        refine QG.pass_ret ?_
        refine QG.block_ret ?_
        refine QG.pass_ret ?_
        refine QG.pass_ret ?_
        refine QG.block_ret ?_
        refine QG.pass_ret ?_
        first | exact QG.ret1 rfl rfl () trivial rfl iM | exact QG.ret1 rfl rfl () trivial (congrArg (Value.int .i64) hck2) iM
    · try replace hc := of_decide_eq_false hc
      refine CG.exit ?_
      refine QG.pass_exit ?_
      refine QG.pass_exit ?_
      refine QG.block_exit ?_
      refine QG.then ?_
      refine CG.seq ?_
      refine CG.region ?_
      refine OG.sg rfl rfl ?_
      refine OG.nil ?_
      refine QG.then ?_
      refine CG.ret ?_
      obtain rfl : i = l.length := by omega
      rw [List.drop_length] at hck2
      exact QG.ret1 rfl rfl () trivial (by rw [← hck2]; rfl) iM
end
end Go.Proofs.YtmlfcfbblfcpdaaGreat.Sp
/- space.Space: pieces of pages one after another, and what they are used for: In and Out. -/
namespace Go.Proofs.YtmlfcfbblfcpdaaGreat.Sp
open Go Go.Sl Go.RowKit Go.Proofs Go.Proofs.YtmlfcfbblfcpdaaGreat.T Go.Proofs.YtmlfcfbblfcpdaaGreat.Me Go.Proofs.YtmlfcfbblfcpdaaGreat.Pe Go.Proofs.YtmlfcfbblfcpdaaGreat.Pg
set_option maxRecDepth 100000
/-- Which right a page has. -/
def pmO (o : Ob) (k q : Nat) : Option Nat := (o.vw k q).map (·.1)
/-- May the byte at an address be reached? -/
def mayP (pm : Nat → Option Nat) (right : Int) (a : Nat) : Bool := decide (a < 1048576) && match pm (a / 256) with | some p => decide (Go.bits .and .i64 (p : Int) right ≠ 0) | none => false
theorem mayP_far {pm : Nat → Option Nat} {right : Int} {a : Nat} (h : 1048576 ≤ a) : mayP pm right a = false := by unfold mayP; rw [decide_eq_false (by omega)]; rfl
theorem mayP_none {pm : Nat → Option Nat} {right : Int} {a : Nat} (h : pm (a / 256) = none) : mayP pm right a = false := by unfold mayP; rw [h]; simp
theorem mayP_some {pm : Nat → Option Nat} {right : Int} {a p : Nat} (ha : a < 1048576) (h : pm (a / 256) = some p) : mayP pm right a = decide (Go.bits .and .i64 (p : Int) right ≠ 0) := by unfold mayP; rw [h, decide_eq_true ha]; rfl
/-- Where a piece ends. -/
def ends (ad nn j : Nat) : Nat := min nn (j + 256 - (ad + j) % 256)
theorem ends_gt {ad nn j : Nat} (h : j < nn) : j < ends ad nn j := by unfold ends; have := Nat.mod_lt (ad + j) (show 0 < 256 by decide); omega
theorem ends_le {ad nn j : Nat} : ends ad nn j ≤ nn := Nat.min_le_left _ _
theorem ends_page {ad nn j i : Nat} (h1 : j ≤ i) (h2 : i < ends ad nn j) : (ad + i) / 256 = (ad + j) / 256 := by unfold ends at h2; omega
theorem Ctr.re {P : Program} {W0 : World} {f : FuncId} {vs : List Value} {G : List HProp} {α β : Type} {φ : α → Prop} {v : α → Value} {G' : α → List HProp} {ψ : β → Prop} {u : β → Value} {H : β → List HProp} (h : Ctr P W0 f vs G φ v G') (g : α → β) (hφ : ∀ x, φ x → ψ (g x)) (hv : ∀ x, φ x → v x = u (g x)) (hG : ∀ x, φ x → Imp (G' x) (H (g x))) : Ctr P W0 f vs G ψ u H := fun w hw => (h w hw).mono (by
  rintro r w' ⟨x, hx, rfl, hs⟩
  exact ⟨g x, hφ x hx, by rw [hv x hx], hs.imp (hG x hx)⟩)
theorem overB_get {bs ys : List UInt8} {a i : Nat} (ha : a + ys.length ≤ bs.length) : (overB bs a ys)[i]? = if a ≤ i ∧ i < a + ys.length then ys[i - a]? else bs[i]? := by
  by_cases h1 : i < a
  · rw [overB_lo h1 ha, if_neg (by omega)]
  · by_cases h2 : a + ys.length ≤ i
    · rw [overB_hi h2 ha, if_neg (by omega)]
    · rw [if_pos (by omega)]
      have e : (bs.take a).length = a := by rw [List.length_take]; omega
      unfold overB
      rw [List.append_assoc, List.getElem?_append_right (by omega), e, List.getElem?_append_left (by omega)]
/-- The byte at an address. -/
def byteO (o : Ob) (k a : Nat) : UInt8 := match o.vw k (a / 256) with | some x => (x.2[a % 256]?).getD 0 | none => 0
/-- What In has copied so far. -/
def bufI (o : Ob) (k ad nn j : Nat) : List UInt8 := (List.range nn).map fun i => if i < j then byteO o k (ad + i) else 0
theorem bufI_len {o : Ob} {k ad nn j : Nat} : (bufI o k ad nn j).length = nn := by simp [bufI]
theorem bufI_get {o : Ob} {k ad nn j i : Nat} (h : i < nn) : (bufI o k ad nn j)[i]? = some (if i < j then byteO o k (ad + i) else 0) := by unfold bufI; rw [List.getElem?_map, List.getElem?_range h]; rfl
theorem bufI_zero {o : Ob} {k ad nn : Nat} : bufI o k ad nn 0 = List.replicate nn 0 := by
  apply List.ext_getElem?; intro i
  by_cases h : i < nn
  · rw [bufI_get h]; simp [h]
  · rw [List.getElem?_eq_none (by rw [bufI_len]; omega), List.getElem?_eq_none (by simp; omega)]
theorem ends_len {ad nn j : Nat} {pg : List UInt8} (hp : pg.length = 256) (hj : j < nn) : ((pg.drop ((ad + j) % 256)).take (ends ad nn j - j)).length = ends ad nn j - j := by
  rw [List.length_take, List.length_drop, hp]; unfold ends; omega
theorem bufI_step {o : Ob} {k ad nn j p : Nat} {pg : List UInt8} (hx : o.vw k ((ad + j) / 256) = some (p, pg)) (hp : pg.length = 256) (hj : j < nn) :
    overB (bufI o k ad nn j) j ((pg.drop ((ad + j) % 256)).take (ends ad nn j - j)) = bufI o k ad nn (ends ad nn j) := by
  have hl := ends_len (ad := ad) hp hj
  have h1 := ends_gt (ad := ad) hj
  have h2 := ends_le (ad := ad) (nn := nn) (j := j)
  apply List.ext_getElem?; intro i
  rw [overB_get (by rw [hl, bufI_len]; omega), hl]
  by_cases hi : i < nn
  · rw [bufI_get hi, bufI_get hi]
    by_cases h : j ≤ i ∧ i < j + (ends ad nn j - j)
    · have hpg := ends_page (ad := ad) (nn := nn) h.1 (by omega)
      rw [if_pos h, if_pos (by omega), List.getElem?_take, if_pos (by omega), List.getElem?_drop]
      have hb : (ad + j) % 256 + (i - j) = (ad + i) % 256 := by omega
      rw [hb]
      unfold byteO; rw [hpg, hx]
      have : (ad + i) % 256 < pg.length := by omega
      simp [this]
    · rw [if_neg h]
      by_cases hij : i < j
      · rw [if_pos hij, if_pos (by omega)]
      · rw [if_neg hij, if_neg (by omega)]
  · rw [if_neg (by omega), List.getElem?_eq_none (by rw [bufI_len]; omega), List.getElem?_eq_none (by rw [bufI_len]; omega)]
/-- May some bytes be reached? -/
def mayA (o : Ob) (k : Nat) (right : Int) (ad nn : Nat) : Bool := (List.range nn).all fun i => mayP (pmO o k) right (ad + i)
theorem mayA_t {o : Ob} {k ad nn : Nat} {right : Int} (h : ∀ i, i < nn → mayP (pmO o k) right (ad + i) = true) : mayA o k right ad nn = true := by
  unfold mayA; rw [List.all_eq_true]; intro i hi; exact h i (List.mem_range.1 hi)
theorem mayA_f {o : Ob} {k ad nn j : Nat} {right : Int} (hj : j < nn) (h : mayP (pmO o k) right (ad + j) = false) : mayA o k right ad nn = false := by
  rw [Bool.eq_false_iff]; intro q; unfold mayA at q
  have := List.all_eq_true.1 q j (List.mem_range.2 hj)
  rw [h] at this; cases this
/-- What In answers. -/
def inO (o : Ob) (k ad : Nat) (nI : Int) : List UInt8 × Int := if nI < 0 ∨ 4096 < nI then ([], 2) else if mayA o k 1 ad nI.toNat then (bufI o k ad nI.toNat nI.toNat, 0) else ([], 90)
theorem overB_frame {bs ys : List UInt8} {n q o : Nat} (hl : bs.length = n * 256) (hq : q < n) (ho : o + ys.length ≤ 256) : overB bs (q * 256) (fillB (overB (frB bs q) o ys)) = overB bs (q * 256 + o) ys := by
  have hf := frB_len hl hq
  have ho2 : (overB (frB bs q) o ys).length = 256 := by rw [overB_len (by omega), hf]
  have e : fillB (overB (frB bs q) o ys) = overB (frB bs q) o ys := by unfold fillB; rw [ho2]; simp
  rw [e]
  have hqn : q * 256 + 256 ≤ n * 256 := by omega
  apply List.ext_getElem?; intro i
  rw [overB_get (by rw [ho2]; omega), overB_get (bs := bs) (a := q * 256 + o) (ys := ys) (by omega), ho2]
  by_cases h : q * 256 ≤ i ∧ i < q * 256 + 256
  · rw [if_pos h, overB_get (by omega)]
    by_cases h2 : o ≤ i - q * 256 ∧ i - q * 256 < o + ys.length
    · rw [if_pos h2, if_pos (by omega)]; congr 1; omega
    · rw [if_neg h2, if_neg (by omega), frB_get (by omega)]; congr 1; omega
  · rw [if_neg h, if_neg (by omega)]
/-- A page over which some bytes were copied. -/
def putP (ad : Nat) (b : List UInt8) (j q : Nat) (pg : List UInt8) : List UInt8 := (List.range pg.length).map fun i => if i < 256 ∧ ad ≤ q * 256 + i ∧ q * 256 + i < ad + j then (b[q * 256 + i - ad]?).getD 0 else (pg[i]?).getD 0
/-- What can be seen when the first j bytes have been copied. -/
def outO (o : Ob) (k ad : Nat) (b : List UInt8) (j : Nat) : Ob := ⟨fun k' q => (o.vw k' q).map fun x => (x.1, if k' = k then putP ad b j q x.2 else x.2), o.ts, o.fr⟩
theorem putP_len {ad j q : Nat} {b pg : List UInt8} : (putP ad b j q pg).length = pg.length := by simp [putP]
theorem putP_get {ad j q i : Nat} {b pg : List UInt8} (h : i < pg.length) : (putP ad b j q pg)[i]? = some (if i < 256 ∧ ad ≤ q * 256 + i ∧ q * 256 + i < ad + j then (b[q * 256 + i - ad]?).getD 0 else (pg[i]?).getD 0) := by unfold putP; rw [List.getElem?_map, List.getElem?_range h]; rfl
theorem putP_out {ad j q i : Nat} {b pg : List UInt8} (h : pg.length ≤ i) : (putP ad b j q pg)[i]? = none := List.getElem?_eq_none (by rw [putP_len]; exact h)
theorem outO_zero {o : Ob} {k ad : Nat} {b : List UInt8} : outO o k ad b 0 = o := by
  have e : ∀ (q : Nat) (pg : List UInt8), putP ad b 0 q pg = pg := by
    intro q pg; apply List.ext_getElem?; intro i
    by_cases h : i < pg.length
    · rw [putP_get h, if_neg (by omega)]; simp [h]
    · rw [putP_out (by omega), List.getElem?_eq_none (by omega)]
  unfold outO
  obtain ⟨vw, ts, fr⟩ := o
  congr 1
  funext k' q
  simp only [e, ite_self]
  cases vw k' q <;> rfl
theorem outO_pm {o : Ob} {k ad : Nat} {b : List UInt8} (j k' q : Nat) : pmO (outO o k ad b j) k' q = pmO o k' q := by
  unfold pmO outO; simp only [Option.map_map]; rfl
theorem out_step {o : Ob} {k ad j p : Nat} {b pg : List UInt8} (hx : (outO o k ad b j).vw k ((ad + j) / 256) = some (p, pg)) (hp : pg.length = 256) (hj : j < b.length) :
    (⟨up2 (outO o k ad b j).vw k ((ad + j) / 256) (some (p, overB pg ((ad + j) % 256) ((b.drop j).take (ends ad b.length j - j)))), o.ts, o.fr⟩ : Ob) = outO o k ad b (ends ad b.length j) := by
  have h1 := ends_gt (ad := ad) hj
  have h2 := ends_le (ad := ad) (nn := b.length) (j := j)
  have hl : ((b.drop j).take (ends ad b.length j - j)).length = ends ad b.length j - j := by rw [List.length_take, List.length_drop]; omega
  have h3 : (ad + j) % 256 + (ends ad b.length j - j) ≤ 256 := by unfold ends; omega
  have hdm := Nat.div_add_mod (ad + j) 256
  unfold outO
  congr 1
  funext k' q
  by_cases h : k' = k ∧ q = (ad + j) / 256
  · obtain ⟨rfl, rfl⟩ := h
    rw [up2_at]
    unfold outO at hx
    dsimp only at hx
    cases hv : o.vw k' ((ad + j) / 256) with
    | none => rw [hv] at hx; cases hx
    | some y =>
      rw [hv] at hx
      simp only [Option.map_some, if_true, Option.some.injEq, Prod.mk.injEq] at hx
      obtain ⟨rfl, rfl⟩ := hx
      rw [putP_len] at hp
      simp only [Option.map_some, if_true, Option.some.injEq, Prod.mk.injEq, true_and]
      apply List.ext_getElem?; intro i
      rw [overB_get (by rw [hl, putP_len]; omega), hl]
      by_cases hi : i < y.2.length
      · rw [putP_get hi, putP_get hi]
        by_cases hc : (ad + j) % 256 ≤ i ∧ i < (ad + j) % 256 + (ends ad b.length j - j)
        · rw [if_pos hc, if_pos (by omega), List.getElem?_take, if_pos (by omega), List.getElem?_drop]
          have hb : j + (i - (ad + j) % 256) = (ad + j) / 256 * 256 + i - ad := by omega
          rw [hb]
          have : (ad + j) / 256 * 256 + i - ad < b.length := by omega
          simp [this]
        · rw [if_neg hc]
          by_cases hq : i < 256 ∧ ad ≤ (ad + j) / 256 * 256 + i ∧ (ad + j) / 256 * 256 + i < ad + j
          · rw [if_pos hq, if_pos (by omega)]
          · rw [if_neg hq, if_neg (by omega)]
      · rw [if_neg (by omega), putP_out (by omega), putP_out (by omega)]
  · rw [up2_ne (by omega)]
    show (o.vw k' q).map _ = _
    cases hv : o.vw k' q with
    | none => rfl
    | some y =>
      simp only [Option.map_some, Option.some.injEq, Prod.mk.injEq, true_and]
      by_cases hk : k' = k
      · rw [if_pos hk, if_pos hk]
        apply List.ext_getElem?; intro i
        by_cases hi : i < y.2.length
        · rw [putP_get hi, putP_get hi]
          by_cases hq : i < 256 ∧ ad ≤ q * 256 + i ∧ q * 256 + i < ad + j
          · rw [if_pos hq, if_pos (by omega)]
          · rw [if_neg hq]
            by_cases hq2 : i < 256 ∧ ad ≤ q * 256 + i ∧ q * 256 + i < ad + ends ad b.length j
            · exfalso
              have := ends_page (ad := ad) (nn := b.length) (j := j) (i := q * 256 + i - ad) (by omega) (by omega)
              rw [show ad + (q * 256 + i - ad) = q * 256 + i by omega] at this
              exact h ⟨hk, by omega⟩
            · rw [if_neg hq2]
        · rw [putP_out (by omega), putP_out (by omega)]
      · rw [if_neg hk, if_neg hk]
/-- What Out answers, and does. -/
def outR (o : Ob) (k ad : Nat) (b : List UInt8) : Int × Ob := if 4096 < b.length then (2, o) else if mayA o k 2 ad b.length then (0, outO o k ad b b.length) else (90, o)
section
variable (W0 : World) (Fr : List HProp)
variable {n : Nat} {qs : List Int} {rt : Nat → Option Nat} {c : Nat} {σ : St} {k r s m f t : Nat}
set_option maxHeartbeats 2000000 in
theorem pieces_spec {F : FuncId} {ca : List Value} (hF : CallOK Tryz.prog F) {ob : Nat → Ob} {X : Nat → HProp} {pm : Nat → Option Nat} {right : Int} {nn ad : Nat} (hnn : nn ≤ 4096) (had : ad < 4294967296) (hpm : ∀ j q, pmO (ob j) k q = pm q) (L : Lk n qs rt (ob 0) c σ) (hk : rt k = some r) (hb : c < 1000000000000000000 - 4096)
    (hdo : ∀ (j : Nat) (A : Ab) (σ' : St) (c' : Nat) (x : Nat × Nat), j < nn → ad + j < 1048576 → A.rt = rt → A.hs = [] → Good n qs A σ' → obs A σ' = ob j → σ'.hits + σ'.miss ≤ c' → A.pg k ((ad + j) / 256) = some x →
      Ctr Tryz.prog W0 F ([.int .i64 x.1, .int .i64 ((ad + j) % 256 : Nat), .int .i64 j, .int .i64 (ends ad nn j : Nat)] ++ ca) (WG m f t n qs σ' (sb s k r m f t :: X j :: Fr)) (fun σ2 : St => Lk n qs rt (ob (ends ad nn j)) c' σ2) (fun _ => .tuple #[]) (fun σ2 => WG m f t n qs σ2 (sb s k r m f t :: X (ends ad nn j) :: Fr))) :
    Ctr Tryz.prog W0 46 [.pointer (some ⟨s, 0, none⟩), .int .u32 ad, .int .i64 nn, .int .i64 right, .func (.func F) #[] ca.toArray] (WG m f t n qs σ (sb s k r m f t :: X 0 :: Fr))
      (fun z : Nat × St => z.1 ≤ nn ∧ (∀ i, i < z.1 → mayP pm right (ad + i) = true) ∧ (z.1 < nn → mayP pm right (ad + z.1) = false) ∧ Lk n qs rt (ob z.1) (c + 4096) z.2) (fun z => .int .i64 (if z.1 < nn then 90 else 0)) (fun z => WG m f t n qs z.2 (sb s k r m f t :: X z.1 :: Fr)) := by
  refine Ctr.of_body Tryz.func46 rfl Tryz.ntmps46 rfl ?_
  refine CG.seq ?_
  refine CG.region ?_
  refine OG.sg rfl rfl ?_
  refine OG.nil ?_
  refine QG.then ?_
  refine CG.seq ?_
  refine CG.seq ?_
  refine CG.region ?_
  refine OG.sg rfl rfl ?_
  refine OG.nil ?_
  refine QG.then ?_
  refine CG.block ?_
  refine CG.loop (fun z : Nat × St => z.1 ≤ nn ∧ (∀ i, i < z.1 → mayP pm right (ad + i) = true) ∧ Lk n qs rt (ob z.1) (c + z.1) z.2) (fun z => [(0, .pointer (some ⟨s, 0, none⟩)), (1, .int .u32 ad), (2, .int .i64 nn), (3, .int .i64 right), (4, .func (.func F) #[] ca.toArray), (11, .int .i64 z.1)]) (fun z => WG m f t n qs z.2 (sb s k r m f t :: X z.1 :: Fr)) (fun z => nn - z.1) (0, σ) ⟨Nat.zero_le _, fun i h => absurd h (Nat.not_lt_zero _), L⟩ eS iM ?_
  rintro ⟨j, σj⟩ ⟨hj, hal, Lj⟩
  dsimp only at hj hal Lj ⊢
  refine CG.seq ?_
  refine CG.seq ?_
  refine CG.region ?_
  refine OG.mv rfl rfl ?_
  refine OG.mv rfl rfl ?_
  refine OG.yield Yield.lssA rfl ?_
  refine OG.nil ?_
  refine QG.then ?_
  refine CG.cond rfl (fun hc => ?_) (fun hc => ?_)
  · try replace hc := of_decide_eq_true hc
    have hjn : j < nn := by omega
    obtain ⟨A, hrt, h0, G, ho, hcc⟩ := Lj
    have hkA : A.rt k = some r := by rw [hrt]; exact hk
    have hpA : ∀ q, pm q = (A.pg k q).map (·.2) := fun q => by rw [← hpm j q, ← ho]; unfold pmO; rw [vw_obs]; cases A.pg k q <;> rfl
    refine CG.skip ?_
    refine QG.then ?_
    refine CG.block ?_
    refine CG.seq ?_
    refine CG.region ?_
    refine OG.mv rfl rfl ?_
    refine OG.yield (Yield.conv (c := ((ad : Nat) : Int)) Tryz.underlying3 rfl rfl (w64 (by omega) (by omega))) rfl ?_
    refine OG.mv rfl rfl ?_
    refine OG.yield (Yield.add (c := ((ad + j : Nat) : Int)) rfl rfl (by rw [w64 (by omega) (by omega)]; omega)) rfl ?_
    refine OG.sg rfl rfl ?_
    refine OG.nil ?_
    refine QG.then ?_
    refine CG.seq ?_
    refine CG.seq ?_
    refine CG.region ?_
    refine OG.mv rfl rfl ?_
    refine OG.yield Yield.geqA rfl ?_
    refine OG.nil ?_
    refine QG.then ?_
    refine CG.cond rfl (fun hc => ?_) (fun hc => ?_)
    · try replace hc := of_decide_eq_true hc
      refine CG.seq ?_
      refine CG.region ?_
      refine OG.sg rfl rfl ?_
      refine OG.nil ?_
      refine QG.then ?_
      refine CG.ret ?_
      refine QG.pass_ret ?_
      refine QG.block_ret ?_
      refine QG.pass_ret ?_
      refine QG.block_ret ?_
      refine QG.pass_ret ?_
      exact QG.ret1 rfl rfl (j, σj) ⟨hj, hal, fun _ => mayP_far (by omega), Lk.intro G hrt h0 ho (by simp only; omega)⟩ (by simp [hjn]) iM
    · try replace hc := of_decide_eq_false hc
      refine CG.skip ?_
      refine QG.then ?_
      refine CG.seq ?_
      refine CG.region ?_
      refine OG.mv rfl rfl ?_
      refine OG.mv rfl rfl ?_
      refine OG.yield (Yield.as (Yield.quo rfl rfl (by omega) (tdiv_pos (by omega) (by omega) (by omega))) (v' := .int .i64 (((ad + j) / 256 : Nat) : Int)) (by congr 1)) rfl ?_
      refine OG.callo call86 rfl (iM) (find_spec W0 _ (s := s) (m := m) (f := f) (t := t) G hkA (by omega) (((ad + j) / 256 : Nat) : Int)) rfl ?_
      rintro σ' hF'
      rw [vp_in (show (ad + j) / 256 < 4096 by omega)]
      refine OG.mv rfl rfl ?_
      refine OG.yield (Yield.extract rfl rfl) rfl ?_
      refine OG.yield (Yield.extract rfl rfl) rfl ?_
      refine OG.yield (Yield.extract rfl rfl) rfl ?_
      refine OG.sg rfl rfl ?_
      refine OG.sg rfl rfl ?_
      refine OG.sg rfl rfl ?_
      refine OG.nil ?_
      refine QG.then ?_
      refine CG.seq ?_
      refine CG.seq ?_
      rcases (show (A.pg k ((ad + j) / 256) = none) ∨ (∃ x, A.pg k ((ad + j) / 256) = some x ∧ Go.bits .and .i64 (x.2 : Int) right ≠ 0) ∨ (∃ x, A.pg k ((ad + j) / 256) = some x ∧ Go.bits .and .i64 (x.2 : Int) right = 0) by cases A.pg k ((ad + j) / 256) with | none => exact .inl rfl | some x => exact .inr ((Decidable.em (Go.bits .and .i64 (x.2 : Int) right = 0)).elim (fun h => .inr ⟨x, rfl, h⟩) (fun h => .inl ⟨x, rfl, h⟩))) with hx | ⟨x, hx, hm⟩ | ⟨x, hx, hm⟩
      · skip
        rw [wV_none (by omega) hx, hx]
        refine CG.region ?_
        refine OG.mv rfl rfl ?_
        refine OG.yield (Yield.not rfl) rfl ?_
        refine OG.mv rfl rfl ?_
        refine OG.gn rfl rfl rfl rfl rfl ?_
        refine OG.gn rfl rfl rfl rfl rfl ?_
        refine OG.gn rfl rfl rfl rfl rfl ?_
        refine OG.gn rfl rfl rfl rfl rfl ?_
        refine OG.yield Yield.pickA rfl ?_
        refine OG.nil ?_
        refine QG.then ?_
        refine CG.cond_t rfl ?_
        refine CG.seq ?_
        refine CG.region ?_
        refine OG.sg rfl rfl ?_
        refine OG.nil ?_
        refine QG.then ?_
        refine CG.ret ?_
        refine QG.pass_ret ?_
        refine QG.block_ret ?_
        refine QG.pass_ret ?_
        refine QG.block_ret ?_
        refine QG.pass_ret ?_
        exact QG.ret1 rfl rfl (j, σ') ⟨hj, hal, fun _ => mayP_none (by rw [hpA, hx]; rfl), Lk.intro hF'.good hrt h0 (by rw [← ho]; unfold obs; rw [hF'.bs, hF'.own]) (by have := hF'.cnt; simp only; omega)⟩ (by simp [hjn]) iM
      · skip
        rw [wV_some (by omega) hx, hx]
        refine CG.region ?_
        refine OG.mv rfl rfl ?_
        refine OG.yield (Yield.not rfl) rfl ?_
        refine OG.mv rfl rfl ?_
        refine OG.gy rfl rfl rfl ?_
        refine OG.mv rfl rfl ?_
        refine OG.gy rfl rfl rfl ?_
        refine OG.mv rfl rfl ?_
        refine OG.gy rfl rfl rfl ?_
        refine OG.yield (Yield.bitop rfl rfl rfl rfl) rfl ?_
        refine OG.gy rfl rfl rfl ?_
        refine OG.yield (Yield.as (Yield.eql rfl rfl) (v' := .bool false) (bF hm)) rfl ?_
        refine OG.yield Yield.pickA rfl ?_
        refine OG.nil ?_
        refine QG.then ?_
        refine CG.cond_f rfl ?_
        refine CG.skip ?_
        refine QG.then ?_
        refine CG.seq ?_
        refine CG.region ?_
        refine OG.mv rfl rfl ?_
        refine OG.yield (Yield.as (Yield.rem rfl rfl (by omega) (tmod_pos (by omega) (by omega))) (v' := .int .i64 (((ad + j) % 256 : Nat) : Int)) (by congr 1)) rfl ?_
        refine OG.sg rfl rfl ?_
        refine OG.nil ?_
        refine QG.then ?_
        refine CG.seq ?_
        refine CG.region ?_
        refine OG.mv rfl rfl ?_
        refine OG.mv rfl rfl ?_
        refine OG.yield (Yield.add rfl rfl (w64 (by omega) (by omega))) rfl ?_
        refine OG.mv rfl rfl ?_
        refine OG.yield (Yield.sub rfl rfl (w64 (by omega) (by omega))) rfl ?_
        refine OG.yield (Yield.as (Yield.min2 rfl rfl) (v' := .int .i64 (ends ad nn j : Nat)) (by congr 1; unfold ends; omega)) rfl ?_
        refine OG.sg rfl rfl ?_
        refine OG.nil ?_
        refine QG.then ?_
        refine CG.seq ?_
        refine CG.region ?_
        refine OG.mv rfl rfl ?_
        refine OG.mv rfl rfl ?_
        refine OG.mv rfl rfl ?_
        refine OG.mv rfl rfl ?_
        refine OG.mv rfl rfl ?_
        refine OG.callv hF rfl rfl iM (hdo j A σ' (c + j + 1) x hjn (by omega) hrt h0 hF'.good (by rw [← ho]; unfold obs; rw [hF'.bs, hF'.own]) (by have := hF'.cnt; omega) hx) rfl ?_
        rintro σ2 L2
        refine OG.nil ?_
        refine QG.then ?_
        refine CG.region ?_
        refine OG.mv rfl rfl ?_
        refine OG.sg rfl rfl ?_
        refine OG.nil ?_
        refine QG.block_normal ?_
        have hgt := ends_gt (ad := ad) hjn
        refine QG.next (ends ad nn j, σ2) ⟨ends_le, fun i hi => ?_, Lk.mono L2 (by simp only; omega)⟩ (by simp only; omega) eS iM
        by_cases hij : i < j
        · exact hal i hij
        · have hpg := ends_page (ad := ad) (show j ≤ i by omega) hi
          rw [mayP_some (p := x.2) (by omega) (by rw [hpg, hpA, hx]; rfl)]
          exact decide_eq_true hm
      · skip
        rw [wV_some (by omega) hx, hx]
        refine CG.region ?_
        refine OG.mv rfl rfl ?_
        refine OG.yield (Yield.not rfl) rfl ?_
        refine OG.mv rfl rfl ?_
        refine OG.gy rfl rfl rfl ?_
        refine OG.mv rfl rfl ?_
        refine OG.gy rfl rfl rfl ?_
        refine OG.mv rfl rfl ?_
        refine OG.gy rfl rfl rfl ?_
        refine OG.yield (Yield.bitop rfl rfl rfl rfl) rfl ?_
        refine OG.gy rfl rfl rfl ?_
        refine OG.yield (Yield.as (Yield.eql rfl rfl) (v' := .bool true) (bT hm)) rfl ?_
        refine OG.yield Yield.pickA rfl ?_
        refine OG.nil ?_
        refine QG.then ?_
        refine CG.cond_t rfl ?_
        refine CG.seq ?_
        refine CG.region ?_
        refine OG.sg rfl rfl ?_
        refine OG.nil ?_
        refine QG.then ?_
        refine CG.ret ?_
        refine QG.pass_ret ?_
        refine QG.block_ret ?_
        refine QG.pass_ret ?_
        refine QG.block_ret ?_
        refine QG.pass_ret ?_
        exact QG.ret1 rfl rfl (j, σ') ⟨hj, hal, fun _ => by rw [mayP_some (p := x.2) (by omega) (by rw [hpA, hx]; rfl)]; exact decide_eq_false (fun q => q hm), Lk.intro hF'.good hrt h0 (by rw [← ho]; unfold obs; rw [hF'.bs, hF'.own]) (by have := hF'.cnt; simp only; omega)⟩ (by simp [hjn]) iM
  · try replace hc := of_decide_eq_false hc
    refine CG.exit ?_
    refine QG.pass_exit ?_
    refine QG.pass_exit ?_
    refine QG.block_exit ?_
    refine QG.then ?_
    refine CG.seq ?_
    refine CG.region ?_
    refine OG.sg rfl rfl ?_
    refine OG.nil ?_
    refine QG.then ?_
    refine CG.ret ?_
    exact QG.ret1 rfl rfl (j, σj) ⟨hj, hal, fun h => absurd h (by simp only; omega), Lk.mono Lj (by omega)⟩ (by rw [if_neg (by simp only; omega)]) iM
/-- What In's closure works on. -/
abbrev XI (b3 b8 s bb nn : Nat) (buf : List UInt8) : List HProp := [blk b3 [.pointer (some ⟨s, 0, none⟩)] 48, blk b8 [.slice (some ⟨bb, 0, none⟩) nn nn] 32, osl 5 1 (some ⟨bb, 0, none⟩) nn nn (bytesV buf)]
theorem in1_spec {b3 b8 bb nn j to fx : Nat} {at' : Nat} {buf : List UInt8} (hnn : nn ≤ 4096) (hbuf : buf.length = nn) (hfx : fx < n) (ha : at' < 256) (hj : j < to) (hto : to ≤ nn) (h256 : to - j ≤ 256 - at') (hbs : σ.bs.length = n * 256) :
    Ctr Tryz.prog W0 51 [.int .i64 fx, .int .i64 at', .int .i64 j, .int .i64 to, .pointer (some ⟨b3, 0, none⟩), .pointer (some ⟨b8, 0, none⟩)] (WG m f t n qs σ (sb s k r m f t :: Star (XI b3 b8 s bb nn buf) :: Fr)) (fun _ : Unit => True) (fun _ => .tuple #[])
      (fun _ => WG m f t n qs σ (sb s k r m f t :: Star (XI b3 b8 s bb nn (overB buf j (((frB σ.bs fx).drop at').take (to - j)))) :: Fr)) := by
  have hfl := frB_len hbs hfx
  refine Ctr.imp (Imp.trans (B := Star (XI b3 b8 s bb nn buf) :: WG m f t n qs σ (sb s k r m f t :: Fr)) iM star_open) ?_
  dsimp only [XI, List.cons_append, List.nil_append]
  refine Ctr.of_body Tryz.func51 rfl Tryz.ntmps51 rfl ?_
  refine CG.seq ?_
  refine CG.region ?_
  refine OG.yield (Yield.loadA ti48 rfl) rfl ?_
  refine OG.yield (Yield.nilCheck rfl) rfl ?_
  refine OG.yield (Yield.fieldAddr fa88_2 rfl) rfl ?_
  refine OG.yield (Yield.loadA ti40 rfl) rfl ?_
  refine OG.mv rfl rfl ?_
  refine OG.callo call43 rfl (iM) (frame_ok W0 _ (m := m) (n := n) (k := fx) (bs := σ.bs) hfx) rfl ?_
  rintro bf -
  rw [hfl]
  refine OG.mv rfl rfl ?_
  refine OG.yield (Yield.extract rfl rfl) rfl ?_
  refine OG.yield (Yield.extract rfl rfl) rfl ?_
  refine OG.sg rfl rfl ?_
  refine OG.sg rfl rfl ?_
  refine OG.nil ?_
  refine QG.then ?_
  refine CG.draw (.look 0 1 (.look 1 1 (.look 2 1 (.look 3 1 (.look 4 1 (.look 5 1 (.look 6 1 (.eff1 7 false (.done))))))))) [7] [] ([]) ([]) mixed (by kernel_rfl) (Imp.none _) (Imp.none _) ?_
  refine DG.look rfl rfl (Yield.loadA ti32 rfl) rfl ?_
  refine DG.look rfl rfl (Yield.move rfl) rfl ?_
  refine DG.look rfl rfl (Yield.move rfl) rfl ?_
  refine DG.look rfl rfl (Yield.as (Yield.slice_in Tryz.underlying32 ti5 rfl (Bound.some rfl) (Bound.some rfl) (by omega) (by omega) (by omega) (by omega)) (v' := .slice (some ⟨bb, 0 + j, none⟩) (to - j : Nat) (nn - j)) (by simp)) rfl ?_
  refine DG.look rfl rfl (Yield.move rfl) rfl ?_
  refine DG.look rfl rfl (Yield.move rfl) rfl ?_
  refine DG.look rfl rfl (Yield.as (Yield.slice_in Tryz.underlying32 ti5 rfl (Bound.some rfl) Bound.none (by omega) (by omega) (by omega) (by omega)) (v' := .slice (some ⟨bf, 0 + at', none⟩) (256 - at' : Nat) (256 - at')) (by simp)) rfl ?_
  refine DG.eff1 ?_
  refine Chg.eff rfl rfl (Eff.copyIn (b := bb) (o := 0) (j := j) (n := to - j) (cn := nn - j) (k := 256 - at') (ys := bytesV ((frB σ.bs fx).drop at')) rfl rfl rfl Tryz.underlying32 ti5 fC (by omega) (SlR.part (SlR.of_osl (E := 130) (a := some ⟨bf, 0, none⟩) eX) (by rw [bytesV_drop, List.take_of_length_le (Nat.le_of_eq (by rw [bytesV_length, List.length_drop, hfl]))]) (by omega)) bytesV_one) rfl (fun _ => iM) (fun _ => Imp.refl _) (fun _ => iM) ?_
  rintro ⟨⟩ -
  rw [show min (256 - at') (to - j) = to - j by omega, bytesV_take, over_bytes]
  refine DG.done ?_
  exact QG.end0 rfl () trivial rfl (Imp.trans (B := XI b3 b8 s bb nn (overB buf j (((frB σ.bs fx).drop at').take (to - j))) ++ WG m f t n qs σ (sb s k r m f t :: Fr)) iM (Imp.trans star_close iM))
/-- An answer of bytes. -/
structure BA where
  a : Option Addr
  c : Nat
  b : List UInt8
  σ : St
set_option maxHeartbeats 2000000 in
theorem in_spec {o : Ob} (L : Lk n qs rt o c σ) (hk : rt k = some r) (hb : c < 1000000000000000000 - 4096) {ad : Nat} (had : ad < 4294967296) (nI : Int) : Ctr Tryz.prog W0 15 [.pointer (some ⟨s, 0, none⟩), .int .u32 ad, .int .i64 nI] (WG m f t n qs σ (sb s k r m f t :: Fr))
    (fun z : BA => z.b = (inO o k ad nI).1 ∧ Lk n qs rt o (c + 4096) z.σ) (fun z => .tuple #[.slice z.a z.b.length z.c, .int .i64 (inO o k ad nI).2]) (fun z => oby 5 z.a z.c z.b :: WG m f t n qs z.σ (sb s k r m f t :: Fr)) := by
  by_cases hg : nI < 0 ∨ 4096 < nI
  · have e : inO o k ad nI = ([], 2) := by unfold inO; rw [if_pos hg]
    rw [e]
    refine Ctr.of_body Tryz.func15 rfl Tryz.ntmps15 rfl ?_
    refine CG.seq ?_
    refine CG.region ?_
    refine OG.effd (Eff.box rfl) rfl ?_
    rintro b3 -
    refine OG.sg rfl rfl ?_
    refine OG.sg rfl rfl ?_
    refine OG.nil ?_
    refine QG.then ?_
    refine CG.seq ?_
    refine CG.seq ?_
    rcases (show nI < 0 ∨ (0 ≤ nI ∧ 4096 < nI) by omega) with hg1 | hg1
    · skip
      refine CG.region ?_
      refine OG.mv rfl rfl ?_
      refine OG.yield Yield.lssA rfl ?_
      refine OG.mv rfl rfl ?_
      refine OG.gn rfl rfl rfl rfl rfl ?_
      refine OG.gn rfl rfl rfl rfl rfl ?_
      refine OG.yield Yield.pickA rfl ?_
      refine OG.nil ?_
      refine QG.then ?_
      refine CG.cond_t rfl ?_
      refine CG.seq ?_
      refine CG.region ?_
      refine OG.sg rfl rfl ?_
      refine OG.sg rfl rfl ?_
      refine OG.nil ?_
      refine QG.then ?_
      refine CG.ret ?_
      refine QG.pass_ret ?_
      exact QG.rets [.slice none 0 0, .int .i64 2] rfl ⟨rfl, rfl, trivial⟩ (⟨none, 0, [], σ⟩ : BA) ⟨rfl, Lk.mono L (by omega)⟩ rfl (Imp.trans (osl_nil (E := 5) (sz := 1)) iM)
    · skip
      refine CG.region ?_
      refine OG.mv rfl rfl ?_
      refine OG.yield Yield.lssA rfl ?_
      refine OG.mv rfl rfl ?_
      refine OG.gy rfl rfl rfl ?_
      refine OG.mv rfl rfl ?_
      refine OG.gy rfl rfl rfl ?_
      refine OG.yield Yield.gtrA rfl ?_
      refine OG.yield Yield.pickA rfl ?_
      refine OG.nil ?_
      refine QG.then ?_
      refine CG.cond_t rfl ?_
      refine CG.seq ?_
      refine CG.region ?_
      refine OG.sg rfl rfl ?_
      refine OG.sg rfl rfl ?_
      refine OG.nil ?_
      refine QG.then ?_
      refine CG.ret ?_
      refine QG.pass_ret ?_
      exact QG.rets [.slice none 0 0, .int .i64 2] rfl ⟨rfl, rfl, trivial⟩ (⟨none, 0, [], σ⟩ : BA) ⟨rfl, Lk.mono L (by omega)⟩ rfl (Imp.trans (osl_nil (E := 5) (sz := 1)) iM)
  · obtain ⟨nn, rfl⟩ := Int.eq_ofNat_of_zero_le (show 0 ≤ nI by omega)
    have hnn : nn ≤ 4096 := by omega
    have hdo : ∀ (b3 b8 bb : Nat) (j : Nat) (A : Ab) (σ' : St) (c' : Nat) (x : Nat × Nat), j < nn → ad + j < 1048576 → A.rt = rt → A.hs = [] → Good n qs A σ' → obs A σ' = o → σ'.hits + σ'.miss ≤ c' → A.pg k ((ad + j) / 256) = some x →
      Ctr Tryz.prog W0 51 ([.int .i64 x.1, .int .i64 ((ad + j) % 256 : Nat), .int .i64 j, .int .i64 (ends ad nn j : Nat)] ++ [.pointer (some ⟨b3, 0, none⟩), .pointer (some ⟨b8, 0, none⟩)]) (WG m f t n qs σ' (sb s k r m f t :: Star (XI b3 b8 s bb nn (bufI o k ad nn j)) :: Fr)) (fun σ2 : St => Lk n qs rt o c' σ2) (fun _ => .tuple #[]) (fun σ2 => WG m f t n qs σ2 (sb s k r m f t :: Star (XI b3 b8 s bb nn (bufI o k ad nn (ends ad nn j))) :: Fr)) := by
      intro b3 b8 bb j A σ' c' x hjn hlt hrt h0 G ho hcc hx
      have hv : o.vw k ((ad + j) / 256) = some (x.2, frB σ'.bs x.1) := by rw [← ho, vw_obs, hx]; rfl
      have hpl := frB_len G.rep.len (G.plt hx)
      have h := in1_spec W0 Fr (n := n) (qs := qs) (k := k) (s := s) (m := m) (f := f) (t := t) (r := r) (σ := σ') (b3 := b3) (b8 := b8) (bb := bb) (buf := bufI o k ad nn j) hnn bufI_len (G.plt hx) (Nat.mod_lt (ad + j) (show 0 < 256 by decide)) (ends_gt (ad := ad) hjn) ends_le (by unfold ends; omega) G.rep.len
      refine Ctr.re h (fun _ => σ') (fun _ _ => Lk.intro G hrt h0 ho hcc) (fun _ _ => rfl) (fun _ _ => ?_)
      rw [bufI_step hv hpl hjn]; exact Imp.refl _
    refine Ctr.of_body Tryz.func15 rfl Tryz.ntmps15 rfl ?_
    refine CG.seq ?_
    refine CG.region ?_
    refine OG.effd (Eff.box rfl) rfl ?_
    rintro b3 -
    refine OG.sg rfl rfl ?_
    refine OG.sg rfl rfl ?_
    refine OG.nil ?_
    refine QG.then ?_
    refine CG.seq ?_
    refine CG.seq ?_
    refine CG.region ?_
    refine OG.mv rfl rfl ?_
    refine OG.yield Yield.lssA rfl ?_
    refine OG.mv rfl rfl ?_
    refine OG.gy rfl rfl rfl ?_
    refine OG.mv rfl rfl ?_
    refine OG.gy rfl rfl rfl ?_
    refine OG.yield Yield.gtrA rfl ?_
    refine OG.yield Yield.pickA rfl ?_
    refine OG.nil ?_
    refine QG.then ?_
    refine CG.cond_f rfl ?_
    refine CG.skip ?_
    refine QG.then ?_
    refine CG.seq ?_
    refine CG.region ?_
    refine OG.mv rfl rfl ?_
    refine OG.effd (Eff.makeB (k := nn) Tryz.underlying32 ti5 rfl rfl (by omega)) rfl ?_
    rintro bb -
    rw [List.length_replicate]
    refine OG.effd (Eff.alloc ti32) rfl ?_
    rintro b8 -
    refine OG.eff (Eff.store1 ti32 rfl rfl fC rfl (by first | (simp; done) | decide)) rfl ?_
    rintro ⟨⟩ -
    refine OG.nil ?_
    refine QG.then ?_
    refine CG.seq ?_
    refine CG.region ?_
    refine OG.yield (Yield.loadA ti48 rfl) rfl ?_
    refine OG.mv rfl rfl ?_
    refine OG.mv rfl rfl ?_
    refine OG.yield (Yield.makeFunc (first := []) (cap := [.tmp 3, .tmp 8]) rfl rfl) rfl ?_
    refine OG.callo call46 rfl (Imp.trans (B := XI b3 b8 s bb nn (bufI o k ad nn 0) ++ WG m f t n qs σ (sb s k r m f t :: Fr)) (by rw [bufI_zero]; unfold oby; rw [List.length_replicate]; exact iM) (Imp.trans star_close iM)) (pieces_spec W0 Fr (n := n) (qs := qs) (k := k) (s := s) (m := m) (f := f) (t := t) (r := r) (F := 51) (ca := [.pointer (some ⟨b3, 0, none⟩), .pointer (some ⟨b8, 0, none⟩)]) call51 (ob := fun _ => o) (X := fun j => Star (XI b3 b8 s bb nn (bufI o k ad nn j))) (pm := pmO o k) (right := 1) (nn := nn) (ad := ad) hnn had (fun _ _ => rfl) L hk hb (hdo b3 b8 bb)) rfl ?_
    rintro ⟨jz, σ2⟩ ⟨h1, h2, h3, L2⟩
    dsimp only at h1 h2 h3 L2 ⊢
    refine OG.sg rfl rfl ?_
    refine OG.nil ?_
    refine QG.then ?_
    refine CG.seq ?_
    refine CG.seq ?_
    rcases Nat.lt_or_ge jz nn with hz | hz
    · skip
      rw [if_pos hz]
      refine CG.region ?_
      refine OG.mv rfl rfl ?_
      refine OG.yield (Yield.as (Yield.neq rfl rfl) (v' := .bool true) rfl) rfl ?_
      refine OG.nil ?_
      refine QG.then ?_
      refine CG.cond_t rfl ?_
      refine CG.seq ?_
      refine CG.region ?_
      refine OG.mv rfl rfl ?_
      refine OG.sg rfl rfl ?_
      refine OG.sg rfl rfl ?_
      refine OG.nil ?_
      refine QG.then ?_
      refine CG.ret ?_
      refine QG.pass_ret ?_
      rw [show inO o k ad (nn : Int) = ([], 90) by unfold inO; rw [if_neg hg, Int.toNat_natCast, if_neg (by rw [mayA_f hz (h3 hz)]; decide)]]
      exact QG.rets [.slice none 0 0, .int .i64 90] rfl ⟨rfl, rfl, trivial⟩ (⟨none, 0, [], σ2⟩ : BA) ⟨rfl, L2⟩ rfl (Imp.trans (osl_nil (E := 5) (sz := 1)) iM)
    · skip
      rw [if_neg (by omega)]
      refine CG.region ?_
      refine OG.mv rfl rfl ?_
      refine OG.yield (Yield.as (Yield.neq rfl rfl) (v' := .bool false) rfl) rfl ?_
      refine OG.nil ?_
      refine QG.then ?_
      refine CG.cond_f rfl ?_
      refine CG.skip ?_
      refine QG.then ?_
      refine CG.seq ?_
      refine CG.imp (Imp.trans (B := Star (XI b3 b8 s bb nn (bufI o k ad nn jz)) :: WG m f t n qs σ2 (sb s k r m f t :: Fr)) iM star_open) ?_
      dsimp only [XI, List.cons_append, List.nil_append]
      obtain rfl : jz = nn := by omega
      refine CG.region ?_
      refine OG.yield (Yield.loadA ti32 rfl) rfl ?_
      refine OG.sg rfl rfl ?_
      refine OG.sg rfl rfl ?_
      refine OG.nil ?_
      refine QG.then ?_
      refine CG.ret ?_
      rw [show inO o k ad (jz : Int) = (bufI o k ad jz jz, 0) by unfold inO; rw [if_neg hg, Int.toNat_natCast, if_pos (mayA_t h2)]]
      refine QG.rets [.slice (some ⟨bb, 0, none⟩) jz jz, .int .i64 0] rfl ⟨rfl, rfl, trivial⟩ (⟨some ⟨bb, 0, none⟩, jz, bufI o k ad jz jz, σ2⟩ : BA) ⟨rfl, L2⟩ (by simp only [bufI_len]; rfl) (by unfold oby; simp only [bufI_len]; exact iM)
theorem out1_spec {a b c d : Int} {G : List HProp} : Ctr Tryz.prog W0 47 [.int .i64 a, .int .i64 b, .int .i64 c, .int .i64 d] G (fun _ : Unit => True) (fun _ => .tuple #[]) (fun _ => G) := by
  refine Ctr.of_body Tryz.func47 rfl Tryz.ntmps47 rfl ?_
  refine CG.skip ?_
  exact QG.end0 rfl () trivial rfl (Imp.refl _)
theorem fill_256 {fx : Nat} {bs ws : List UInt8} {a : Option Addr} {c2 : Nat} (hr : RdB W0 Fr a c2 ws) (hk : fx < n) (hw : ws.length = 256) : Ctr Tryz.prog W0 49 [.pointer (some ⟨m, 0, none⟩), .int .i64 fx, .slice a 256 c2] (M m n bs :: Fr) (fun _ : Unit => True)
    (fun _ => .int .i64 0) (fun _ => M m n (overB bs (fx * 256) (fillB ws)) :: Fr) := by
  have := fill_ok W0 Fr (m := m) (n := n) (k := fx) (bs := bs) hr hk (Nat.le_of_eq hw)
  rw [hw] at this; exact this
/-- What Out's closure works on. -/
abbrev XO (b3 b5 s : Nat) (ba : Option Addr) (bc nn : Nat) : List HProp := [blk b3 [.pointer (some ⟨s, 0, none⟩)] 48, blk b5 [.slice ba nn bc] 32]
theorem out2_spec {b3 b5 j to fx bc : Nat} {at' : Nat} {ba : Option Addr} {b : List UInt8} (hr : RdB W0 Fr ba bc b) (hcap : b.length ≤ bc) (hnn : b.length ≤ 4096) (hfx : fx < n) (ha : at' < 256) (hj : j < to) (hto : to ≤ b.length) (h256 : to - j ≤ 256 - at') (hbs : σ.bs.length = n * 256) :
    Ctr Tryz.prog W0 48 [.int .i64 fx, .int .i64 at', .int .i64 j, .int .i64 to, .pointer (some ⟨b3, 0, none⟩), .pointer (some ⟨b5, 0, none⟩)] (WG m f t n qs σ (sb s k r m f t :: Star (XO b3 b5 s ba bc b.length) :: Fr)) (fun _ : Unit => True) (fun _ => .tuple #[])
      (fun _ => WG m f t n qs { σ with bs := overB σ.bs (fx * 256 + at') ((b.drop j).take (to - j)) } (sb s k r m f t :: Star (XO b3 b5 s ba bc b.length) :: Fr)) := by
  have hfl := frB_len hbs hfx
  have hyl : ((b.drop j).take (to - j)).length = to - j := by rw [List.length_take, List.length_drop]; omega
  have hwl : (overB (frB σ.bs fx) at' ((b.drop j).take (to - j))).length = 256 := by rw [overB_len (by omega), hfl]
  refine Ctr.imp (Imp.trans (B := Star (XO b3 b5 s ba bc b.length) :: WG m f t n qs σ (sb s k r m f t :: Fr)) iM star_open) ?_
  dsimp only [XO, List.cons_append, List.nil_append]
  refine Ctr.of_body Tryz.func48 rfl Tryz.ntmps48 rfl ?_
  refine CG.seq ?_
  refine CG.region ?_
  refine OG.yield (Yield.loadA ti48 rfl) rfl ?_
  refine OG.yield (Yield.nilCheck rfl) rfl ?_
  refine OG.yield (Yield.fieldAddr fa88_2 rfl) rfl ?_
  refine OG.yield (Yield.loadA ti40 rfl) rfl ?_
  refine OG.mv rfl rfl ?_
  refine OG.callo call43 rfl (iM) (frame_ok W0 _ (m := m) (n := n) (k := fx) (bs := σ.bs) hfx) rfl ?_
  rintro bf -
  rw [hfl]
  refine OG.mv rfl rfl ?_
  refine OG.yield (Yield.extract rfl rfl) rfl ?_
  refine OG.yield (Yield.extract rfl rfl) rfl ?_
  refine OG.sg rfl rfl ?_
  refine OG.sg rfl rfl ?_
  refine OG.nil ?_
  refine QG.then ?_
  refine CG.seq ?_
  refine CG.draw (.look 0 1 (.look 1 1 (.look 2 1 (.look 3 1 (.look 4 1 (.look 5 1 (.look 6 1 (.eff1 7 false (.done))))))))) [7] [] ([]) ([]) mixed (by kernel_rfl) (Imp.none _) (Imp.none _) ?_
  refine DG.look rfl rfl (Yield.move rfl) rfl ?_
  refine DG.look rfl rfl (Yield.move rfl) rfl ?_
  refine DG.look rfl rfl (Yield.as (Yield.slice_in Tryz.underlying32 ti5 rfl (Bound.some rfl) Bound.none (by omega) (by omega) (by omega) (by omega)) (v' := .slice (some ⟨bf, 0 + at', none⟩) (256 - at' : Nat) (256 - at')) (by simp)) rfl ?_
  refine DG.look rfl rfl (Yield.loadA ti32 rfl) rfl ?_
  refine DG.look rfl rfl (Yield.move rfl) rfl ?_
  refine DG.look rfl rfl (Yield.move rfl) rfl ?_
  refine DG.look rfl rfl (Yield.as (Yield.slice Tryz.underlying32 ti5 rfl (Bound.some rfl) (Bound.some rfl) (by omega) (by omega) (by omega)) (v' := .slice (ba.map fun a => cutAt a j bc 1) (to - j : Nat) (bc - j)) (by simp)) rfl ?_
  refine DG.eff1 ?_
  refine Chg.eff rfl rfl (Eff.copyIn (b := bf) (o := 0) (j := at') (n := 256 - at') (cn := 256 - at') (k := to - j) (ys := bytesV ((b.drop j).take (to - j))) rfl rfl rfl Tryz.underlying32 ti5 fC (by omega) (by have := SlR.midB (hr.imp (G := XO b3 b5 s ba bc b.length ++ WG m f t n qs σ (sb s k r m f t :: Fr)) iM).slR (l := j) (k := to - j) hcap (by omega); rw [hyl] at this; exact this.imp iM) bytesV_one) rfl (fun _ => iM) (fun _ => Imp.refl _) (fun _ => iM) ?_
  rintro ⟨⟩ -
  rw [show min (to - j) (256 - at') = to - j by omega, bytesV_take, List.take_of_length_le (Nat.le_of_eq hyl), over_bytes]
  refine DG.done ?_
  refine QG.then ?_
  refine CG.region ?_
  refine OG.yield (Yield.loadA ti48 rfl) rfl ?_
  refine OG.yield (Yield.nilCheck rfl) rfl ?_
  refine OG.yield (Yield.fieldAddr fa88_2 rfl) rfl ?_
  refine OG.yield (Yield.loadA ti40 rfl) rfl ?_
  refine OG.mv rfl rfl ?_
  refine OG.mv rfl rfl ?_
  refine OG.callo call49 rfl (iM) (fill_256 W0 _ (m := m) (n := n) (fx := fx) (bs := σ.bs) (ws := overB (frB σ.bs fx) at' ((b.drop j).take (to - j))) (a := some ⟨bf, 0, none⟩) (c2 := 256) (by exact RdB.of_osl (E := 130) eX (by rw [hwl]; first | exact hfl | rfl) rfl) hfx hwl) rfl ?_
  rintro ⟨⟩ -
  rw [overB_frame hbs hfx (by omega)]
  refine OG.nil ?_
  exact QG.end0 rfl () trivial rfl (Imp.trans (B := XO b3 b5 s ba bc b.length ++ WG m f t n qs { σ with bs := overB σ.bs (fx * 256 + at') ((b.drop j).take (to - j)) } (sb s k r m f t :: Fr)) iM (Imp.trans star_close iM))
set_option maxHeartbeats 2000000 in
theorem out_spec {o : Ob} {ba : Option Addr} {bc : Nat} {b : List UInt8} (hr : RdB W0 Fr ba bc b) (hcap : b.length ≤ bc) (L : Lk n qs rt o c σ) (hk : rt k = some r) (hb : c < 1000000000000000000 - 8192) {ad : Nat} (had : ad < 4294967296) : Ctr Tryz.prog W0 12 [.pointer (some ⟨s, 0, none⟩), .int .u32 ad, .slice ba b.length bc] (WG m f t n qs σ (sb s k r m f t :: Fr))
    (fun σ' : St => Lk n qs rt (outR o k ad b).2 (c + 8192) σ') (fun _ => .int .i64 (outR o k ad b).1) (fun σ' => WG m f t n qs σ' (sb s k r m f t :: Fr)) := by
  have hdo1 : ∀ (Fr' : List HProp) (j : Nat) (A : Ab) (σ' : St) (c' : Nat) (x : Nat × Nat), j < b.length → ad + j < 1048576 → A.rt = rt → A.hs = [] → Good n qs A σ' → obs A σ' = o → σ'.hits + σ'.miss ≤ c' → A.pg k ((ad + j) / 256) = some x →
      Ctr Tryz.prog W0 47 ([.int .i64 x.1, .int .i64 ((ad + j) % 256 : Nat), .int .i64 j, .int .i64 (ends ad b.length j : Nat)] ++ []) (WG m f t n qs σ' (sb s k r m f t :: Star [] :: Fr')) (fun σ2 : St => Lk n qs rt o c' σ2) (fun _ => .tuple #[]) (fun σ2 => WG m f t n qs σ2 (sb s k r m f t :: Star [] :: Fr')) :=
    fun Fr' j A σ' c' x hjn hlt hrt h0 G ho hcc hx => Ctr.re (out1_spec W0) (fun _ => σ') (fun _ _ => Lk.intro G hrt h0 ho hcc) (fun _ _ => rfl) (fun _ _ => Imp.refl _)
  by_cases hg : 4096 < b.length
  · have e : outR o k ad b = (2, o) := by unfold outR; rw [if_pos hg]
    rw [e]
    refine Ctr.of_body Tryz.func12 rfl Tryz.ntmps12 rfl ?_
    refine CG.seq ?_
    refine CG.region ?_
    refine OG.effd (Eff.box rfl) rfl ?_
    rintro b3 -
    refine OG.effd (Eff.box rfl) rfl ?_
    rintro b5 -
    refine OG.sg rfl rfl ?_
    refine OG.nil ?_
    refine QG.then ?_
    refine CG.seq ?_
    refine CG.seq ?_
    refine CG.region ?_
    refine OG.yield (Yield.loadA ti32 rfl) rfl ?_
    refine OG.yield (Yield.len_slice Tryz.underlying32 rfl rfl) rfl ?_
    refine OG.yield Yield.gtrA rfl ?_
    refine OG.nil ?_
    refine QG.then ?_
    refine CG.cond_t rfl ?_
    refine CG.seq ?_
    refine CG.region ?_
    refine OG.sg rfl rfl ?_
    refine OG.nil ?_
    refine QG.then ?_
    refine CG.ret ?_
    refine QG.pass_ret ?_
    exact QG.ret1 rfl rfl σ (Lk.mono L (by omega)) rfl iM
  · have hnn : b.length ≤ 4096 := by omega
    have hdo2 : ∀ (b3 b5 : Nat) (j : Nat) (A : Ab) (σ' : St) (c' : Nat) (x : Nat × Nat), j < b.length → ad + j < 1048576 → A.rt = rt → A.hs = [] → Good n qs A σ' → obs A σ' = outO o k ad b j → σ'.hits + σ'.miss ≤ c' → A.pg k ((ad + j) / 256) = some x →
        Ctr Tryz.prog W0 48 ([.int .i64 x.1, .int .i64 ((ad + j) % 256 : Nat), .int .i64 j, .int .i64 (ends ad b.length j : Nat)] ++ [.pointer (some ⟨b3, 0, none⟩), .pointer (some ⟨b5, 0, none⟩)]) (WG m f t n qs σ' (sb s k r m f t :: Star (XO b3 b5 s ba bc b.length) :: Fr)) (fun σ2 : St => Lk n qs rt (outO o k ad b (ends ad b.length j)) c' σ2) (fun _ => .tuple #[]) (fun σ2 => WG m f t n qs σ2 (sb s k r m f t :: Star (XO b3 b5 s ba bc b.length) :: Fr)) := by
      intro b3 b5 j A σ' c' x hjn hlt hrt h0 G ho hcc hx
      have hv : (outO o k ad b j).vw k ((ad + j) / 256) = some (x.2, frB σ'.bs x.1) := by rw [← ho, vw_obs, hx]; rfl
      have hpl := frB_len G.rep.len (G.plt hx)
      have hyl : ((b.drop j).take (ends ad b.length j - j)).length = ends ad b.length j - j := by have := ends_le (ad := ad) (nn := b.length) (j := j); rw [List.length_take, List.length_drop]; omega
      obtain ⟨G2, e2⟩ := G.write (o := (ad + j) % 256) (ys := (b.drop j).take (ends ad b.length j - j)) hx (by rw [hyl]; unfold ends; omega)
      have hst := out_step hv hpl hjn
      have h := out2_spec W0 Fr (n := n) (qs := qs) (k := k) (s := s) (m := m) (f := f) (t := t) (r := r) (σ := σ') (b3 := b3) (b5 := b5) hr hcap hnn (G.plt hx) (Nat.mod_lt (ad + j) (show 0 < 256 by decide)) (ends_gt (ad := ad) hjn) ends_le (by unfold ends; omega) G.rep.len
      refine Ctr.re h (fun _ => { σ' with bs := overB σ'.bs (x.1 * 256 + (ad + j) % 256) ((b.drop j).take (ends ad b.length j - j)) }) (fun _ _ => Lk.intro G2 hrt h0 ?_ hcc) (fun _ _ => rfl) (fun _ _ => Imp.refl _)
      rw [e2, ho, ← hst]; rfl
    refine Ctr.of_body Tryz.func12 rfl Tryz.ntmps12 rfl ?_
    refine CG.seq ?_
    refine CG.region ?_
    refine OG.effd (Eff.box rfl) rfl ?_
    rintro b3 -
    refine OG.effd (Eff.box rfl) rfl ?_
    rintro b5 -
    refine OG.sg rfl rfl ?_
    refine OG.nil ?_
    refine QG.then ?_
    refine CG.seq ?_
    refine CG.seq ?_
    refine CG.region ?_
    refine OG.yield (Yield.loadA ti32 rfl) rfl ?_
    refine OG.yield (Yield.len_slice Tryz.underlying32 rfl rfl) rfl ?_
    refine OG.yield Yield.gtrA rfl ?_
    refine OG.nil ?_
    refine QG.then ?_
    refine CG.cond_f rfl ?_
    refine CG.skip ?_
    refine QG.then ?_
    refine CG.seq ?_
    refine CG.seq ?_
    refine CG.region ?_
    refine OG.yield (Yield.loadA ti48 rfl) rfl ?_
    refine OG.mv rfl rfl ?_
    refine OG.yield (Yield.loadA ti32 rfl) rfl ?_
    refine OG.yield (Yield.len_slice Tryz.underlying32 rfl rfl) rfl ?_
    refine OG.callo call46 rfl (Imp.trans star_nil iM) (pieces_spec W0 _ (n := n) (qs := qs) (k := k) (s := s) (m := m) (f := f) (t := t) (r := r) (F := 47) (ca := []) call47 (ob := fun _ => o) (X := fun _ => Star []) (pm := pmO o k) (right := 2) (nn := b.length) (ad := ad) hnn had (fun _ _ => rfl) L hk (by omega) (hdo1 (blk b5 [.slice ba b.length bc] 32 :: blk b3 [.pointer (some ⟨s, 0, none⟩)] 48 :: Fr))) rfl ?_
    rintro ⟨jz, σ2⟩ ⟨h1, h2, h3, L2⟩
    dsimp only at h1 h2 h3 L2 ⊢
    refine OG.sg rfl rfl ?_
    refine OG.nil ?_
    refine QG.then ?_
    refine CG.seq ?_
    rcases Nat.lt_or_ge jz b.length with hz | hz
    · skip
      rw [if_pos hz]
      refine CG.region ?_
      refine OG.mv rfl rfl ?_
      refine OG.yield (Yield.as (Yield.neq rfl rfl) (v' := .bool true) rfl) rfl ?_
      refine OG.nil ?_
      refine QG.then ?_
      refine CG.cond_t rfl ?_
      refine CG.seq ?_
      refine CG.region ?_
      refine OG.mv rfl rfl ?_
      refine OG.sg rfl rfl ?_
      refine OG.nil ?_
      refine QG.then ?_
      refine CG.ret ?_
      refine QG.pass_ret ?_
      rw [show outR o k ad b = (90, o) by unfold outR; rw [if_neg hg, if_neg (by rw [mayA_f hz (h3 hz)]; decide)]]
      exact QG.ret1 rfl rfl σ2 (Lk.mono L2 (by omega)) rfl iM
    · skip
      rw [if_neg (by omega)]
      refine CG.region ?_
      refine OG.mv rfl rfl ?_
      refine OG.yield (Yield.as (Yield.neq rfl rfl) (v' := .bool false) rfl) rfl ?_
      refine OG.nil ?_
      refine QG.then ?_
      refine CG.cond_f rfl ?_
      refine CG.skip ?_
      refine QG.then ?_
      refine CG.seq ?_
      obtain rfl : jz = b.length := by omega
      refine CG.region ?_
      refine OG.yield (Yield.loadA ti48 rfl) rfl ?_
      refine OG.mv rfl rfl ?_
      refine OG.yield (Yield.loadA ti32 rfl) rfl ?_
      refine OG.yield (Yield.len_slice Tryz.underlying32 rfl rfl) rfl ?_
      refine OG.yield (Yield.makeFunc (first := []) (cap := [.tmp 3, .tmp 5]) rfl rfl) rfl ?_
      refine OG.callo call46 rfl (Imp.trans (B := XO b3 b5 s ba bc b.length ++ WG m f t n qs σ2 (sb s k r m f t :: Fr)) iM (Imp.trans star_close iM)) (pieces_spec W0 Fr (n := n) (qs := qs) (k := k) (s := s) (m := m) (f := f) (t := t) (r := r) (F := 48) (ca := [.pointer (some ⟨b3, 0, none⟩), .pointer (some ⟨b5, 0, none⟩)]) call48 (ob := outO o k ad b) (X := fun _ => Star (XO b3 b5 s ba bc b.length)) (pm := pmO o k) (right := 2) (nn := b.length) (ad := ad) hnn had (fun j q => outO_pm j k q) (by rw [outO_zero]; exact L2) hk (by omega) (hdo2 b3 b5)) rfl ?_
      rintro ⟨jy, σ3⟩ ⟨h4, h5, h6, L3⟩
      dsimp only at h4 h5 h6 L3 ⊢
      have hjy : jy = b.length := by
        rcases Nat.lt_or_ge jy b.length with hy | hy
        · have q1 := h6 hy
          rw [h2 jy hy] at q1; cases q1
        · omega
      subst hjy
      rw [if_neg (by omega)]
      refine OG.sg rfl rfl ?_
      refine OG.nil ?_
      refine QG.then ?_
      refine CG.ret ?_
      rw [show outR o k ad b = (0, outO o k ad b b.length) by unfold outR; rw [if_neg hg, if_pos (mayA_t h2)]]
      exact QG.ret1 rfl rfl σ3 (Lk.mono L3 (by omega)) rfl iM
theorem out_of {o : Ob} {ba : Option Addr} {bc : Nat} {b : List UInt8} (hr : RdB W0 Fr ba bc b) (L : Lk n qs rt o c σ) (hk : rt k = some r) (hb : c < 1000000000000000000 - 8192) {ad : Nat} (had : ad < 4294967296) : Ctr Tryz.prog W0 12 [.pointer (some ⟨s, 0, none⟩), .int .u32 ad, .slice ba b.length bc] (WG m f t n qs σ (sb s k r m f t :: Fr))
    (fun σ' : St => Lk n qs rt (outR o k ad b).2 (c + 8192) σ') (fun _ => .int .i64 (outR o k ad b).1) (fun σ' => WG m f t n qs σ' (sb s k r m f t :: Fr)) := fun w hw =>
  out_spec W0 Fr hr ((hr w (hw.imp (Imp.trans Imp.drop (Imp.trans Imp.drop (Imp.trans Imp.drop Imp.drop))))).2) L hk hb had w hw
end
end Go.Proofs.YtmlfcfbblfcpdaaGreat.Sp
/- Two lists of pages compared. -/
namespace Go.Proofs.YtmlfcfbblfcpdaaGreat.Sp
open Go Go.Sl Go.RowKit Go.Proofs Go.Proofs.YtmlfcfbblfcpdaaGreat.T Go.Proofs.YtmlfcfbblfcpdaaGreat.Me Go.Proofs.YtmlfcfbblfcpdaaGreat.Pe Go.Proofs.YtmlfcfbblfcpdaaGreat.Pg
set_option maxRecDepth 100000
/-- A list of views that may be read. -/
structure PVr (W0 : World) (G : List HProp) (a : Option Addr) (l : List PV) : Prop where
  cells : SlR W0 G 3 a l.length ((l.map PV.cells).flatten)
  bytes : ∀ x ∈ l, SlR W0 G 1 x.a x.b.length (bytesV x.b)
theorem PVr.imp {W0 : World} {G G' : List HProp} {a : Option Addr} {l : List PV} (h : PVr W0 G' a l) (i : Imp G G') : PVr W0 G a l := ⟨h.cells.imp i, fun x hx => (h.bytes x hx).imp i⟩
theorem PVr.of {W0 : World} {G : List HProp} {a : Option Addr} {c : Nat} {l : List PV} : PVr W0 (PVL a c l ++ G) a l := by
  refine ⟨SlR.of_osl (E := 61) (c := c) Ext.here, fun x hx => ?_⟩
  obtain ⟨j, hj⟩ := List.mem_iff_getElem?.1 hx
  have hy : (l.map fun x => oby 130 x.a x.c x.b)[j]? = some (oby 130 x.a x.c x.b) := by rw [List.getElem?_map, hj]; rfl
  refine SlR.imp (G' := [oby 130 x.a x.c x.b, Star ((l.map fun x => oby 130 x.a x.c x.b).eraseIdx j)]) (SlR.of_osl (E := 130) (c := x.c) Ext.here) ?_
  refine Imp.trans (B := [Star (l.map fun x => oby 130 x.a x.c x.b)]) ?_ (star_take hy)
  dsimp only [PVL, List.cons_append, List.nil_append]
  exact iM
theorem PVr.at {W0 : World} {G : List HProp} {a : Option Addr} {c : Nat} {l : List PV} (h : Imp G [osl 61 3 a c l.length ((l.map PV.cells).flatten), Star (l.map fun x => oby 130 x.a x.c x.b)]) : PVr W0 G a l := PVr.imp (PVr.of (c := c) (G := [])) h
section
variable (W0 : World) (Fr : List HProp)
theorem take_eq {α : Type} {l m : List α} {i : Nat} {x y : α} (h : l.take i = m.take i) (hx : l[i]? = some x) (hy : m[i]? = some y) (e : x = y) : l.take (i + 1) = m.take (i + 1) := by
  rw [List.take_add_one, List.take_add_one, h, hx, hy, e]
set_option maxHeartbeats 4000000 in
theorem same_spec {a1 a2 : Option Addr} {c1 c2 : Nat} {l1 l2 : List PV} (h1 : PVr W0 Fr a1 l1) (h2 : PVr W0 Fr a2 l2) (hlen : l1.length ≤ 1000000) :
    Ctr Tryz.prog W0 13 [.slice a1 l1.length c1, .slice a2 l2.length c2] Fr (fun _ : Unit => True) (fun _ => .bool (decide (l1.map PV.v = l2.map PV.v))) (fun _ => Fr) := by
  refine Ctr.of_body Tryz.func13 rfl Tryz.ntmps13 rfl ?_
  refine CG.seq ?_
  refine CG.region ?_
  refine OG.sg rfl rfl ?_
  refine OG.nil ?_
  refine QG.then ?_
  refine CG.seq ?_
  refine CG.seq ?_
  refine CG.region ?_
  refine OG.mv rfl rfl ?_
  refine OG.yield (Yield.len_slice Tryz.underlying49 rfl rfl) rfl ?_
  refine OG.mv rfl rfl ?_
  refine OG.yield (Yield.len_slice Tryz.underlying49 rfl rfl) rfl ?_
  refine OG.yield Yield.neqA rfl ?_
  refine OG.nil ?_
  refine QG.then ?_
  refine CG.cond rfl (fun hc => ?_) (fun hc => ?_)
  · try replace hc := of_decide_eq_true hc
    refine CG.seq ?_
    refine CG.region ?_
    refine OG.sg rfl rfl ?_
    refine OG.nil ?_
    refine QG.then ?_
    refine CG.ret ?_
    refine QG.pass_ret ?_
    refine QG.ret1 rfl rfl () trivial ?_ (Imp.refl _)
    rw [decide_eq_false (fun e => by have := congrArg List.length e; rw [List.length_map, List.length_map] at this; omega)]
  · try replace hc := of_decide_eq_false hc
    refine CG.skip ?_
    refine QG.then ?_
    refine CG.seq ?_
    refine CG.seq ?_
    refine CG.region ?_
    refine OG.sg rfl rfl ?_
    refine OG.nil ?_
    refine QG.then ?_
    refine CG.block ?_
    refine CG.loop (fun i : Nat => i ≤ l1.length ∧ (l1.map PV.v).take i = (l2.map PV.v).take i) (fun i => [(0, .slice a1 l1.length c1), (1, .slice a2 l2.length c2), (5, .int .i64 i)]) (fun _ => Fr) (fun i => l1.length - i) 0 ⟨Nat.zero_le _, rfl⟩ eS (Imp.refl _) ?_
    rintro i ⟨hi, hp⟩
    refine CG.seq ?_
    refine CG.seq ?_
    refine CG.region ?_
    refine OG.mv rfl rfl ?_
    refine OG.mv rfl rfl ?_
    refine OG.yield (Yield.len_slice Tryz.underlying49 rfl rfl) rfl ?_
    refine OG.yield Yield.lssA rfl ?_
    refine OG.nil ?_
    refine QG.then ?_
    refine CG.cond rfl (fun hc => ?_) (fun hc => ?_)
    · try replace hc := of_decide_eq_true hc
      obtain ⟨x, hx⟩ : ∃ x, l1[i]? = some x := ⟨_, List.getElem?_eq_getElem (by omega)⟩
      obtain ⟨y, hy⟩ : ∃ y, l2[i]? = some y := ⟨_, List.getElem?_eq_getElem (by omega)⟩
      have hxv : (l1.map PV.v)[i]? = some x.v := by rw [List.getElem?_map, hx]; rfl
      have hyv : (l2.map PV.v)[i]? = some y.v := by rw [List.getElem?_map, hy]; rfl
      have hno : x.v ≠ y.v → l1.map PV.v ≠ l2.map PV.v := fun q e => q (by rw [e, hyv] at hxv; exact (Option.some.inj hxv).symm)
      refine CG.pure (fun w hw => SlR.elem_shape (W0 := W0) (f := PV.cells) (xs := l1) (i := i) h1.cells PV.len (by decide) (by omega) w hw) ?_
      rintro ⟨b1, o1, rfl⟩
      refine CG.pure (fun w hw => SlR.elem_shape (W0 := W0) (f := PV.cells) (xs := l2) (i := i) h2.cells PV.len (by decide) (by omega) w hw) ?_
      rintro ⟨b2, o2, rfl⟩
      have r1 := SlR.elem (f := PV.cells) (xs := l1) (i := i) h1.cells PV.len hx
      have r2 := SlR.elem (f := PV.cells) (xs := l2) (i := i) h2.cells PV.len hy
      refine CG.skip ?_
      refine QG.then ?_
      refine CG.seq ?_
      refine CG.block ?_
      refine CG.seq ?_
      rcases (show x.p ≠ y.p ∨ (x.p = y.p ∧ x.pm ≠ y.pm) ∨ (x.p = y.p ∧ x.pm = y.pm ∧ x.b ≠ y.b) ∨ (x.p = y.p ∧ x.pm = y.pm ∧ x.b = y.b) by by_cases e1 : x.p = y.p <;> by_cases e2 : x.pm = y.pm <;> by_cases e3 : x.b = y.b <;> simp [e1, e2, e3]) with q | ⟨q1, q⟩ | ⟨q1, q2, q⟩ | ⟨q1, q2, q3⟩
      · skip
        refine CG.draw (.look 0 1 (.look 1 1 (.look 2 1 (.look 3 1 (.look 4 1 (.look 5 1 (.look 6 1 (.look 7 1 (.look 8 1 (.look 9 1 (.look 10 1 (.look 11 1 (.look 12 1 (.look 13 1 (.look 14 1 (.look 15 1 (.look 16 1 (.look 17 1 (.look 18 1 (.look 19 1 (.look 20 1 (.look 21 1 (.look 22 1 (.look 23 1 (.look 24 1 (.look 25 1 (.look 26 1 (.look 27 1 (.look 28 1 (.look 29 1 (.look 30 1 (.look 31 1 (.look 32 1 (.look 33 1 (.look 34 1 (.look 35 1 (.look 36 1 (.look 37 1 (.look 38 1 (.done)))))))))))))))))))))))))))))))))))))))) [] [] ([]) ([]) mixed (by kernel_rfl) (Imp.none _) (Imp.none _) ?_
        refine DG.look rfl rfl (Yield.move rfl) rfl ?_
        refine DG.look rfl rfl (Yield.move rfl) rfl ?_
        refine DG.look rfl rfl (Yield.index_slice Tryz.underlying49 ti61 rfl rfl (by omega) (by omega)) rfl ?_
        refine DG.look rfl rfl (Yield.fieldAddr fa61_0 rfl) rfl ?_
        refine DG.look rfl rfl (Yield.load (v := .int .i64 x.p) ti3 rfl (by rw [show o1 + (i : Int).toNat * 3 = o1 + i * 3 by omega]; exact r1 0 _ rfl)) rfl ?_
        refine DG.look rfl rfl (Yield.move rfl) rfl ?_
        refine DG.look rfl rfl (Yield.move rfl) rfl ?_
        refine DG.look rfl rfl (Yield.index_slice Tryz.underlying49 ti61 rfl rfl (by omega) (by omega)) rfl ?_
        refine DG.look rfl rfl (Yield.fieldAddr fa61_0 rfl) rfl ?_
        refine DG.look rfl rfl (Yield.load (v := .int .i64 y.p) ti3 rfl (by rw [show o2 + (i : Int).toNat * 3 = o2 + i * 3 by omega]; exact r2 0 _ rfl)) rfl ?_
        refine DG.look rfl rfl Yield.neqA rfl ?_
        refine DG.look rfl rfl (Yield.move rfl) rfl ?_
        refine DG.pass rfl rfl rfl ?_
        refine DG.pass rfl rfl rfl ?_
        refine DG.pass rfl rfl rfl ?_
        refine DG.pass rfl rfl rfl ?_
        refine DG.pass rfl rfl rfl ?_
        refine DG.pass rfl rfl rfl ?_
        refine DG.pass rfl rfl rfl ?_
        refine DG.pass rfl rfl rfl ?_
        refine DG.pass rfl rfl rfl ?_
        refine DG.pass rfl rfl rfl ?_
        refine DG.pass rfl rfl rfl ?_
        refine DG.look rfl rfl Yield.pickA rfl ?_
        refine DG.look rfl rfl (Yield.move rfl) rfl ?_
        refine DG.pass rfl rfl rfl ?_
        refine DG.pass rfl rfl rfl ?_
        refine DG.pass rfl rfl rfl ?_
        refine DG.pass rfl rfl rfl ?_
        refine DG.pass rfl rfl rfl ?_
        refine DG.pass rfl rfl rfl ?_
        refine DG.pass rfl rfl rfl ?_
        refine DG.pass rfl rfl rfl ?_
        refine DG.pass rfl rfl rfl ?_
        refine DG.pass rfl rfl rfl ?_
        refine DG.pass rfl rfl rfl ?_
        refine DG.pass rfl rfl rfl ?_
        refine DG.pass rfl rfl rfl ?_
        refine DG.look rfl rfl Yield.pickA rfl ?_
        refine DG.done ?_
        refine QG.then ?_
        refine CG.cond_t rfl ?_
        refine CG.seq ?_
        refine CG.region ?_
        refine OG.sg rfl rfl ?_
        refine OG.nil ?_
        refine QG.then ?_
        refine CG.ret ?_
        refine QG.block_ret ?_
        refine QG.pass_ret ?_
        refine QG.pass_ret ?_
        refine QG.block_ret ?_
        refine QG.pass_ret ?_
        exact QG.ret1 rfl rfl () trivial (by rw [decide_eq_false (hno (fun e => q (congrArg (·.1) e)))]) (Imp.refl _)
      · skip
        refine CG.draw (.look 0 1 (.look 1 1 (.look 2 1 (.look 3 1 (.look 4 1 (.look 5 1 (.look 6 1 (.look 7 1 (.look 8 1 (.look 9 1 (.look 10 1 (.look 11 1 (.look 12 1 (.look 13 1 (.look 14 1 (.look 15 1 (.look 16 1 (.look 17 1 (.look 18 1 (.look 19 1 (.look 20 1 (.look 21 1 (.look 22 1 (.look 23 1 (.look 24 1 (.look 25 1 (.look 26 1 (.look 27 1 (.look 28 1 (.look 29 1 (.look 30 1 (.look 31 1 (.look 32 1 (.look 33 1 (.look 34 1 (.look 35 1 (.look 36 1 (.look 37 1 (.look 38 1 (.done)))))))))))))))))))))))))))))))))))))))) [] [] ([]) ([]) mixed (by kernel_rfl) (Imp.none _) (Imp.none _) ?_
        refine DG.look rfl rfl (Yield.move rfl) rfl ?_
        refine DG.look rfl rfl (Yield.move rfl) rfl ?_
        refine DG.look rfl rfl (Yield.index_slice Tryz.underlying49 ti61 rfl rfl (by omega) (by omega)) rfl ?_
        refine DG.look rfl rfl (Yield.fieldAddr fa61_0 rfl) rfl ?_
        refine DG.look rfl rfl (Yield.load (v := .int .i64 x.p) ti3 rfl (by rw [show o1 + (i : Int).toNat * 3 = o1 + i * 3 by omega]; exact r1 0 _ rfl)) rfl ?_
        refine DG.look rfl rfl (Yield.move rfl) rfl ?_
        refine DG.look rfl rfl (Yield.move rfl) rfl ?_
        refine DG.look rfl rfl (Yield.index_slice Tryz.underlying49 ti61 rfl rfl (by omega) (by omega)) rfl ?_
        refine DG.look rfl rfl (Yield.fieldAddr fa61_0 rfl) rfl ?_
        refine DG.look rfl rfl (Yield.load (v := .int .i64 y.p) ti3 rfl (by rw [show o2 + (i : Int).toNat * 3 = o2 + i * 3 by omega]; exact r2 0 _ rfl)) rfl ?_
        refine DG.look rfl rfl Yield.neqA rfl ?_
        refine DG.look rfl rfl (Yield.move rfl) rfl ?_
        refine DG.look rfl rfl (Yield.move rfl) rfl ?_
        refine DG.look rfl rfl (Yield.move rfl) rfl ?_
        refine DG.look rfl rfl (Yield.index_slice Tryz.underlying49 ti61 rfl rfl (by omega) (by omega)) rfl ?_
        refine DG.look rfl rfl (Yield.fieldAddr fa61_1 rfl) rfl ?_
        refine DG.look rfl rfl (Yield.load (v := .int .i64 x.pm) ti3 rfl (by rw [show o1 + (i : Int).toNat * 3 = o1 + i * 3 by omega]; exact r1 1 _ rfl)) rfl ?_
        refine DG.look rfl rfl (Yield.move rfl) rfl ?_
        refine DG.look rfl rfl (Yield.move rfl) rfl ?_
        refine DG.look rfl rfl (Yield.index_slice Tryz.underlying49 ti61 rfl rfl (by omega) (by omega)) rfl ?_
        refine DG.look rfl rfl (Yield.fieldAddr fa61_1 rfl) rfl ?_
        refine DG.look rfl rfl (Yield.load (v := .int .i64 y.pm) ti3 rfl (by rw [show o2 + (i : Int).toNat * 3 = o2 + i * 3 by omega]; exact r2 1 _ rfl)) rfl ?_
        refine DG.look rfl rfl Yield.neqA rfl ?_
        refine DG.look rfl rfl Yield.pickA rfl ?_
        refine DG.look rfl rfl (Yield.move rfl) rfl ?_
        refine DG.pass rfl rfl rfl ?_
        refine DG.pass rfl rfl rfl ?_
        refine DG.pass rfl rfl rfl ?_
        refine DG.pass rfl rfl rfl ?_
        refine DG.pass rfl rfl rfl ?_
        refine DG.pass rfl rfl rfl ?_
        refine DG.pass rfl rfl rfl ?_
        refine DG.pass rfl rfl rfl ?_
        refine DG.pass rfl rfl rfl ?_
        refine DG.pass rfl rfl rfl ?_
        refine DG.pass rfl rfl rfl ?_
        refine DG.pass rfl rfl rfl ?_
        refine DG.pass rfl rfl rfl ?_
        refine DG.look rfl rfl Yield.pickA rfl ?_
        refine DG.done ?_
        refine QG.then ?_
        refine CG.cond_t rfl ?_
        refine CG.seq ?_
        refine CG.region ?_
        refine OG.sg rfl rfl ?_
        refine OG.nil ?_
        refine QG.then ?_
        refine CG.ret ?_
        refine QG.block_ret ?_
        refine QG.pass_ret ?_
        refine QG.pass_ret ?_
        refine QG.block_ret ?_
        refine QG.pass_ret ?_
        exact QG.ret1 rfl rfl () trivial (by rw [decide_eq_false (hno (fun e => q (congrArg (·.2.1) e)))]) (Imp.refl _)
      · skip
        refine CG.draw (.look 0 1 (.look 1 1 (.look 2 1 (.look 3 1 (.look 4 1 (.look 5 1 (.look 6 1 (.look 7 1 (.look 8 1 (.look 9 1 (.look 10 1 (.look 11 1 (.look 12 1 (.look 13 1 (.look 14 1 (.look 15 1 (.look 16 1 (.look 17 1 (.look 18 1 (.look 19 1 (.look 20 1 (.look 21 1 (.look 22 1 (.look 23 1 (.look 24 1 (.look 25 1 (.look 26 1 (.look 27 1 (.look 28 1 (.look 29 1 (.look 30 1 (.look 31 1 (.look 32 1 (.look 33 1 (.look 34 1 (.look 35 1 (.look 36 1 (.look 37 1 (.look 38 1 (.done)))))))))))))))))))))))))))))))))))))))) [] [] ([]) ([]) mixed (by kernel_rfl) (Imp.none _) (Imp.none _) ?_
        refine DG.look rfl rfl (Yield.move rfl) rfl ?_
        refine DG.look rfl rfl (Yield.move rfl) rfl ?_
        refine DG.look rfl rfl (Yield.index_slice Tryz.underlying49 ti61 rfl rfl (by omega) (by omega)) rfl ?_
        refine DG.look rfl rfl (Yield.fieldAddr fa61_0 rfl) rfl ?_
        refine DG.look rfl rfl (Yield.load (v := .int .i64 x.p) ti3 rfl (by rw [show o1 + (i : Int).toNat * 3 = o1 + i * 3 by omega]; exact r1 0 _ rfl)) rfl ?_
        refine DG.look rfl rfl (Yield.move rfl) rfl ?_
        refine DG.look rfl rfl (Yield.move rfl) rfl ?_
        refine DG.look rfl rfl (Yield.index_slice Tryz.underlying49 ti61 rfl rfl (by omega) (by omega)) rfl ?_
        refine DG.look rfl rfl (Yield.fieldAddr fa61_0 rfl) rfl ?_
        refine DG.look rfl rfl (Yield.load (v := .int .i64 y.p) ti3 rfl (by rw [show o2 + (i : Int).toNat * 3 = o2 + i * 3 by omega]; exact r2 0 _ rfl)) rfl ?_
        refine DG.look rfl rfl Yield.neqA rfl ?_
        refine DG.look rfl rfl (Yield.move rfl) rfl ?_
        refine DG.look rfl rfl (Yield.move rfl) rfl ?_
        refine DG.look rfl rfl (Yield.move rfl) rfl ?_
        refine DG.look rfl rfl (Yield.index_slice Tryz.underlying49 ti61 rfl rfl (by omega) (by omega)) rfl ?_
        refine DG.look rfl rfl (Yield.fieldAddr fa61_1 rfl) rfl ?_
        refine DG.look rfl rfl (Yield.load (v := .int .i64 x.pm) ti3 rfl (by rw [show o1 + (i : Int).toNat * 3 = o1 + i * 3 by omega]; exact r1 1 _ rfl)) rfl ?_
        refine DG.look rfl rfl (Yield.move rfl) rfl ?_
        refine DG.look rfl rfl (Yield.move rfl) rfl ?_
        refine DG.look rfl rfl (Yield.index_slice Tryz.underlying49 ti61 rfl rfl (by omega) (by omega)) rfl ?_
        refine DG.look rfl rfl (Yield.fieldAddr fa61_1 rfl) rfl ?_
        refine DG.look rfl rfl (Yield.load (v := .int .i64 y.pm) ti3 rfl (by rw [show o2 + (i : Int).toNat * 3 = o2 + i * 3 by omega]; exact r2 1 _ rfl)) rfl ?_
        refine DG.look rfl rfl Yield.neqA rfl ?_
        refine DG.look rfl rfl Yield.pickA rfl ?_
        refine DG.look rfl rfl (Yield.move rfl) rfl ?_
        refine DG.look rfl rfl (Yield.move rfl) rfl ?_
        refine DG.look rfl rfl (Yield.move rfl) rfl ?_
        refine DG.look rfl rfl (Yield.index_slice Tryz.underlying49 ti61 rfl rfl (by omega) (by omega)) rfl ?_
        refine DG.look rfl rfl (Yield.fieldAddr fa61_2 rfl) rfl ?_
        refine DG.look rfl rfl (Yield.load (v := .slice x.a x.b.length x.c) ti32 rfl (by rw [show o1 + (i : Int).toNat * 3 = o1 + i * 3 by omega]; exact r1 2 _ rfl)) rfl ?_
        refine DG.look rfl rfl (Yield.toStr (bs := x.b) Tryz.underlying32 Tryz.underlying9 Tryz.underlying5 rfl (h1.bytes x (List.mem_of_getElem? hx))) rfl ?_
        refine DG.look rfl rfl (Yield.move rfl) rfl ?_
        refine DG.look rfl rfl (Yield.move rfl) rfl ?_
        refine DG.look rfl rfl (Yield.index_slice Tryz.underlying49 ti61 rfl rfl (by omega) (by omega)) rfl ?_
        refine DG.look rfl rfl (Yield.fieldAddr fa61_2 rfl) rfl ?_
        refine DG.look rfl rfl (Yield.load (v := .slice y.a y.b.length y.c) ti32 rfl (by rw [show o2 + (i : Int).toNat * 3 = o2 + i * 3 by omega]; exact r2 2 _ rfl)) rfl ?_
        refine DG.look rfl rfl (Yield.toStr (bs := y.b) Tryz.underlying32 Tryz.underlying9 Tryz.underlying5 rfl (h2.bytes y (List.mem_of_getElem? hy))) rfl ?_
        refine DG.look rfl rfl (Yield.as (Yield.str_neq rfl rfl) (v' := .bool true) (by rw [strOf_toList, strOf_toList]; simp [q])) rfl ?_
        refine DG.look rfl rfl Yield.pickA rfl ?_
        refine DG.done ?_
        refine QG.then ?_
        refine CG.cond_t rfl ?_
        refine CG.seq ?_
        refine CG.region ?_
        refine OG.sg rfl rfl ?_
        refine OG.nil ?_
        refine QG.then ?_
        refine CG.ret ?_
        refine QG.block_ret ?_
        refine QG.pass_ret ?_
        refine QG.pass_ret ?_
        refine QG.block_ret ?_
        refine QG.pass_ret ?_
        exact QG.ret1 rfl rfl () trivial (by rw [decide_eq_false (hno (fun e => q (congrArg (·.2.2) e)))]) (Imp.refl _)
      · skip
        refine CG.draw (.look 0 1 (.look 1 1 (.look 2 1 (.look 3 1 (.look 4 1 (.look 5 1 (.look 6 1 (.look 7 1 (.look 8 1 (.look 9 1 (.look 10 1 (.look 11 1 (.look 12 1 (.look 13 1 (.look 14 1 (.look 15 1 (.look 16 1 (.look 17 1 (.look 18 1 (.look 19 1 (.look 20 1 (.look 21 1 (.look 22 1 (.look 23 1 (.look 24 1 (.look 25 1 (.look 26 1 (.look 27 1 (.look 28 1 (.look 29 1 (.look 30 1 (.look 31 1 (.look 32 1 (.look 33 1 (.look 34 1 (.look 35 1 (.look 36 1 (.look 37 1 (.look 38 1 (.done)))))))))))))))))))))))))))))))))))))))) [] [] ([]) ([]) mixed (by kernel_rfl) (Imp.none _) (Imp.none _) ?_
        refine DG.look rfl rfl (Yield.move rfl) rfl ?_
        refine DG.look rfl rfl (Yield.move rfl) rfl ?_
        refine DG.look rfl rfl (Yield.index_slice Tryz.underlying49 ti61 rfl rfl (by omega) (by omega)) rfl ?_
        refine DG.look rfl rfl (Yield.fieldAddr fa61_0 rfl) rfl ?_
        refine DG.look rfl rfl (Yield.load (v := .int .i64 x.p) ti3 rfl (by rw [show o1 + (i : Int).toNat * 3 = o1 + i * 3 by omega]; exact r1 0 _ rfl)) rfl ?_
        refine DG.look rfl rfl (Yield.move rfl) rfl ?_
        refine DG.look rfl rfl (Yield.move rfl) rfl ?_
        refine DG.look rfl rfl (Yield.index_slice Tryz.underlying49 ti61 rfl rfl (by omega) (by omega)) rfl ?_
        refine DG.look rfl rfl (Yield.fieldAddr fa61_0 rfl) rfl ?_
        refine DG.look rfl rfl (Yield.load (v := .int .i64 y.p) ti3 rfl (by rw [show o2 + (i : Int).toNat * 3 = o2 + i * 3 by omega]; exact r2 0 _ rfl)) rfl ?_
        refine DG.look rfl rfl Yield.neqA rfl ?_
        refine DG.look rfl rfl (Yield.move rfl) rfl ?_
        refine DG.look rfl rfl (Yield.move rfl) rfl ?_
        refine DG.look rfl rfl (Yield.move rfl) rfl ?_
        refine DG.look rfl rfl (Yield.index_slice Tryz.underlying49 ti61 rfl rfl (by omega) (by omega)) rfl ?_
        refine DG.look rfl rfl (Yield.fieldAddr fa61_1 rfl) rfl ?_
        refine DG.look rfl rfl (Yield.load (v := .int .i64 x.pm) ti3 rfl (by rw [show o1 + (i : Int).toNat * 3 = o1 + i * 3 by omega]; exact r1 1 _ rfl)) rfl ?_
        refine DG.look rfl rfl (Yield.move rfl) rfl ?_
        refine DG.look rfl rfl (Yield.move rfl) rfl ?_
        refine DG.look rfl rfl (Yield.index_slice Tryz.underlying49 ti61 rfl rfl (by omega) (by omega)) rfl ?_
        refine DG.look rfl rfl (Yield.fieldAddr fa61_1 rfl) rfl ?_
        refine DG.look rfl rfl (Yield.load (v := .int .i64 y.pm) ti3 rfl (by rw [show o2 + (i : Int).toNat * 3 = o2 + i * 3 by omega]; exact r2 1 _ rfl)) rfl ?_
        refine DG.look rfl rfl Yield.neqA rfl ?_
        refine DG.look rfl rfl Yield.pickA rfl ?_
        refine DG.look rfl rfl (Yield.move rfl) rfl ?_
        refine DG.look rfl rfl (Yield.move rfl) rfl ?_
        refine DG.look rfl rfl (Yield.move rfl) rfl ?_
        refine DG.look rfl rfl (Yield.index_slice Tryz.underlying49 ti61 rfl rfl (by omega) (by omega)) rfl ?_
        refine DG.look rfl rfl (Yield.fieldAddr fa61_2 rfl) rfl ?_
        refine DG.look rfl rfl (Yield.load (v := .slice x.a x.b.length x.c) ti32 rfl (by rw [show o1 + (i : Int).toNat * 3 = o1 + i * 3 by omega]; exact r1 2 _ rfl)) rfl ?_
        refine DG.look rfl rfl (Yield.toStr (bs := x.b) Tryz.underlying32 Tryz.underlying9 Tryz.underlying5 rfl (h1.bytes x (List.mem_of_getElem? hx))) rfl ?_
        refine DG.look rfl rfl (Yield.move rfl) rfl ?_
        refine DG.look rfl rfl (Yield.move rfl) rfl ?_
        refine DG.look rfl rfl (Yield.index_slice Tryz.underlying49 ti61 rfl rfl (by omega) (by omega)) rfl ?_
        refine DG.look rfl rfl (Yield.fieldAddr fa61_2 rfl) rfl ?_
        refine DG.look rfl rfl (Yield.load (v := .slice y.a y.b.length y.c) ti32 rfl (by rw [show o2 + (i : Int).toNat * 3 = o2 + i * 3 by omega]; exact r2 2 _ rfl)) rfl ?_
        refine DG.look rfl rfl (Yield.toStr (bs := y.b) Tryz.underlying32 Tryz.underlying9 Tryz.underlying5 rfl (h2.bytes y (List.mem_of_getElem? hy))) rfl ?_
        refine DG.look rfl rfl (Yield.as (Yield.str_neq rfl rfl) (v' := .bool false) (by rw [strOf_toList, strOf_toList]; simp [q3])) rfl ?_
        refine DG.look rfl rfl Yield.pickA rfl ?_
        refine DG.done ?_
        refine QG.then ?_
        refine CG.cond_f rfl ?_
        refine CG.skip ?_
        refine QG.block_normal ?_
        refine QG.then ?_
        refine CG.region ?_
        refine OG.mv rfl rfl ?_
        refine OG.yield (Yield.add rfl rfl (w64 (by omega) (by omega))) rfl ?_
        refine OG.sg rfl rfl ?_
        refine OG.nil ?_
        exact QG.next (i + 1) ⟨by omega, take_eq hp hxv hyv (by unfold PV.v; rw [q1, q2, q3])⟩ (by first | omega | (simp only; omega)) eS (Imp.refl _)
    · try replace hc := of_decide_eq_false hc
      refine CG.exit ?_
      refine QG.pass_exit ?_
      refine QG.pass_exit ?_
      refine QG.block_exit ?_
      refine QG.then ?_
      refine CG.seq ?_
      refine CG.region ?_
      refine OG.sg rfl rfl ?_
      refine OG.nil ?_
      refine QG.then ?_
      refine CG.ret ?_
      obtain rfl : i = l1.length := by omega
      refine QG.ret1 rfl rfl () trivial ?_ (Imp.refl _)
      rw [decide_eq_true (show l1.map PV.v = l2.map PV.v by rw [List.take_of_length_le (by rw [List.length_map]; omega), List.take_of_length_le (by rw [List.length_map]; omega)] at hp; exact hp)]
end
end Go.Proofs.YtmlfcfbblfcpdaaGreat.Sp
/- Images: their pages, the program's and the document's. -/
namespace Go.Proofs.YtmlfcfbblfcpdaaGreat.Sp
open Go Go.Sl Go.RowKit Go.Proofs Go.Proofs.YtmlfcfbblfcpdaaGreat.T Go.Proofs.YtmlfcfbblfcpdaaGreat.Me Go.Proofs.YtmlfcfbblfcpdaaGreat.Pe Go.Proofs.YtmlfcfbblfcpdaaGreat.Pg
set_option maxRecDepth 100000
/-- How many pages a section has. -/
def npg (s : SSec) : Nat := (endS s - s.Page).toNat + 1
/-- A section's first pages. -/
def secP (s : SSec) (j : Nat) : List (Nat × Nat × List UInt8) := (List.range j).map fun i => (s.Page.toNat + i, s.Perm.toNat, fillB ((s.Bytes.drop (i * 256)).take 256))
def imgP (l : List SSec) : List (Nat × Nat × List UInt8) := l.flatMap fun s => secP s (npg s)
/-- An image's pages. -/
def pagesImg (en : Int) (l : List SSec) : List (Nat × Nat × List UInt8) := if chk en l = 0 then imgP l else []
theorem imgP_snoc {l : List SSec} {i : Nat} {s : SSec} (hs : l[i]? = some s) : imgP (l.take (i + 1)) = imgP (l.take i) ++ secP s (npg s) := by
  obtain ⟨hi, rfl⟩ := List.getElem?_eq_some_iff.1 hs
  unfold imgP
  rw [List.take_succ_eq_append_getElem hi, List.flatMap_append]; simp
theorem secP_succ {s : SSec} {j : Nat} : secP s (j + 1) = secP s j ++ [(s.Page.toNat + j, s.Perm.toNat, fillB ((s.Bytes.drop (j * 256)).take 256))] := by
  unfold secP; rw [List.range_succ, List.map_append]; rfl
theorem chkL_all : ∀ {l : List SSec} {t e : Int}, 0 ≤ t → chkL l t e = 0 → ∀ s ∈ l, ¬ badS s ∧ endS s < 4096 ∧ s.Bytes.length ≤ 16384
  | [], _, _, _, _, s, h => by cases h
  | x :: l, t, e, ht, h, s, hs => by
    unfold chkL at h
    by_cases he : sectE x (t + x.Bytes.length) e = 0
    · rw [if_pos he] at h
      obtain ⟨o1, o2, o3, o4⟩ := sectE_ok he
      rcases List.mem_cons.1 hs with rfl | hs
      · exact ⟨o1, o3, by omega⟩
      · exact chkL_all (by omega) h s hs
    · rw [if_neg he] at h; exact absurd h he
theorem chk_all {en : Int} {l : List SSec} (h : chk en l = 0) : l.length ≤ 16 ∧ ∀ s ∈ l, ¬ badS s ∧ endS s < 4096 ∧ s.Bytes.length ≤ 16384 := by
  unfold chk at h
  split at h
  · cases h
  · split at h
    · cases h
    · exact ⟨by omega, chkL_all (Int.le_refl 0) h⟩
theorem over_page {D : List UInt8} : Sl.over (bytesV (List.replicate 256 0)) 0 ((bytesV D).take (min D.length 256)) = bytesV (fillB (D.take 256)) := by
  have h1 : (D.take 256).length ≤ 256 := by rw [List.length_take]; omega
  have h2 : (bytesV D).take (min D.length 256) = bytesV (D.take 256) := by
    rw [bytesV_take]; congr 1; rw [List.take_eq_take_iff]; omega
  rw [h2, Me.over_bytes, over_zero h1]
/-- A list of views of one's own, over bytes. -/
abbrev PLU (a : Option Addr) (c : Nat) (l : List PV) : List HProp := [osl 61 3 a c l.length ((l.map PV.cells).flatten), Star (l.map fun x => oby 5 x.a x.c x.b)]
theorem plu_snoc {a : Option Addr} {c b : Nat} {l : List PV} {p pm : Nat} {w : List UInt8} {G : List HProp} (hw : w.length = 256) :
    Imp (osl 5 1 (some ⟨b, 0, none⟩) 256 256 (bytesV w) :: osl 61 3 a c (l.length + 1) ((l.map PV.cells).flatten ++ [.int .i64 p, .int .i64 pm, .slice (some ⟨b, 0, none⟩) 256 256]) :: Star (l.map fun x => oby 5 x.a x.c x.b) :: G) (PLU a c (l ++ [⟨p, pm, some ⟨b, 0, none⟩, 256, w⟩]) ++ G) := by
  rw [show PLU a c (l ++ [⟨p, pm, some ⟨b, 0, none⟩, 256, w⟩]) = [osl 61 3 a c (l.length + 1) ((l.map PV.cells).flatten ++ [.int .i64 p, .int .i64 pm, .slice (some ⟨b, 0, none⟩) 256 256]), Star ((l.map fun x => oby 5 x.a x.c x.b) ++ [osl 5 1 (some ⟨b, 0, none⟩) 256 256 (bytesV w)])] by simp [PLU, PV.cells, oby, hw]]
  refine Imp.trans (B := osl 5 1 (some ⟨b, 0, none⟩) 256 256 (bytesV w) :: Star (l.map fun x => oby 5 x.a x.c x.b) :: osl 61 3 a c (l.length + 1) ((l.map PV.cells).flatten ++ [.int .i64 p, .int .i64 pm, .slice (some ⟨b, 0, none⟩) 256 256]) :: G) iM (Imp.trans star_add ?_)
  dsimp only [List.cons_append, List.nil_append]
  exact iM
/-- A list of views, where it lies. -/
structure PZ where
  a : Option Addr
  c : Nat
  l : List PV
section
variable (W0 : World) (Fr : List HProp)
set_option maxHeartbeats 2000000 in
theorem pages_img {en : Int} {a : Option Addr} {l : List SSec} {c : Nat} (hen : 0 ≤ en) (hen2 : en ≤ 4294967295) (h : SecR W0 Fr a l) : Ctr Tryz.prog W0 53 [imgV en a l c] Fr (fun z : PZ => z.l.map PV.v = pagesImg en l) (fun z => .slice z.a z.l.length z.c) (fun z => PLU z.a z.c z.l ++ Fr) := by
  refine Ctr.of_body Tryz.func53 rfl Tryz.ntmps53 rfl ?_
  refine CG.seq ?_
  refine CG.region ?_
  refine OG.effd (Eff.box rfl) rfl ?_
  rintro b1 -
  refine OG.sg rfl rfl ?_
  refine OG.nil ?_
  refine QG.then ?_
  refine CG.seq ?_
  refine CG.seq ?_
  rcases Decidable.em (chk en l = 0) with he | he
  · skip
    obtain ⟨hl16, hall⟩ := chk_all he
    refine CG.region ?_
    refine OG.yield (Yield.load_agg (vs := [.int .u32 en, .slice a l.length c]) ti35 rfl rfl (Row.of_blk (b := b1) eX rfl)) rfl ?_
    refine OG.callo call52 rfl (iM) (check_spec W0 _ (l := l) (a := a) (c := c) hen hen2 (by exact h.imp iM)) rfl ?_
    rintro ⟨⟩ -
    refine OG.yield (Yield.as (Yield.neq rfl rfl) (v' := .bool false) (bF (by simpa using he))) rfl ?_
    refine OG.nil ?_
    refine QG.then ?_
    refine CG.cond_f rfl ?_
    refine CG.skip ?_
    refine QG.then ?_
    refine CG.seq ?_
    refine CG.region ?_
    refine OG.sg rfl rfl ?_
    refine OG.nil ?_
    refine QG.then ?_
    refine CG.seq ?_
    refine CG.seq ?_
    refine CG.region ?_
    refine OG.yield (Yield.fieldAddr fa35_1 rfl) rfl ?_
    refine OG.yield (Yield.loadA ti33 rfl) rfl ?_
    refine OG.yield (Yield.len_slice Tryz.underlying33 rfl rfl) rfl ?_
    refine OG.mv rfl rfl ?_
    refine OG.nil ?_
    refine QG.then ?_
    refine CG.block ?_
    refine CG.loop (fun y : Nat × PZ => y.1 ≤ l.length ∧ y.2.l.map PV.v = imgP (l.take y.1) ∧ y.2.l.length ≤ y.1 * 4096) (fun y => [(1, .pointer (some ⟨b1, 0, none⟩)), (3, .slice y.2.a y.2.l.length y.2.c), (12, .slice a l.length c), (13, .int .i64 l.length), (14, .int .i64 y.1)]) (fun y => PLU y.2.a y.2.c y.2.l ++ (blk b1 [.int .u32 en, .slice a l.length c] 35 :: Fr)) (fun y => l.length - y.1) (0, ⟨none, 0, []⟩) ⟨Nat.zero_le _, rfl, Nat.zero_le _⟩ eS (Imp.trans star_nil (Imp.trans osl_nil iM)) ?_
    rintro ⟨i, z⟩ ⟨hi, hz, hzl⟩
    dsimp only [List.cons_append, List.nil_append] at hi hz hzl ⊢
    refine CG.seq ?_
    refine CG.region ?_
    refine OG.yield Yield.lssA rfl ?_
    refine OG.nil ?_
    refine QG.then ?_
    refine CG.seq ?_
    refine CG.cond rfl (fun hc => ?_) (fun hc => ?_)
    · try replace hc := of_decide_eq_true hc
      obtain ⟨s, hs⟩ : ∃ s, l[i]? = some s := ⟨_, List.getElem?_eq_getElem (by omega)⟩
      have hsm := List.mem_of_getElem? hs
      have hsl := h.len s hsm
      obtain ⟨hb, he4, hs16⟩ := hall s hsm
      have hn1 : npg s = (endS s - s.Page).toNat + 1 := rfl
      have hn2 : endS s = s.Page + ((s.Bytes.length : Int) - 1) / 256 := rfl
      obtain ⟨pg, hpg⟩ : ∃ p : Nat, s.Page = (p : Int) := ⟨s.Page.toNat, by unfold badS at hb; omega⟩
      obtain ⟨pmn, hpmn⟩ : ∃ p : Nat, s.Perm = (p : Int) := ⟨s.Perm.toNat, by unfold badS at hb; omega⟩
      unfold badS at hb
      refine CG.pure (fun w hw => SlR.elem_shape (W0 := W0) (G := Fr) (f := SSec.cells) (xs := l) (i := i) h.cells SSec.len (by decide) (by omega) w (hw.imp iM)) ?_
      rintro ⟨ba, bo, rfl⟩
      have r0 : Row W0 Fr ba (bo + i * 3) s.cells := SlR.elem (f := SSec.cells) (xs := l) (i := i) h.cells SSec.len hs
      have hby := h.bytes s hsm
      refine CG.pure (show ∀ w, Sat W0 _ w → s.Bytes.length ≤ s.Bytesc from fun w hw => hby.cap w (hw.imp iM)) ?_
      intro hcap
      refine CG.skip ?_
      refine QG.then ?_
      refine CG.seq ?_
      refine CG.block ?_
      refine CG.seq ?_
      refine CG.region ?_
      refine OG.yield (Yield.index_slice Tryz.underlying33 ti82 rfl rfl (by omega) (by omega)) rfl ?_
      refine OG.yield (Yield.load_agg (vs := s.cells) ti82 rfl (SSec.len _) (by rw [show bo + (i : Int).toNat * 3 = bo + i * 3 by omega]; exact r0.imp iM)) rfl ?_
      refine OG.effd (Eff.alloc ti82) rfl ?_
      rintro b5 -
      refine OG.eff (Eff.storeAll (vs := s.cells) ti82 rfl rfl fC rfl (SSec.ones _) (by simp [Value.cells])) rfl ?_
      rintro ⟨⟩ -
      refine OG.nil ?_
      refine QG.then ?_
      refine CG.seq ?_
      refine CG.region ?_
      refine OG.yield (Yield.fieldAddr fa82_0 rfl) rfl ?_
      refine OG.yield (Yield.as (Yield.load (v := .int .i64 s.Page) ti3 rfl (Cel.of_blk (b := b5) eX rfl)) (v' := .int .i64 (pg + 0 : Nat)) (by rw [hpg]; rfl)) rfl ?_
      refine OG.sg rfl rfl ?_
      refine OG.nil ?_
      refine QG.then ?_
      refine CG.block ?_
      refine CG.loop (fun y : Nat × PZ => y.1 ≤ npg s ∧ y.2.l.map PV.v = imgP (l.take i) ++ secP s y.1 ∧ y.2.l.length ≤ i * 4096 + y.1) (fun y => [(1, .pointer (some ⟨b1, 0, none⟩)), (3, .slice y.2.a y.2.l.length y.2.c), (12, .slice (some ⟨ba, bo, none⟩) l.length c), (13, .int .i64 l.length), (14, .int .i64 i), (5, .pointer (some ⟨b5, 0, none⟩)), (6, .int .i64 (pg + y.1 : Nat))]) (fun y => PLU y.2.a y.2.c y.2.l ++ (blk b5 s.cells 82 :: blk b1 [.int .u32 en, .slice (some ⟨ba, bo, none⟩) l.length c] 35 :: Fr)) (fun y => npg s - y.1) (0, z) ⟨Nat.zero_le _, by simp only [hz]; simp [secP], by simp only; omega⟩ eS iM ?_
      rintro ⟨j, y⟩ ⟨hj, hy, hyl⟩
      dsimp only [List.cons_append, List.nil_append] at hj hy hyl ⊢
      refine CG.seq ?_
      refine CG.seq ?_
      refine CG.region ?_
      refine OG.mv rfl rfl ?_
      refine OG.yield (Yield.load_agg (vs := s.cells) ti82 rfl (SSec.len _) (Row.of_blk (b := b5) eX rfl)) rfl ?_
      refine OG.callo call91 rfl (iM) (end_spec W0 _ (s := s) (by omega) (by omega) (by omega) hsl) rfl ?_
      rintro ⟨⟩ -
      refine OG.yield Yield.leqA rfl ?_
      refine OG.nil ?_
      refine QG.then ?_
      refine CG.cond rfl (fun hc => ?_) (fun hc => ?_)
      · try replace hc := of_decide_eq_true hc
        have hjn : j < npg s := by omega
        refine CG.skip ?_
        refine QG.then ?_
        refine CG.seq ?_
        refine CG.block ?_
        refine CG.seq ?_
        refine CG.region ?_
        refine OG.effd (Eff.makeB (k := 256) Tryz.underlying32 ti5 rfl rfl (by decide)) rfl ?_
        rintro bb -
        rw [List.length_replicate]
        refine OG.sg rfl rfl ?_
        refine OG.nil ?_
        refine QG.then ?_
        refine CG.seq ?_
        refine CG.region ?_
        refine OG.mv rfl rfl ?_
        refine OG.yield (Yield.fieldAddr fa82_2 rfl) rfl ?_
        refine OG.yield (Yield.load (v := .slice s.Bytesa s.Bytes.length s.Bytesc) ti32 rfl (Cel.of_blk (b := b5) eX rfl)) rfl ?_
        refine OG.mv rfl rfl ?_
        refine OG.yield (Yield.fieldAddr fa82_0 rfl) rfl ?_
        refine OG.yield (Yield.as (Yield.load (v := .int .i64 s.Page) ti3 rfl (Cel.of_blk (b := b5) eX rfl)) (v' := .int .i64 (pg : Nat)) (by rw [hpg])) rfl ?_
        refine OG.yield (Yield.sub (c := (j : Int)) rfl rfl (by rw [w64 (by omega) (by omega)]; omega)) rfl ?_
        refine OG.yield (Yield.mul (c := ((j * 256 : Nat) : Int)) rfl rfl (by rw [w64 (by omega) (by omega)]; omega)) rfl ?_
        refine OG.yield (Yield.as (Yield.slice Tryz.underlying32 ti5 rfl (Bound.some rfl) Bound.none (by omega) (by omega) (by omega)) (v' := .slice (s.Bytesa.map fun a => cutAt a (j * 256) s.Bytesc 1) (s.Bytes.drop (j * 256)).length (s.Bytesc - j * 256)) (by simp only [Int.toNat_natCast, List.length_drop])) rfl ?_
        refine OG.effd (Eff.copyIn (b := bb) (o := 0) (j := 0) (n := 256) (cn := 256) (k := (s.Bytes.drop (j * 256)).length) (ys := bytesV (s.Bytes.drop (j * 256))) rfl rfl rfl Tryz.underlying32 ti5 fC (by decide) ((hby.slR.dropB (k := j * 256) hcap (by omega)).imp iM) bytesV_one) rfl ?_
        rintro ⟨⟩ -
        rw [over_page]
        refine OG.nil ?_
        refine QG.then ?_
        refine CG.region ?_
        refine OG.mv rfl rfl ?_
        refine OG.mv rfl rfl ?_
        refine OG.yield (Yield.fieldAddr fa82_1 rfl) rfl ?_
        refine OG.yield (Yield.as (Yield.load (v := .int .i64 s.Perm) ti3 rfl (Cel.of_blk (b := b5) eX rfl)) (v' := .int .i64 (pmn : Nat)) (by rw [hpmn])) rfl ?_
        refine OG.mv rfl rfl ?_
        refine OG.yield (Yield.build (pvs := [(0, .int .i64 (pg + j : Nat)), (1, .int .i64 (pmn : Nat)), (2, .slice (some ⟨bb, 0, none⟩) 256 256)]) bu61 ti61 rfl (cells := [.int .i64 (pg + j : Nat), .int .i64 (pmn : Nat), .slice (some ⟨bb, 0, none⟩) 256 256]) rfl) rfl ?_
        refine OG.effd (Eff.lit [.tmp 42] (vs := [.agg ([.int .i64 (pg + j : Nat), .int .i64 (pmn : Nat), .slice (some ⟨bb, 0, none⟩) 256 256] : List Value).toArray]) (cells := [.int .i64 (pg + j : Nat), .int .i64 (pmn : Nat), .slice (some ⟨bb, 0, none⟩) 256 256]) Tryz.underlying49 ti61 rfl rfl rfl rfl (by decide) (by simp [Value.cells]) (by simp [Value.cells])) rfl ?_
        rintro b43 -
        refine OG.effd (Eff.append (a := y.a) (c := y.c) (m := y.l.length) (xs := (y.l.map PV.cells).flatten) (k := 1) (ys := [.int .i64 (pg + j : Nat), .int .i64 (pmn : Nat), .slice (some ⟨bb, 0, none⟩) 256 256]) rfl rfl rfl Tryz.underlying49 Tryz.underlying49 ti61 rfl (by decide) fC (SlR.of_osl (a := some ⟨b43, 0, none⟩) eX) (by simp [one]) (by omega)) rfl ?_
        rintro ⟨pa2, pc2⟩ -
        refine OG.sg rfl rfl ?_
        refine OG.nil ?_
        refine QG.block_normal ?_
        refine QG.then ?_
        refine CG.region ?_
        refine OG.mv rfl rfl ?_
        refine OG.yield (Yield.add rfl rfl (w64 (by omega) (by omega))) rfl ?_
        refine OG.sg rfl rfl ?_
        refine OG.nil ?_
        refine QG.next (j + 1, ⟨pa2, pc2, y.l ++ [⟨pg + j, pmn, some ⟨bb, 0, none⟩, 256, fillB ((s.Bytes.drop (j * 256)).take 256)⟩]⟩) ⟨by simp only; omega, ?_, by simp only [List.length_append, List.length_cons, List.length_nil]; omega⟩ (by simp only; omega) (by simp only [List.length_append, List.length_cons, List.length_nil]; exact eS) ?_
        · simp only [List.map_append, hy, secP_succ, List.append_assoc]
          rw [hpg, hpmn]; rfl
        · exact Imp.trans (B := osl 5 1 (some ⟨bb, 0, none⟩) 256 256 (bytesV (fillB ((s.Bytes.drop (j * 256)).take 256))) :: osl 61 3 pa2 pc2 (y.l.length + 1) ((y.l.map PV.cells).flatten ++ [.int .i64 (pg + j : Nat), .int .i64 (pmn : Nat), .slice (some ⟨bb, 0, none⟩) 256 256]) :: Star (y.l.map fun x => oby 5 x.a x.c x.b) :: blk b5 s.cells 82 :: blk b1 [.int .u32 en, .slice (some ⟨ba, bo, none⟩) l.length c] 35 :: Fr) iM (plu_snoc (fillB_len (by rw [List.length_take]; omega)))
      · try replace hc := of_decide_eq_false hc
        refine CG.exit ?_
        refine QG.pass_exit ?_
        refine QG.pass_exit ?_
        refine QG.block_exit ?_
        refine QG.block_normal ?_
        refine QG.then ?_
        refine CG.region ?_
        refine OG.yield (Yield.add rfl rfl (w64 (by omega) (by omega))) rfl ?_
        refine OG.mv rfl rfl ?_
        refine OG.nil ?_
        obtain rfl : j = npg s := by omega
        exact QG.next (i + 1, y) ⟨by simp only; omega, by rw [hy, imgP_snoc hs], by simp only; omega⟩ (by simp only; omega) eS iM
    · try replace hc := of_decide_eq_false hc
      refine CG.exit ?_
      refine QG.pass_exit ?_
      refine QG.pass_exit ?_
      refine QG.block_exit ?_
      refine QG.then ?_
      refine CG.seq ?_
      refine CG.region ?_
      refine OG.mv rfl rfl ?_
      refine OG.sg rfl rfl ?_
      refine OG.nil ?_
      refine QG.then ?_
      refine CG.ret ?_
      obtain rfl : i = l.length := by omega
      exact QG.ret1 rfl rfl z (by unfold pagesImg; rw [if_pos he, hz, List.take_length]) rfl iM
  · skip
    refine CG.region ?_
    refine OG.yield (Yield.load_agg (vs := [.int .u32 en, .slice a l.length c]) ti35 rfl rfl (Row.of_blk (b := b1) eX rfl)) rfl ?_
    refine OG.callo call52 rfl (iM) (check_spec W0 _ (l := l) (a := a) (c := c) hen hen2 (by exact h.imp iM)) rfl ?_
    rintro ⟨⟩ -
    refine OG.yield (Yield.as (Yield.neq rfl rfl) (v' := .bool true) (bT he)) rfl ?_
    refine OG.nil ?_
    refine QG.then ?_
    refine CG.cond_t rfl ?_
    refine CG.seq ?_
    refine CG.region ?_
    refine OG.sg rfl rfl ?_
    refine OG.nil ?_
    refine QG.then ?_
    refine CG.ret ?_
    refine QG.pass_ret ?_
    exact QG.ret1 rfl rfl (⟨none, 0, []⟩ : PZ) (by unfold pagesImg; rw [if_neg he]; rfl) rfl (Imp.trans star_nil (Imp.trans osl_nil iM))
set_option maxHeartbeats 2000000 in
theorem rpages_img {en : Int} {a : Option Addr} {l : List SSec} {c : Nat} (hen : 0 ≤ en) (hen2 : en ≤ 4294967295) (h : SecR W0 Fr a l) : Ctr Tryz.prog W0 18 [imgV en a l c] Fr (fun z : PZ => z.l.map PV.v = pagesImg en l) (fun z => .slice z.a z.l.length z.c) (fun z => PLU z.a z.c z.l ++ Fr) := by
  refine Ctr.of_body Tryz.func18 rfl Tryz.ntmps18 rfl ?_
  refine CG.seq ?_
  refine CG.region ?_
  refine OG.effd (Eff.box rfl) rfl ?_
  rintro b1 -
  refine OG.sg rfl rfl ?_
  refine OG.nil ?_
  refine QG.then ?_
  refine CG.seq ?_
  refine CG.region ?_
  refine OG.sg rfl rfl ?_
  refine OG.nil ?_
  refine QG.then ?_
  refine CG.seq ?_
  refine CG.seq ?_
  rcases Decidable.em (chk en l = 0) with he | he
  · skip
    obtain ⟨hl16, hall⟩ := chk_all he
    refine CG.region ?_
    refine OG.yield (Yield.load_agg (vs := [.int .u32 en, .slice a l.length c]) ti35 rfl rfl (Row.of_blk (b := b1) eX rfl)) rfl ?_
    refine OG.callo call57 rfl (iM) (rcheck_spec W0 _ (l := l) (a := a) (c := c) hen hen2 (by exact h.imp iM)) rfl ?_
    rintro ⟨⟩ -
    refine OG.yield (Yield.as (Yield.neq rfl rfl) (v' := .bool false) (bF (by simpa using he))) rfl ?_
    refine OG.nil ?_
    refine QG.then ?_
    refine CG.cond_f rfl ?_
    refine CG.skip ?_
    refine QG.then ?_
    refine CG.seq ?_
    refine CG.seq ?_
    refine CG.region ?_
    refine OG.sg rfl rfl ?_
    refine OG.nil ?_
    refine QG.then ?_
    refine CG.block ?_
    refine CG.loop (fun y : Nat × PZ => y.1 ≤ l.length ∧ y.2.l.map PV.v = imgP (l.take y.1) ∧ y.2.l.length ≤ y.1 * 4096) (fun y => [(1, .pointer (some ⟨b1, 0, none⟩)), (3, .slice y.2.a y.2.l.length y.2.c), (4, .int .i64 y.1)]) (fun y => PLU y.2.a y.2.c y.2.l ++ (blk b1 [.int .u32 en, .slice a l.length c] 35 :: Fr)) (fun y => l.length - y.1) (0, ⟨none, 0, []⟩) ⟨Nat.zero_le _, rfl, Nat.zero_le _⟩ eS (Imp.trans star_nil (Imp.trans osl_nil iM)) ?_
    rintro ⟨i, z⟩ ⟨hi, hz, hzl⟩
    dsimp only [List.cons_append, List.nil_append] at hi hz hzl ⊢
    refine CG.seq ?_
    refine CG.seq ?_
    refine CG.region ?_
    refine OG.mv rfl rfl ?_
    refine OG.yield (Yield.fieldAddr fa35_1 rfl) rfl ?_
    refine OG.yield (Yield.loadA ti33 rfl) rfl ?_
    refine OG.yield (Yield.len_slice Tryz.underlying33 rfl rfl) rfl ?_
    refine OG.yield Yield.lssA rfl ?_
    refine OG.nil ?_
    refine QG.then ?_
    refine CG.cond rfl (fun hc => ?_) (fun hc => ?_)
    · try replace hc := of_decide_eq_true hc
      obtain ⟨s, hs⟩ : ∃ s, l[i]? = some s := ⟨_, List.getElem?_eq_getElem (by omega)⟩
      have hsm := List.mem_of_getElem? hs
      have hsl := h.len s hsm
      obtain ⟨hb, he4, hs16⟩ := hall s hsm
      have hn1 : npg s = (endS s - s.Page).toNat + 1 := rfl
      have hn2 : endS s = s.Page + ((s.Bytes.length : Int) - 1) / 256 := rfl
      obtain ⟨pg, hpg⟩ : ∃ p : Nat, s.Page = (p : Int) := ⟨s.Page.toNat, by unfold badS at hb; omega⟩
      obtain ⟨pmn, hpmn⟩ : ∃ p : Nat, s.Perm = (p : Int) := ⟨s.Perm.toNat, by unfold badS at hb; omega⟩
      unfold badS at hb
      refine CG.pure (fun w hw => SlR.elem_shape (W0 := W0) (G := Fr) (f := SSec.cells) (xs := l) (i := i) h.cells SSec.len (by decide) (by omega) w (hw.imp iM)) ?_
      rintro ⟨ba, bo, rfl⟩
      have r0 : Row W0 Fr ba (bo + i * 3) s.cells := SlR.elem (f := SSec.cells) (xs := l) (i := i) h.cells SSec.len hs
      have hby := h.bytes s hsm
      refine CG.pure (show ∀ w, Sat W0 _ w → s.Bytes.length ≤ s.Bytesc from fun w hw => hby.cap w (hw.imp iM)) ?_
      intro hcap
      refine CG.skip ?_
      refine QG.then ?_
      refine CG.seq ?_
      refine CG.block ?_
      refine CG.seq ?_
      refine CG.region ?_
      refine OG.yield (Yield.fieldAddr fa35_1 rfl) rfl ?_
      refine OG.yield (Yield.loadA ti33 rfl) rfl ?_
      refine OG.mv rfl rfl ?_
      refine OG.yield (Yield.index_slice Tryz.underlying33 ti82 rfl rfl (by omega) (by omega)) rfl ?_
      refine OG.yield (Yield.load_agg (vs := s.cells) ti82 rfl (SSec.len _) (by rw [show bo + (i : Int).toNat * 3 = bo + i * 3 by omega]; exact r0.imp iM)) rfl ?_
      refine OG.effd (Eff.alloc ti82) rfl ?_
      rintro b5 -
      refine OG.eff (Eff.storeAll (vs := s.cells) ti82 rfl rfl fC rfl (SSec.ones _) (by simp [Value.cells])) rfl ?_
      rintro ⟨⟩ -
      refine OG.nil ?_
      refine QG.then ?_
      refine CG.seq ?_
      refine CG.region ?_
      refine OG.yield (Yield.fieldAddr fa82_0 rfl) rfl ?_
      refine OG.yield (Yield.as (Yield.load (v := .int .i64 s.Page) ti3 rfl (Cel.of_blk (b := b5) eX rfl)) (v' := .int .i64 (pg + 0 : Nat)) (by rw [hpg]; rfl)) rfl ?_
      refine OG.sg rfl rfl ?_
      refine OG.nil ?_
      refine QG.then ?_
      refine CG.block ?_
      refine CG.loop (fun y : Nat × PZ => y.1 ≤ npg s ∧ y.2.l.map PV.v = imgP (l.take i) ++ secP s y.1 ∧ y.2.l.length ≤ i * 4096 + y.1) (fun y => [(1, .pointer (some ⟨b1, 0, none⟩)), (3, .slice y.2.a y.2.l.length y.2.c), (4, .int .i64 i), (5, .pointer (some ⟨b5, 0, none⟩)), (6, .int .i64 (pg + y.1 : Nat))]) (fun y => PLU y.2.a y.2.c y.2.l ++ (blk b5 s.cells 82 :: blk b1 [.int .u32 en, .slice (some ⟨ba, bo, none⟩) l.length c] 35 :: Fr)) (fun y => npg s - y.1) (0, z) ⟨Nat.zero_le _, by simp only [hz]; simp [secP], by simp only; omega⟩ eS iM ?_
      rintro ⟨j, y⟩ ⟨hj, hy, hyl⟩
      dsimp only [List.cons_append, List.nil_append] at hj hy hyl ⊢
      refine CG.seq ?_
      refine CG.seq ?_
      refine CG.region ?_
      refine OG.mv rfl rfl ?_
      refine OG.yield (Yield.load_agg (vs := s.cells) ti82 rfl (SSec.len _) (Row.of_blk (b := b5) eX rfl)) rfl ?_
      refine OG.callo call58 rfl (iM) (last_spec W0 _ (s := s) (by omega) (by omega) (by omega) hsl) rfl ?_
      rintro ⟨⟩ -
      refine OG.yield Yield.leqA rfl ?_
      refine OG.nil ?_
      refine QG.then ?_
      refine CG.cond rfl (fun hc => ?_) (fun hc => ?_)
      · try replace hc := of_decide_eq_true hc
        have hjn : j < npg s := by omega
        refine CG.skip ?_
        refine QG.then ?_
        refine CG.seq ?_
        refine CG.block ?_
        refine CG.seq ?_
        refine CG.region ?_
        refine OG.effd (Eff.makeB (k := 256) Tryz.underlying32 ti5 rfl rfl (by decide)) rfl ?_
        rintro bb -
        rw [List.length_replicate]
        refine OG.sg rfl rfl ?_
        refine OG.nil ?_
        refine QG.then ?_
        refine CG.seq ?_
        refine CG.region ?_
        refine OG.mv rfl rfl ?_
        refine OG.yield (Yield.fieldAddr fa82_2 rfl) rfl ?_
        refine OG.yield (Yield.load (v := .slice s.Bytesa s.Bytes.length s.Bytesc) ti32 rfl (Cel.of_blk (b := b5) eX rfl)) rfl ?_
        refine OG.mv rfl rfl ?_
        refine OG.yield (Yield.fieldAddr fa82_0 rfl) rfl ?_
        refine OG.yield (Yield.as (Yield.load (v := .int .i64 s.Page) ti3 rfl (Cel.of_blk (b := b5) eX rfl)) (v' := .int .i64 (pg : Nat)) (by rw [hpg])) rfl ?_
        refine OG.yield (Yield.sub (c := (j : Int)) rfl rfl (by rw [w64 (by omega) (by omega)]; omega)) rfl ?_
        refine OG.yield (Yield.mul (c := ((j * 256 : Nat) : Int)) rfl rfl (by rw [w64 (by omega) (by omega)]; omega)) rfl ?_
        refine OG.yield (Yield.as (Yield.slice Tryz.underlying32 ti5 rfl (Bound.some rfl) Bound.none (by omega) (by omega) (by omega)) (v' := .slice (s.Bytesa.map fun a => cutAt a (j * 256) s.Bytesc 1) (s.Bytes.drop (j * 256)).length (s.Bytesc - j * 256)) (by simp only [Int.toNat_natCast, List.length_drop])) rfl ?_
        refine OG.effd (Eff.copyIn (b := bb) (o := 0) (j := 0) (n := 256) (cn := 256) (k := (s.Bytes.drop (j * 256)).length) (ys := bytesV (s.Bytes.drop (j * 256))) rfl rfl rfl Tryz.underlying32 ti5 fC (by decide) ((hby.slR.dropB (k := j * 256) hcap (by omega)).imp iM) bytesV_one) rfl ?_
        rintro ⟨⟩ -
        rw [over_page]
        refine OG.nil ?_
        refine QG.then ?_
        refine CG.region ?_
        refine OG.mv rfl rfl ?_
        refine OG.mv rfl rfl ?_
        refine OG.yield (Yield.fieldAddr fa82_1 rfl) rfl ?_
        refine OG.yield (Yield.as (Yield.load (v := .int .i64 s.Perm) ti3 rfl (Cel.of_blk (b := b5) eX rfl)) (v' := .int .i64 (pmn : Nat)) (by rw [hpmn])) rfl ?_
        refine OG.mv rfl rfl ?_
        refine OG.yield (Yield.build (pvs := [(0, .int .i64 (pg + j : Nat)), (1, .int .i64 (pmn : Nat)), (2, .slice (some ⟨bb, 0, none⟩) 256 256)]) bu61 ti61 rfl (cells := [.int .i64 (pg + j : Nat), .int .i64 (pmn : Nat), .slice (some ⟨bb, 0, none⟩) 256 256]) rfl) rfl ?_
        refine OG.effd (Eff.lit [.tmp 48] (vs := [.agg ([.int .i64 (pg + j : Nat), .int .i64 (pmn : Nat), .slice (some ⟨bb, 0, none⟩) 256 256] : List Value).toArray]) (cells := [.int .i64 (pg + j : Nat), .int .i64 (pmn : Nat), .slice (some ⟨bb, 0, none⟩) 256 256]) Tryz.underlying49 ti61 rfl rfl rfl rfl (by decide) (by simp [Value.cells]) (by simp [Value.cells])) rfl ?_
        rintro b49 -
        refine OG.effd (Eff.append (a := y.a) (c := y.c) (m := y.l.length) (xs := (y.l.map PV.cells).flatten) (k := 1) (ys := [.int .i64 (pg + j : Nat), .int .i64 (pmn : Nat), .slice (some ⟨bb, 0, none⟩) 256 256]) rfl rfl rfl Tryz.underlying49 Tryz.underlying49 ti61 rfl (by decide) fC (SlR.of_osl (a := some ⟨b49, 0, none⟩) eX) (by simp [one]) (by omega)) rfl ?_
        rintro ⟨pa2, pc2⟩ -
        refine OG.sg rfl rfl ?_
        refine OG.nil ?_
        refine QG.block_normal ?_
        refine QG.then ?_
        refine CG.region ?_
        refine OG.mv rfl rfl ?_
        refine OG.yield (Yield.add rfl rfl (w64 (by omega) (by omega))) rfl ?_
        refine OG.sg rfl rfl ?_
        refine OG.nil ?_
        refine QG.next (j + 1, ⟨pa2, pc2, y.l ++ [⟨pg + j, pmn, some ⟨bb, 0, none⟩, 256, fillB ((s.Bytes.drop (j * 256)).take 256)⟩]⟩) ⟨by simp only; omega, ?_, by simp only [List.length_append, List.length_cons, List.length_nil]; omega⟩ (by simp only; omega) (by simp only [List.length_append, List.length_cons, List.length_nil]; exact eS) ?_
        · simp only [List.map_append, hy, secP_succ, List.append_assoc]
          rw [hpg, hpmn]; rfl
        · exact Imp.trans (B := osl 5 1 (some ⟨bb, 0, none⟩) 256 256 (bytesV (fillB ((s.Bytes.drop (j * 256)).take 256))) :: osl 61 3 pa2 pc2 (y.l.length + 1) ((y.l.map PV.cells).flatten ++ [.int .i64 (pg + j : Nat), .int .i64 (pmn : Nat), .slice (some ⟨bb, 0, none⟩) 256 256]) :: Star (y.l.map fun x => oby 5 x.a x.c x.b) :: blk b5 s.cells 82 :: blk b1 [.int .u32 en, .slice (some ⟨ba, bo, none⟩) l.length c] 35 :: Fr) iM (plu_snoc (fillB_len (by rw [List.length_take]; omega)))
      · try replace hc := of_decide_eq_false hc
        refine CG.exit ?_
        refine QG.pass_exit ?_
        refine QG.pass_exit ?_
        refine QG.block_exit ?_
        refine QG.block_normal ?_
        refine QG.then ?_
        refine CG.region ?_
        refine OG.mv rfl rfl ?_
        refine OG.yield (Yield.add rfl rfl (w64 (by omega) (by omega))) rfl ?_
        refine OG.sg rfl rfl ?_
        refine OG.nil ?_
        obtain rfl : j = npg s := by omega
        exact QG.next (i + 1, y) ⟨by simp only; omega, by rw [hy, imgP_snoc hs], by simp only; omega⟩ (by simp only; omega) eS iM
    · try replace hc := of_decide_eq_false hc
      refine CG.exit ?_
      refine QG.pass_exit ?_
      refine QG.pass_exit ?_
      refine QG.block_exit ?_
      refine QG.then ?_
      refine CG.seq ?_
      refine CG.region ?_
      refine OG.mv rfl rfl ?_
      refine OG.sg rfl rfl ?_
      refine OG.nil ?_
      refine QG.then ?_
      refine CG.ret ?_
      obtain rfl : i = l.length := by omega
      exact QG.ret1 rfl rfl z (by unfold pagesImg; rw [if_pos he, hz, List.take_length]) rfl iM
  · skip
    refine CG.region ?_
    refine OG.yield (Yield.load_agg (vs := [.int .u32 en, .slice a l.length c]) ti35 rfl rfl (Row.of_blk (b := b1) eX rfl)) rfl ?_
    refine OG.callo call57 rfl (iM) (rcheck_spec W0 _ (l := l) (a := a) (c := c) hen hen2 (by exact h.imp iM)) rfl ?_
    rintro ⟨⟩ -
    refine OG.yield (Yield.as (Yield.neq rfl rfl) (v' := .bool true) (bT he)) rfl ?_
    refine OG.nil ?_
    refine QG.then ?_
    refine CG.cond_t rfl ?_
    refine CG.seq ?_
    refine CG.region ?_
    refine OG.mv rfl rfl ?_
    refine OG.sg rfl rfl ?_
    refine OG.nil ?_
    refine QG.then ?_
    refine CG.ret ?_
    refine QG.pass_ret ?_
    exact QG.ret1 rfl rfl (⟨none, 0, []⟩ : PZ) (by unfold pagesImg; rw [if_neg he]; rfl) rfl (Imp.trans star_nil (Imp.trans osl_nil iM))
end
end Go.Proofs.YtmlfcfbblfcpdaaGreat.Sp
/- space.Space: an image is loaded, or nothing is. -/
namespace Go.Proofs.YtmlfcfbblfcpdaaGreat.Sp
open Go Go.Sl Go.RowKit Go.Proofs Go.Proofs.YtmlfcfbblfcpdaaGreat.T Go.Proofs.YtmlfcfbblfcpdaaGreat.Me Go.Proofs.YtmlfcfbblfcpdaaGreat.Pe Go.Proofs.YtmlfcfbblfcpdaaGreat.Pg
open Go.Proofs.YtmlfcfbblfcpdaaGreat.Fz (cnt cnt_set inv_take inv_give free_frame isP left left_in)
set_option maxRecDepth 100000
abbrev PGv := Nat × Nat × List UInt8
/-- What a page costs. -/
def cost1 (o : Ob) (k p : Nat) : Nat := if o.ts k (p / 64) then 1 else 2
/-- A page with its bytes is laid. -/
def lay1 (o : Ob) (k : Nat) (x : PGv) : Ob := ⟨up2 o.vw k x.1 (some (x.2.1, x.2.2)), up2 o.ts k (x.1 / 64) true, o.fr - cost1 o k x.1⟩
def layL (o : Ob) (k : Nat) : List PGv → Ob
  | [] => o
  | x :: l => layL (lay1 o k x) k l
def needL (o : Ob) (k : Nat) : List PGv → Nat
  | [] => 0
  | x :: l => cost1 o k x.1 + needL (lay1 o k x) k l
/-- Pages one after another, and as they must be. -/
inductive Asc : Int → List PGv → Prop
  | nil {e : Int} : Asc e []
  | cons {e : Int} {x : PGv} {l : List PGv} (h1 : e < x.1) (h2 : x.1 < 4096) (h3 : 1 ≤ x.2.1 ∧ x.2.1 ≤ 7) (h4 : x.2.2.length = 256) (h : Asc x.1 l) : Asc e (x :: l)
theorem Asc.mono {e d : Int} {l : List PGv} (h : Asc e l) (hd : d ≤ e) : Asc d l := by
  cases h with
  | nil => exact .nil
  | cons h1 h2 h3 h4 h => exact .cons (by omega) h2 h3 h4 h
theorem Asc.mem {e : Int} {l : List PGv} (h : Asc e l) : ∀ x ∈ l, e < x.1 ∧ x.1 < 4096 ∧ (1 ≤ x.2.1 ∧ x.2.1 ≤ 7) ∧ x.2.2.length = 256 := by
  induction h with
  | nil => intro x h; cases h
  | cons h1 h2 h3 h4 h ih =>
    intro y hy
    rcases List.mem_cons.1 hy with rfl | hy
    · exact ⟨h1, h2, h3, h4⟩
    · have := ih y hy; exact ⟨by omega, this.2⟩
theorem Asc.append {e : Int} {l m : List PGv} {d : Int} (h : Asc e l) (hm : Asc d m) (hl : ∀ x ∈ l, (x.1 : Int) ≤ d) (he : e ≤ d) : Asc e (l ++ m) := by
  induction h with
  | nil => exact hm.mono he
  | cons h1 h2 h3 h4 h ih => exact .cons h1 h2 h3 h4 (ih (fun x hx => hl x (List.mem_cons_of_mem _ hx)) (hl _ (List.mem_cons_self ..)))
theorem secP_asc {s : SSec} (hb : ¬ badS s) (he : endS s < 4096) : ∀ j, j ≤ npg s → Asc (s.Page - 1) (secP s j) ∧ ∀ x ∈ secP s j, (x.1 : Int) < s.Page + j
  | 0, _ => ⟨.nil, fun x h => by cases h⟩
  | j + 1, hj => by
    obtain ⟨h1, h2⟩ := secP_asc hb he j (by omega)
    unfold badS at hb
    unfold npg at hj
    rw [secP_succ]
    refine ⟨h1.append (d := s.Page + j - 1) (.cons (by simp only; omega) (by simp only; omega) ⟨by simp only; omega, by simp only; omega⟩ (by simp only; exact fillB_len (by rw [List.length_take]; omega)) .nil) (fun x hx => by have := h2 x hx; omega) (by omega), fun x hx => ?_⟩
    rcases List.mem_append.1 hx with hx | hx
    · have := h2 x hx; omega
    · obtain rfl := List.mem_singleton.1 hx; simp only; omega
theorem imgP_asc : ∀ {l : List SSec} {t e : Int}, 0 ≤ t → chkL l t e = 0 → Asc e (imgP l)
  | [], _, _, _, _ => .nil
  | s :: l, t, e, ht, h => by
    unfold chkL at h
    by_cases he : sectE s (t + s.Bytes.length) e = 0
    · rw [if_pos he] at h
      obtain ⟨o1, o2, o3, o4⟩ := sectE_ok he
      have ih := imgP_asc (by omega) h
      obtain ⟨a1, a2⟩ := secP_asc o1 o3 (npg s) (Nat.le_refl _)
      have hpe : s.Page ≤ endS s := by unfold badS at o1; unfold endS; omega
      show Asc e (secP s (npg s) ++ imgP l)
      refine (a1.mono (by omega)).append ih (fun x hx => ?_) (by omega)
      have := a2 x hx
      unfold npg at this; omega
    · rw [if_neg he] at h; exact absurd h he
theorem chk_asc {en : Int} {l : List SSec} (h : chk en l = 0) : Asc (-1) (imgP l) := by
  unfold chk at h
  split at h
  · cases h
  · split at h
    · cases h
    · exact imgP_asc (Int.le_refl 0) h
/-- How many second tables some pages want. -/
def tabN (ts : Nat → Bool) : Int → List PGv → Nat
  | _, [] => 0
  | g, x :: l => (if (x.1 / 64 : Nat) ≠ g ∧ ts (x.1 / 64) = false then 1 else 0) + tabN ts ((x.1 / 64 : Nat) : Int) l
theorem need_tab {k : Nat} {ts : Nat → Bool} : ∀ {l : List PGv} {o : Ob} {e : Int} {g : Int}, Asc e l → (∀ h : Nat, (h : Int) = g → o.ts k h = true) → (∀ h : Nat, g < h → o.ts k h = ts h) → g * 64 ≤ e → needL o k l = l.length + tabN ts g l
  | [], o, e, g, _, _, _, _ => rfl
  | x :: l, o, e, g, ha, h1, h2, h3 => by
    cases ha with
    | cons a1 a2 a3 a4 a5 =>
      have hg : g ≤ (x.1 / 64 : Nat) := by omega
      have ih := need_tab (k := k) (o := lay1 o k x) (ts := ts) (g := ((x.1 / 64 : Nat) : Int)) a5 (fun h hh => by
          have : h = x.1 / 64 := by omega
          subst this
          show up2 o.ts k (x.1 / 64) true k (x.1 / 64) = true
          exact up2_at) (fun h hh => by
          show up2 o.ts k (x.1 / 64) true k h = ts h
          rw [up2_ne (by omega)]; exact h2 h (by omega)) (by omega)
      unfold needL tabN
      rw [ih]
      have hc : cost1 o k x.1 = 1 + (if ((x.1 / 64 : Nat) : Int) ≠ g ∧ ts (x.1 / 64) = false then 1 else 0) := by
        unfold cost1
        by_cases hgg : ((x.1 / 64 : Nat) : Int) = g
        · rw [h1 _ hgg, if_pos rfl, if_neg (fun q => q.1 hgg)]
        · rw [h2 _ (by omega)]
          cases hts : ts (x.1 / 64)
          · rw [if_neg (by decide), if_pos ⟨hgg, rfl⟩]
          · rw [if_pos rfl, if_neg (fun q => by cases q.2)]
      rw [hc, List.length_cons]
      omega
/-- What Load answers, and does. -/
def loadO (qk : Int) (o : Ob) (k : Nat) (en : Int) (l : List SSec) : Int × Ob :=
  if chk en l ≠ 0 then (chk en l, o)
  else if ∃ x ∈ imgP l, (o.vw k x.1).isSome = true then (91, o)
  else if qk - used o k < needL o k (imgP l) then (141, o)
  else (0, layL o k (imgP l))
theorem layL_snoc {k : Nat} {x : PGv} : ∀ {l : List PGv} {o : Ob}, layL o k (l ++ [x]) = lay1 (layL o k l) k x
  | [], _ => rfl
  | y :: l, o => by show layL (lay1 o k y) k (l ++ [x]) = _; rw [layL_snoc]; rfl
theorem needL_snoc {k : Nat} {x : PGv} : ∀ {l : List PGv} {o : Ob}, needL o k (l ++ [x]) = needL o k l + cost1 (layL o k l) k x.1
  | [], _ => by simp [needL, layL]
  | y :: l, o => by show cost1 o k y.1 + needL (lay1 o k y) k (l ++ [x]) = _; rw [needL_snoc]; simp only [needL, layL]; omega
theorem layL_vw {k : Nat} : ∀ {l : List PGv} {o : Ob} {p : Nat}, (∀ x ∈ l, x.1 ≠ p) → (layL o k l).vw k p = o.vw k p
  | [], _, _, _ => rfl
  | y :: l, o, p, h => by
    show (layL (lay1 o k y) k l).vw k p = _
    rw [layL_vw (fun x hx => h x (List.mem_cons_of_mem _ hx))]
    show up2 o.vw k y.1 _ k p = _
    rw [up2_ne (by have := h y (List.mem_cons_self ..); omega)]
theorem free_many {qs : List Int} {qk : Int} {k : Nat} (hqk : qs[k]? = some qk) : ∀ (d : Nat) {own : List Int}, Fz.Inv own qs → (cnt own k : Int) + d ≤ qk → d ≤ cnt own (-1)
  | 0, _, _, _ => Nat.zero_le _
  | d + 1, own, I, h => by
    obtain ⟨q, h1, h2⟩ := free_frame I hqk (by omega)
    have I1 := inv_take I hqk (by omega) h2
    have ih := free_many hqk d I1 (by rw [cnt_set h2, if_neg (show ¬ ((-1 : Int) = k) by omega), if_pos rfl]; omega)
    have := Fz.cnt_pos h2
    rw [cnt_set h2, if_pos rfl, if_neg (show ¬ ((k : Int) = -1) by omega)] at ih
    omega
theorem Asc.len {e : Int} {l : List PGv} (h : Asc e l) (he : -1 ≤ e) (he2 : e < 4096) : (l.length : Int) ≤ 4095 - e := by
  induction h with
  | nil => simp; omega
  | cons h1 h2 h3 h4 h ih => have := ih (by omega) (by omega); rw [List.length_cons]; omega
theorem needL_app {k : Nat} : ∀ {l m : List PGv} {o : Ob}, needL o k (l ++ m) = needL o k l + needL (layL o k l) k m
  | [], m, o => by simp [needL, layL]
  | y :: l, m, o => by
    show cost1 o k y.1 + needL (lay1 o k y) k (l ++ m) = _
    rw [needL_app]; simp only [needL, layL]; omega
theorem used_lay1 {o : Ob} {k : Nat} {x : PGv} (h1 : o.vw k x.1 = none) (h2 : x.1 < 4096) : used (lay1 o k x) k = used o k + cost1 o k x.1 := by
  have e : mapO (used o k + 2) o k (x.1 : Int) 1 = (0, ⟨up2 o.vw k x.1 (some (1, zs)), up2 o.ts k (x.1 / 64) true, o.fr - cost1 o k x.1⟩) := by
    unfold mapO
    rw [if_neg (by omega), Int.toNat_natCast, if_neg (by rw [h1]; simp), if_neg (by split <;> omega)]
    rfl
  have := used_map (k' := k) (show (mapO (used o k + 2) o k (x.1 : Int) 1).1 = 0 by rw [e])
  rw [e, if_pos rfl, Int.toNat_natCast] at this
  unfold cost1
  rw [← this]
  unfold used lay1
  dsimp only
  congr 1
  refine cN_congr _ fun p _ => ?_
  by_cases hp : p = x.1
  · subst hp; rw [up2_at, up2_at]; rfl
  · rw [up2_ne (by omega), up2_ne (by omega)]
theorem used_lay {k : Nat} : ∀ {l : List PGv} {o : Ob} {e : Int}, Asc e l → (∀ x ∈ l, o.vw k x.1 = none) → used (layL o k l) k = used o k + needL o k l
  | [], _, _, _, _ => rfl
  | x :: l, o, e, ha, h => by
    cases ha with
    | cons a1 a2 a3 a4 a5 =>
      show used (layL (lay1 o k x) k l) k = used o k + (cost1 o k x.1 + needL (lay1 o k x) k l)
      rw [used_lay a5 (fun y hy => by
        have hm := a5.mem y hy
        show up2 o.vw k x.1 _ k y.1 = none
        rw [up2_ne (by omega)]; exact h y (List.mem_cons_of_mem _ hy)), used_lay1 (h x (List.mem_cons_self ..)) a2]
      omega
theorem Asc.take {e : Int} {l : List PGv} (h : Asc e l) (i : Nat) : Asc e (l.take i) := by
  induction h generalizing i with
  | nil => rw [List.take_nil]; exact .nil
  | cons h1 h2 h3 h4 h ih =>
    cases i with
    | zero => exact .nil
    | succ i => exact .cons h1 h2 h3 h4 (ih i)
theorem Asc.before {e : Int} {l : List PGv} (h : Asc e l) : ∀ {i : Nat} {y : PGv}, l[i]? = some y → ∀ x ∈ l.take i, x.1 < y.1 := by
  induction h with
  | nil => intro i y hy; cases hy
  | cons h1 h2 h3 h4 h ih =>
    intro i y hy x hx
    cases i with
    | zero => cases hx
    | succ i =>
      rw [List.getElem?_cons_succ] at hy
      rcases List.mem_cons.1 hx with rfl | hx
      · have := (h.mem y (List.mem_of_getElem? hy)).1; omega
      · exact ih hy x hx
theorem overB_full {pg b : List UInt8} (h1 : pg.length = 256) (h2 : b.length = 256) : overB pg 0 b = b := by
  unfold overB; rw [h2, List.drop_eq_nil_of_le (by omega)]; simp
theorem fillB_full {b : List UInt8} (h : b.length = 256) : fillB b = b := by unfold fillB; rw [h]; simp
theorem up2_up2 {β : Type} {h : Nat → Nat → β} {k p : Nat} {u v : β} : up2 (up2 h k p u) k p v = up2 h k p v := by
  funext a b
  by_cases e : a = k ∧ b = p
  · obtain ⟨rfl, rfl⟩ := e; rw [up2_at, up2_at]
  · rw [up2_ne (by omega), up2_ne (by omega), up2_ne (by omega)]
end Go.Proofs.YtmlfcfbblfcpdaaGreat.Sp
/- The document's space: what its inner functions tell. -/
namespace Go.Proofs.YtmlfcfbblfcpdaaGreat.Sp
open Go Go.Sl Go.RowKit Go.Proofs Go.Proofs.YtmlfcfbblfcpdaaGreat.T Go.Proofs.YtmlfcfbblfcpdaaGreat.Me Go.Proofs.YtmlfcfbblfcpdaaGreat.Pe Go.Proofs.YtmlfcfbblfcpdaaGreat.Pg
open Go.Proofs.YtmlfcfbblfcpdaaGreat.Fz (iv oiv)
set_option maxRecDepth 100000
/-- Where a document's space lies. -/
structure RZ where
  a : Option Addr
  c : Nat
  l : List PV
  ta : Option Addr
  tc : Nat
abbrev RSO (b w k : Nat) (ts : List Int) (z : RZ) : List HProp := [blk b [.pointer (some ⟨w, 0, none⟩), .int .i64 k, .slice z.a z.l.length z.c, .slice z.ta ts.length z.tc] 109, osl 61 3 z.a z.c z.l.length ((z.l.map PV.cells).flatten), Star (z.l.map fun x => oby 5 x.a x.c x.b), oiv z.ta z.tc ts]
/-- A document's space: its pages, its tables. -/
def RS (b w k : Nat) (L : List PGv) (ts : List Int) : HProp := fun h => ∃ z : RZ, z.l.map PV.v = L ∧ Star (RSO b w k ts z) h
theorem rs_open {b w k : Nat} {L : List PGv} {ts : List Int} (y : Heaplet) (h : RS b w k L ts y) : ∃ z : RZ, z.l.map PV.v = L ∧ Star (RSO b w k ts z) y := h
theorem rs_close {b w k : Nat} {L : List PGv} {ts : List Int} {G : List HProp} (z : RZ) (hl : z.l.map PV.v = L) : Imp (RSO b w k ts z ++ G) (RS b w k L ts :: G) := Imp.trans star_close (Imp.head fun y hy => ⟨z, hl, hy⟩)
/-- A page's place. -/
def fndL (L : List PGv) (p : Int) : Int := match L.findIdx? (fun x => decide ((x.1 : Int) = p)) with | some i => i | none => -1
theorem fndL_at {L : List PGv} {p : Int} {i : Nat} {x : PGv} (hx : L[i]? = some x) (h : (x.1 : Int) = p) (hno : ∀ y ∈ L.take i, (y.1 : Int) ≠ p) : fndL L p = i := by
  obtain ⟨hi, rfl⟩ := List.getElem?_eq_some_iff.1 hx
  have : L.findIdx? (fun x => decide ((x.1 : Int) = p)) = some i := by
    rw [List.findIdx?_eq_some_iff_getElem]
    refine ⟨hi, decide_eq_true h, fun j hj => ?_⟩
    have hm : L[j] ∈ L.take i := by
      rw [List.mem_take_iff_getElem]; exact ⟨j, by omega, rfl⟩
    simpa using hno _ hm
  unfold fndL; rw [this]
theorem fndL_no {L : List PGv} {p : Int} (hno : ∀ y ∈ L, (y.1 : Int) ≠ p) : fndL L p = -1 := by
  have : L.findIdx? (fun x => decide ((x.1 : Int) = p)) = none := by
    rw [List.findIdx?_eq_none_iff]; intro x hx; exact decide_eq_false (hno x hx)
  unfold fndL; rw [this]
theorem take_all {α : Type} {P : α → Prop} {l : List α} {i : Nat} {x : α} (hx : l[i]? = some x) (h : ∀ y ∈ l.take i, P y) (hp : P x) : ∀ y ∈ l.take (i + 1), P y := by
  obtain ⟨q1, q2⟩ := List.getElem?_eq_some_iff.1 hx
  intro y hy
  rw [List.take_succ_eq_append_getElem q1, q2] at hy
  rcases List.mem_append.1 hy with hy | hy
  · exact h y hy
  · obtain rfl := List.mem_singleton.1 hy; exact hp
section
variable (W0 : World) (Fr : List HProp)
set_option maxHeartbeats 1000000 in
theorem rfind_at {b w k : Nat} {L : List PGv} {ts : List Int} {z : RZ} (hz : z.l.map PV.v = L) (hL : L.length ≤ 1000000) (p : Int) : Ctr Tryz.prog W0 70 [.pointer (some ⟨b, 0, none⟩), .int .i64 p] (RSO b w k ts z ++ Fr) (fun _ : Unit => True) (fun _ => .int .i64 (fndL L p)) (fun _ => RSO b w k ts z ++ Fr) := by
  have hzl : z.l.length = L.length := by rw [← hz, List.length_map]
  dsimp only [RSO, List.cons_append, List.nil_append]
  refine Ctr.of_body Tryz.func70 rfl Tryz.ntmps70 rfl ?_
  refine CG.seq ?_
  refine CG.region ?_
  refine OG.sg rfl rfl ?_
  refine OG.nil ?_
  refine QG.then ?_
  refine CG.seq ?_
  refine CG.seq ?_
  refine CG.region ?_
  refine OG.sg rfl rfl ?_
  refine OG.nil ?_
  refine QG.then ?_
  refine CG.block ?_
  refine CG.loop (fun i : Nat => i ≤ L.length ∧ ∀ y ∈ L.take i, (y.1 : Int) ≠ p) (fun i => [(0, .pointer (some ⟨b, 0, none⟩)), (1, .int .i64 p), (5, .int .i64 i)]) (fun _ => RSO b w k ts z ++ Fr) (fun i => L.length - i) 0 ⟨Nat.zero_le _, fun y h => by cases h⟩ eS iM ?_
  rintro i ⟨hi, hno⟩
  dsimp only [RSO, List.cons_append, List.nil_append]
  refine CG.seq ?_
  refine CG.seq ?_
  refine CG.region ?_
  refine OG.mv rfl rfl ?_
  refine OG.mv rfl rfl ?_
  refine OG.yield (Yield.nilCheck rfl) rfl ?_
  refine OG.yield (Yield.fieldAddr fa109_2 rfl) rfl ?_
  refine OG.yield (Yield.loadA ti49 rfl) rfl ?_
  refine OG.yield (Yield.len_slice Tryz.underlying49 rfl rfl) rfl ?_
  refine OG.yield Yield.lssA rfl ?_
  refine OG.nil ?_
  refine QG.then ?_
  refine CG.cond rfl (fun hc => ?_) (fun hc => ?_)
  · try replace hc := of_decide_eq_true hc
    obtain ⟨y, hy⟩ : ∃ y, z.l[i]? = some y := ⟨_, List.getElem?_eq_getElem (by omega)⟩
    have hyv : L[i]? = some y.v := by rw [← hz, List.getElem?_map, hy]; rfl
    obtain ⟨za, zc, zl, zta, ztc⟩ := z
    dsimp only at hz hzl hy hc ⊢
    refine CG.pure (fun w hw => SlR.elem_shape (W0 := W0) (f := PV.cells) (xs := zl) (i := i) (SlR.of_osl (E := 61) (a := za) (c := zc) eX) PV.len (by decide) (by omega) w hw) ?_
    rintro ⟨ol, oo, rfl⟩
    refine CG.skip ?_
    refine QG.then ?_
    refine CG.seq ?_
    refine CG.block ?_
    refine CG.seq ?_
    refine CG.region ?_
    refine OG.mv rfl rfl ?_
    refine OG.yield (Yield.nilCheck rfl) rfl ?_
    refine OG.yield (Yield.fieldAddr fa109_2 rfl) rfl ?_
    refine OG.yield (Yield.loadA ti49 rfl) rfl ?_
    refine OG.mv rfl rfl ?_
    refine OG.yield (Yield.index_slice Tryz.underlying49 ti61 rfl rfl (by omega) (by omega)) rfl ?_
    refine OG.yield (Yield.fieldAddr fa61_0 rfl) rfl ?_
    refine OG.yield (Yield.load (v := .int .i64 y.p) ti3 rfl (by rw [show oo + (i : Int).toNat * 3 = oo + i * 3 by omega]; exact (SlR.elem (f := PV.cells) (xs := zl) (i := i) (SlR.of_osl (W0 := W0) (E := 61) (c := zc) eX) PV.len hy) 0 _ rfl)) rfl ?_
    refine OG.mv rfl rfl ?_
    refine OG.yield (Yield.eql rfl rfl) rfl ?_
    refine OG.nil ?_
    refine QG.then ?_
    refine CG.cond rfl (fun hc => ?_) (fun hc => ?_)
    · try replace hc := of_decide_eq_true hc
      refine CG.seq ?_
      refine CG.region ?_
      refine OG.mv rfl rfl ?_
      refine OG.sg rfl rfl ?_
      refine OG.nil ?_
      refine QG.then ?_
      refine CG.ret ?_
      refine QG.block_ret ?_
      refine QG.pass_ret ?_
      refine QG.pass_ret ?_
      refine QG.block_ret ?_
      refine QG.pass_ret ?_
      rw [fndL_at hyv hc hno]
      exact QG.ret1 rfl rfl () trivial rfl iM
    · try replace hc := of_decide_eq_false hc
      refine CG.skip ?_
      refine QG.block_normal ?_
      refine QG.then ?_
      refine CG.region ?_
      refine OG.mv rfl rfl ?_
      refine OG.yield (Yield.add rfl rfl (w64 (by omega) (by omega))) rfl ?_
      refine OG.sg rfl rfl ?_
      refine OG.nil ?_
      exact QG.next (i + 1) ⟨by omega, take_all hyv hno hc⟩ (by first | omega | (simp only; omega)) eS iM
  · try replace hc := of_decide_eq_false hc
    refine CG.exit ?_
    refine QG.pass_exit ?_
    refine QG.pass_exit ?_
    refine QG.block_exit ?_
    refine QG.then ?_
    refine CG.seq ?_
    refine CG.region ?_
    refine OG.sg rfl rfl ?_
    refine OG.nil ?_
    refine QG.then ?_
    refine CG.ret ?_
    rw [fndL_no (by rw [List.take_of_length_le (by omega)] at hno; exact hno)]
    exact QG.ret1 rfl rfl () trivial rfl iM
theorem rfind_spec {b w k : Nat} {L : List PGv} {ts : List Int} (hL : L.length ≤ 1000000) (p : Int) : Ctr Tryz.prog W0 70 [.pointer (some ⟨b, 0, none⟩), .int .i64 p] (RS b w k L ts :: Fr) (fun _ : Unit => True) (fun _ => .int .i64 (fndL L p)) (fun _ => RS b w k L ts :: Fr) := by
  refine Ctr.ex Ext.here rs_open ?_
  intro z hz
  refine Ctr.imp star_open ?_
  exact (rfind_at W0 Fr hz hL p).to id (fun _ h => h) (fun _ => rfl) (fun _ => rs_close z hz)
set_option maxHeartbeats 1000000 in
theorem rtable_spec {b w k : Nat} {L : List PGv} {ts : List Int} (hL : ts.length ≤ 1000000) (g : Int) : Ctr Tryz.prog W0 96 [.pointer (some ⟨b, 0, none⟩), .int .i64 g] (RS b w k L ts :: Fr) (fun _ : Unit => True) (fun _ => .bool (decide (g ∈ ts))) (fun _ => RS b w k L ts :: Fr) := by
  refine Ctr.ex Ext.here rs_open ?_
  intro z hz
  refine Ctr.imp star_open ?_
  dsimp only [RSO, List.cons_append, List.nil_append]
  refine Ctr.of_body Tryz.func96 rfl Tryz.ntmps96 rfl ?_
  refine CG.seq ?_
  refine CG.region ?_
  refine OG.sg rfl rfl ?_
  refine OG.nil ?_
  refine QG.then ?_
  refine CG.seq ?_
  refine CG.seq ?_
  refine CG.region ?_
  refine OG.sg rfl rfl ?_
  refine OG.nil ?_
  refine QG.then ?_
  refine CG.block ?_
  refine CG.loop (fun i : Nat => i ≤ ts.length ∧ ∀ y ∈ ts.take i, y ≠ g) (fun i => [(0, .pointer (some ⟨b, 0, none⟩)), (1, .int .i64 g), (5, .int .i64 i)]) (fun _ => RSO b w k ts z ++ Fr) (fun i => ts.length - i) 0 ⟨Nat.zero_le _, fun y h => by cases h⟩ eS iM ?_
  rintro i ⟨hi, hno⟩
  dsimp only [RSO, List.cons_append, List.nil_append]
  refine CG.seq ?_
  refine CG.seq ?_
  refine CG.region ?_
  refine OG.mv rfl rfl ?_
  refine OG.mv rfl rfl ?_
  refine OG.yield (Yield.nilCheck rfl) rfl ?_
  refine OG.yield (Yield.fieldAddr fa109_3 rfl) rfl ?_
  refine OG.yield (Yield.loadA ti22 rfl) rfl ?_
  refine OG.yield (Yield.len_slice Tryz.underlying22 rfl rfl) rfl ?_
  refine OG.yield Yield.lssA rfl ?_
  refine OG.nil ?_
  refine QG.then ?_
  refine CG.cond rfl (fun hc => ?_) (fun hc => ?_)
  · try replace hc := of_decide_eq_true hc
    obtain ⟨y, hy⟩ : ∃ y, ts[i]? = some y := ⟨_, List.getElem?_eq_getElem (by omega)⟩
    obtain ⟨za, zc, zl, zta, ztc⟩ := z
    dsimp only at hz hc ⊢
    have hyi : (iv ts)[i]? = some (.int .i64 y) := by simp [iv, hy]
    refine CG.pure (fun w hw => SlR.shape (SlR.of_osl (W0 := W0) (E := 3) (a := zta) (c := ztc) eX) (fun q => by rw [q] at hyi; cases hyi) w hw) ?_
    rintro ⟨ol, oo, rfl⟩
    refine CG.skip ?_
    refine QG.then ?_
    refine CG.seq ?_
    refine CG.block ?_
    refine CG.seq ?_
    refine CG.region ?_
    refine OG.mv rfl rfl ?_
    refine OG.yield (Yield.nilCheck rfl) rfl ?_
    refine OG.yield (Yield.fieldAddr fa109_3 rfl) rfl ?_
    refine OG.yield (Yield.loadA ti22 rfl) rfl ?_
    refine OG.mv rfl rfl ?_
    refine OG.yield (Yield.index_slice Tryz.underlying22 ti3 rfl rfl (by omega) (by omega)) rfl ?_
    refine OG.yield (Yield.load (v := .int .i64 y) ti3 rfl (by rw [show oo + (i : Int).toNat * 1 = oo + i by omega]; exact (SlR.of_osl (W0 := W0) (E := 3) (c := ztc) eX).cel (i := i) hyi)) rfl ?_
    refine OG.mv rfl rfl ?_
    refine OG.yield (Yield.eql rfl rfl) rfl ?_
    refine OG.nil ?_
    refine QG.then ?_
    refine CG.cond rfl (fun hc => ?_) (fun hc => ?_)
    · try replace hc := of_decide_eq_true hc
      refine CG.seq ?_
      refine CG.region ?_
      refine OG.sg rfl rfl ?_
      refine OG.nil ?_
      refine QG.then ?_
      refine CG.ret ?_
      refine QG.block_ret ?_
      refine QG.pass_ret ?_
      refine QG.pass_ret ?_
      refine QG.block_ret ?_
      refine QG.pass_ret ?_
      subst hc
      rw [decide_eq_true (List.mem_of_getElem? hy)]
      exact QG.ret1 rfl rfl () trivial rfl (rs_close ⟨za, zc, zl, some ⟨ol, oo, none⟩, ztc⟩ hz)
    · try replace hc := of_decide_eq_false hc
      refine CG.skip ?_
      refine QG.block_normal ?_
      refine QG.then ?_
      refine CG.region ?_
      refine OG.mv rfl rfl ?_
      refine OG.yield (Yield.add rfl rfl (w64 (by omega) (by omega))) rfl ?_
      refine OG.sg rfl rfl ?_
      refine OG.nil ?_
      exact QG.next (i + 1) ⟨by omega, take_all hy hno hc⟩ (by first | omega | (simp only; omega)) eS iM
  · try replace hc := of_decide_eq_false hc
    refine CG.exit ?_
    refine QG.pass_exit ?_
    refine QG.pass_exit ?_
    refine QG.block_exit ?_
    refine QG.then ?_
    refine CG.seq ?_
    refine CG.region ?_
    refine OG.sg rfl rfl ?_
    refine OG.nil ?_
    refine QG.then ?_
    refine CG.ret ?_
    rw [List.take_of_length_le (by omega)] at hno
    rw [decide_eq_false (fun q => hno g q rfl)]
    exact QG.ret1 rfl rfl () trivial rfl (rs_close z hz)
end
end Go.Proofs.YtmlfcfbblfcpdaaGreat.Sp
/- The pages of a space as a list, cut at one of them. -/
namespace Go.Proofs.YtmlfcfbblfcpdaaGreat.Sp
open Go Go.Sl Go.RowKit Go.Proofs Go.Proofs.YtmlfcfbblfcpdaaGreat.T Go.Proofs.YtmlfcfbblfcpdaaGreat.Me Go.Proofs.YtmlfcfbblfcpdaaGreat.Pe Go.Proofs.YtmlfcfbblfcpdaaGreat.Pg
open Go.Proofs.YtmlfcfbblfcpdaaGreat.Fz (iv oiv)
set_option maxRecDepth 100000
theorem pvTo_in {o : Ob} {k : Nat} {x : PGv} : ∀ {p : Nat}, x ∈ pvTo o k p → x.1 < p ∧ o.vw k x.1 = some (x.2.1, x.2.2)
  | 0, h => by cases h
  | p + 1, h => by
    unfold pvTo at h
    rcases List.mem_append.1 h with h | h
    · have := pvTo_in h
      exact ⟨by omega, this.2⟩
    · revert h
      cases hv : o.vw k p with
      | none => intro h; cases h
      | some y =>
        intro h
        obtain rfl := List.mem_singleton.1 h
        exact ⟨by simp, hv⟩
/-- A page, if it is there. -/
def optP (p : Nat) (v : Option (Nat × List UInt8)) : List PGv := match v with | some x => [(p, x.1, x.2)] | none => []
/-- The pages from one on. -/
def pvR (o : Ob) (k a : Nat) : Nat → List PGv
  | 0 => []
  | d + 1 => pvR o k a d ++ optP (a + d) (o.vw k (a + d))
theorem pvTo_succ {o : Ob} {k p : Nat} : pvTo o k (p + 1) = pvTo o k p ++ optP p (o.vw k p) := by
  show pvTo o k p ++ _ = _
  unfold optP; cases o.vw k p <;> rfl
theorem pvTo_cut {o : Ob} {k p : Nat} : ∀ d, pvTo o k (p + 1 + d) = pvTo o k p ++ optP p (o.vw k p) ++ pvR o k (p + 1) d
  | 0 => by rw [pvTo_succ]; simp [pvR]
  | d + 1 => by
    show pvTo o k (p + 1 + d + 1) = _
    rw [pvTo_succ, pvTo_cut d, show pvR o k (p + 1) (d + 1) = pvR o k (p + 1) d ++ optP (p + 1 + d) (o.vw k (p + 1 + d)) from rfl, List.append_assoc]
theorem pvs_cut (o : Ob) (k : Nat) {p : Nat} (hp : p < 4096) : pvs o k = pvTo o k p ++ optP p (o.vw k p) ++ pvR o k (p + 1) (4095 - p) := by
  have := pvTo_cut (o := o) (k := k) (p := p) (4095 - p)
  rw [show p + 1 + (4095 - p) = 4096 by omega] at this
  exact this
theorem pvTo_congr {o o' : Ob} {k : Nat} : ∀ {p : Nat}, (∀ q, q < p → o.vw k q = o'.vw k q) → pvTo o k p = pvTo o' k p
  | 0, _ => rfl
  | p + 1, h => by rw [pvTo_succ, pvTo_succ, pvTo_congr (fun q hq => h q (by omega)), h p (by omega)]
theorem pvR_congr {o o' : Ob} {k a : Nat} : ∀ {d : Nat}, (∀ q, a ≤ q → o.vw k q = o'.vw k q) → pvR o k a d = pvR o' k a d
  | 0, _ => rfl
  | d + 1, h => by unfold pvR; rw [pvR_congr h, h (a + d) (by omega)]
theorem pvR_in {o : Ob} {k a : Nat} {x : PGv} : ∀ {d : Nat}, x ∈ pvR o k a d → a ≤ x.1
  | 0, h => by cases h
  | d + 1, h => by
    unfold pvR at h
    rcases List.mem_append.1 h with h | h
    · exact pvR_in h
    · revert h; unfold optP
      cases o.vw k (a + d) with
      | none => intro h; cases h
      | some y => intro h; obtain rfl := List.mem_singleton.1 h; simp
/-- The list where one page is another one. -/
theorem pvs_upd {o : Ob} {k p fr : Nat} {v : Option (Nat × List UInt8)} {ts : Nat → Nat → Bool} (hp : p < 4096) : pvs ⟨up2 o.vw k p v, ts, fr⟩ k = pvTo o k p ++ optP p v ++ pvR o k (p + 1) (4095 - p) := by
  rw [pvs_cut _ k hp]
  congr 1
  · congr 1
    · exact pvTo_congr fun q hq => up2_ne (by omega)
    · congr 1; exact up2_at
  · exact pvR_congr fun q hq => up2_ne (by omega)
theorem fnd_some {o : Ob} {k p : Nat} {x : Nat × List UInt8} (hp : p < 4096) (hx : o.vw k p = some x) : fndL (pvs o k) (p : Int) = ((pvTo o k p).length : Int) ∧ (pvs o k)[(pvTo o k p).length]? = some (p, x.1, x.2) := by
  have e := pvs_cut o k hp
  rw [hx] at e
  have h1 : (pvs o k)[(pvTo o k p).length]? = some (p, x.1, x.2) := by
    rw [e, List.append_assoc, List.getElem?_append_right (Nat.le_refl _), Nat.sub_self]; rfl
  refine ⟨fndL_at h1 rfl fun y hy => ?_, h1⟩
  rw [e, List.append_assoc, List.take_left'] at hy
  · have := (pvTo_in hy).1; omega
  · rfl
theorem fnd_none {o : Ob} {k : Nat} {p : Int} (hx : vI o k p = none) : fndL (pvs o k) p = -1 := by
  refine fndL_no fun y hy e => ?_
  obtain ⟨h1, h2⟩ := pvTo_in hy
  unfold vI at hx
  rw [if_pos (by omega), ← e, Int.toNat_natCast, h2] at hx
  cases hx
theorem pvs_len (o : Ob) (k : Nat) : (pvs o k).length ≤ 4096 := by rw [pvTo_len]; exact cN_le _ _
section
variable (W0 : World) (Fr : List HProp)
theorem rpages_ok (p : Int) : Ctr Tryz.prog W0 64 [.int .i64 p] Fr (fun _ : Unit => True) (fun _ => .bool (decide (0 ≤ p ∧ p < 4096))) (fun _ => Fr) := by
  refine Ctr.of_body Tryz.func64 rfl Tryz.ntmps64 rfl ?_
  refine CG.seq ?_
  refine CG.region ?_
  refine OG.sg rfl rfl ?_
  refine OG.nil ?_
  refine QG.then ?_
  refine CG.seq ?_
  rcases (show p < 0 ∨ 0 ≤ p by omega) with hh | hh
  · skip
    refine CG.region ?_
    refine OG.mv rfl rfl ?_
    refine OG.yield Yield.geqA rfl ?_
    refine OG.mv rfl rfl ?_
    refine OG.gn rfl rfl rfl rfl rfl ?_
    refine OG.gn rfl rfl rfl rfl rfl ?_
    refine OG.yield Yield.pickA rfl ?_
    refine OG.sg rfl rfl ?_
    refine OG.nil ?_
    refine QG.then ?_
    refine CG.ret ?_
    exact QG.ret1 rfl rfl () trivial (by first | (rw [decide_eq_false (by omega)]; done) | (congr 1; simp [hh])) iM
  · skip
    refine CG.region ?_
    refine OG.mv rfl rfl ?_
    refine OG.yield Yield.geqA rfl ?_
    refine OG.mv rfl rfl ?_
    refine OG.gy rfl rfl rfl ?_
    refine OG.mv rfl rfl ?_
    refine OG.gy rfl rfl rfl ?_
    refine OG.yield Yield.lssA rfl ?_
    refine OG.yield Yield.pickA rfl ?_
    refine OG.sg rfl rfl ?_
    refine OG.nil ?_
    refine QG.then ?_
    refine CG.ret ?_
    exact QG.ret1 rfl rfl () trivial (by first | (rw [decide_eq_false (by omega)]; done) | (congr 1; simp [hh])) iM
theorem rperms_ok (p : Int) : Ctr Tryz.prog W0 65 [.int .i64 p] Fr (fun _ : Unit => True) (fun _ => .bool (decide (1 ≤ p ∧ p ≤ 7))) (fun _ => Fr) := by
  refine Ctr.of_body Tryz.func65 rfl Tryz.ntmps65 rfl ?_
  refine CG.seq ?_
  refine CG.region ?_
  refine OG.sg rfl rfl ?_
  refine OG.nil ?_
  refine QG.then ?_
  refine CG.seq ?_
  rcases (show p < 1 ∨ 1 ≤ p by omega) with hh | hh
  · skip
    refine CG.region ?_
    refine OG.mv rfl rfl ?_
    refine OG.yield Yield.geqA rfl ?_
    refine OG.mv rfl rfl ?_
    refine OG.gn rfl rfl rfl rfl rfl ?_
    refine OG.gn rfl rfl rfl rfl rfl ?_
    refine OG.yield Yield.pickA rfl ?_
    refine OG.sg rfl rfl ?_
    refine OG.nil ?_
    refine QG.then ?_
    refine CG.ret ?_
    exact QG.ret1 rfl rfl () trivial (by first | (rw [decide_eq_false (by omega)]; done) | (congr 1; simp [hh])) iM
  · skip
    refine CG.region ?_
    refine OG.mv rfl rfl ?_
    refine OG.yield Yield.geqA rfl ?_
    refine OG.mv rfl rfl ?_
    refine OG.gy rfl rfl rfl ?_
    refine OG.mv rfl rfl ?_
    refine OG.gy rfl rfl rfl ?_
    refine OG.yield Yield.leqA rfl ?_
    refine OG.yield Yield.pickA rfl ?_
    refine OG.sg rfl rfl ?_
    refine OG.nil ?_
    refine QG.then ?_
    refine CG.ret ?_
    exact QG.ret1 rfl rfl () trivial (by first | (rw [decide_eq_false (by omega)]; done) | (congr 1; simp [hh])) iM
theorem rlow_spec (p : Int) : Ctr Tryz.prog W0 75 [.int .i64 p] Fr (fun _ : Unit => True) (fun _ => .int .i64 (Go.bits .and .i64 p 7)) (fun _ => Fr) := by
  refine Ctr.of_body Tryz.func75 rfl Tryz.ntmps75 rfl ?_
  refine CG.seq ?_
  refine CG.region ?_
  refine OG.sg rfl rfl ?_
  refine OG.nil ?_
  refine QG.then ?_
  refine CG.seq ?_
  refine CG.region ?_
  refine OG.mv rfl rfl ?_
  refine OG.yield (Yield.bitop rfl rfl rfl rfl) rfl ?_
  refine OG.sg rfl rfl ?_
  refine OG.nil ?_
  refine QG.then ?_
  refine CG.ret ?_
  exact QG.ret1 rfl rfl () trivial rfl iM
end
end Go.Proofs.YtmlfcfbblfcpdaaGreat.Sp
/- The document's space: Perm and may. -/
namespace Go.Proofs.YtmlfcfbblfcpdaaGreat.Sp
open Go Go.Sl Go.RowKit Go.Proofs Go.Proofs.YtmlfcfbblfcpdaaGreat.T Go.Proofs.YtmlfcfbblfcpdaaGreat.Me Go.Proofs.YtmlfcfbblfcpdaaGreat.Pe Go.Proofs.YtmlfcfbblfcpdaaGreat.Pg
open Go.Proofs.YtmlfcfbblfcpdaaGreat.Fz (iv oiv)
set_option maxRecDepth 100000
/-- A page's rights. -/
def prmO (o : Ob) (k : Nat) (p : Int) : Int := match vI o k p with | some x => x.1 | none => 0
theorem vI_some {o : Ob} {k : Nat} {p : Int} {x : Nat × List UInt8} (h : vI o k p = some x) : ∃ q : Nat, p = q ∧ q < 4096 ∧ o.vw k q = some x := by
  unfold vI at h
  by_cases hp : 0 ≤ p ∧ p < 4096
  · rw [if_pos hp] at h; exact ⟨p.toNat, by omega, by omega, h⟩
  · rw [if_neg hp] at h; cases h
theorem pv_at {o : Ob} {k q : Nat} {x : Nat × List UInt8} {z : RZ} (hz : z.l.map PV.v = pvs o k) (hq : q < 4096) (hx : o.vw k q = some x) : ∃ y, z.l[(pvTo o k q).length]? = some y ∧ y.p = q ∧ y.pm = x.1 ∧ y.b = x.2 := by
  have h := (fnd_some hq hx).2
  rw [← hz, List.getElem?_map] at h
  obtain ⟨y, h1, h2⟩ := Option.map_eq_some_iff.1 h
  exact ⟨y, h1, congrArg (·.1) h2, congrArg (·.2.1) h2, congrArg (·.2.2) h2⟩
section
variable (W0 : World) (Fr : List HProp)
variable {o : Ob} {b w k : Nat} {ts : List Int}
theorem rperm_spec (p : Int) : Ctr Tryz.prog W0 30 [.pointer (some ⟨b, 0, none⟩), .int .i64 p] (RS b w k (pvs o k) ts :: Fr) (fun _ : Unit => True) (fun _ => .int .i64 (prmO o k p)) (fun _ => RS b w k (pvs o k) ts :: Fr) := by
  have hpl := pvs_len o k
  cases hv : vI o k p with
  | none =>
    have e := fnd_none hv
    rw [show prmO o k p = 0 by unfold prmO; rw [hv]]
    refine Ctr.of_body Tryz.func30 rfl Tryz.ntmps30 rfl ?_
    refine CG.seq ?_
    refine CG.region ?_
    refine OG.sg rfl rfl ?_
    refine OG.nil ?_
    refine QG.then ?_
    refine CG.seq ?_
    refine CG.region ?_
    refine OG.mv rfl rfl ?_
    refine OG.mv rfl rfl ?_
    refine OG.callo call70 rfl (iM) (rfind_spec W0 _ (b := b) (w := w) (k := k) (L := pvs o k) (ts := ts) (by omega) p) rfl ?_
    rintro ⟨⟩ -
    rw [e]
    refine OG.sg rfl rfl ?_
    refine OG.nil ?_
    refine QG.then ?_
    refine CG.seq ?_
    refine CG.seq ?_
    refine CG.region ?_
    refine OG.mv rfl rfl ?_
    refine OG.yield Yield.lssA rfl ?_
    refine OG.nil ?_
    refine QG.then ?_
    refine CG.cond_t rfl ?_
    refine CG.seq ?_
    refine CG.region ?_
    refine OG.sg rfl rfl ?_
    refine OG.nil ?_
    refine QG.then ?_
    refine CG.ret ?_
    refine QG.pass_ret ?_
    exact QG.ret1 rfl rfl () trivial rfl iM
  | some x =>
    obtain ⟨q, rfl, hq, hx⟩ := vI_some hv
    obtain ⟨e, -⟩ := fnd_some hq hx
    rw [show prmO o k (q : Int) = x.1 by unfold prmO; rw [hv]]
    refine Ctr.of_body Tryz.func30 rfl Tryz.ntmps30 rfl ?_
    refine CG.seq ?_
    refine CG.region ?_
    refine OG.sg rfl rfl ?_
    refine OG.nil ?_
    refine QG.then ?_
    refine CG.seq ?_
    refine CG.region ?_
    refine OG.mv rfl rfl ?_
    refine OG.mv rfl rfl ?_
    refine OG.callo call70 rfl (iM) (rfind_spec W0 _ (b := b) (w := w) (k := k) (L := pvs o k) (ts := ts) (by omega) (q : Int)) rfl ?_
    rintro ⟨⟩ -
    rw [e]
    refine OG.sg rfl rfl ?_
    refine OG.nil ?_
    refine QG.then ?_
    refine CG.seq ?_
    refine CG.seq ?_
    refine CG.region ?_
    refine OG.mv rfl rfl ?_
    refine OG.yield Yield.lssA rfl ?_
    refine OG.nil ?_
    refine QG.then ?_
    refine CG.cond_f rfl ?_
    refine CG.skip ?_
    refine QG.then ?_
    refine CG.seq ?_
    refine CG.ex (A := RS b w k (pvs o k) ts) eX rs_open ?_
    rintro ⟨za, zc, zl, zta, ztc⟩ hz
    refine CG.imp star_open ?_
    dsimp only [RSO, List.cons_append, List.nil_append] at hz ⊢
    obtain ⟨y, hy, y1, y2, y3⟩ := pv_at (z := ⟨za, zc, zl, zta, ztc⟩) hz hq hx
    dsimp only at hy
    have hil := (List.getElem?_eq_some_iff.1 hy).1
    refine CG.pure (fun w hw => SlR.elem_shape (W0 := W0) (f := PV.cells) (xs := zl) (i := (pvTo o k q).length) (SlR.of_osl (E := 61) (a := za) (c := zc) eX) PV.len (by decide) hil w hw) ?_
    rintro ⟨ol, oo, rfl⟩
    generalize (pvTo o k q).length = ii at *
    refine CG.region ?_
    refine OG.mv rfl rfl ?_
    refine OG.yield (Yield.nilCheck rfl) rfl ?_
    refine OG.yield (Yield.fieldAddr fa109_2 rfl) rfl ?_
    refine OG.yield (Yield.loadA ti49 rfl) rfl ?_
    refine OG.mv rfl rfl ?_
    refine OG.yield (Yield.index_slice Tryz.underlying49 ti61 rfl rfl (by omega) (by omega)) rfl ?_
    refine OG.yield (Yield.fieldAddr fa61_1 rfl) rfl ?_
    refine OG.yield (Yield.load (v := .int .i64 y.pm) ti3 rfl (by rw [show oo + (ii : Int).toNat * 3 + 1 = oo + ii * 3 + 1 by omega]; exact (SlR.elem (f := PV.cells) (xs := zl) (i := ii) (SlR.of_osl (W0 := W0) (E := 61) (c := zc) eX) PV.len hy) 1 _ rfl)) rfl ?_
    refine OG.sg rfl rfl ?_
    refine OG.nil ?_
    refine QG.then ?_
    refine CG.ret ?_
    exact QG.ret1 rfl rfl () trivial (by rw [y2]) (rs_close ⟨some ⟨ol, oo, none⟩, zc, zl, zta, ztc⟩ hz)
/-- May the byte at an address be reached, with a right? -/
def rmay (o : Ob) (k : Nat) (a how : Int) : Bool := decide (0 ≤ a ∧ a < 1048576 ∧ how ≠ 0 ∧ prmO o k (a / 256) ≠ 0 ∧ Go.bits .and .i64 (prmO o k (a / 256)) how = how)
theorem rmay_spec {a how : Int} (hh : 0 ≤ how ∧ how ≤ 7) : Ctr Tryz.prog W0 74 [.pointer (some ⟨b, 0, none⟩), .int .i64 a, .int .i64 how] (RS b w k (pvs o k) ts :: Fr) (fun _ : Unit => True) (fun _ => .bool (rmay o k a how)) (fun _ => RS b w k (pvs o k) ts :: Fr) := by
  have hmod : Int.tmod how 8 = how := by rw [Int.tmod_eq_emod_of_nonneg hh.1]; omega
  refine Ctr.of_body Tryz.func74 rfl Tryz.ntmps74 rfl ?_
  refine CG.seq ?_
  refine CG.region ?_
  refine OG.sg rfl rfl ?_
  refine OG.nil ?_
  refine QG.then ?_
  refine CG.seq ?_
  refine CG.seq ?_
  rcases (show a < 0 ∨ (0 ≤ a ∧ 1048576 ≤ a) ∨ ((0 ≤ a ∧ a < 1048576) ∧ how = 0) ∨ ((0 ≤ a ∧ a < 1048576) ∧ how ≠ 0) by omega) with hr | hr | hr | hr
  · skip
    rw [show rmay o k a how = false from decide_eq_false (by omega)]
    refine CG.region ?_
    refine OG.mv rfl rfl ?_
    refine OG.yield Yield.lssA rfl ?_
    refine OG.mv rfl rfl ?_
    refine OG.gn rfl rfl rfl rfl rfl ?_
    refine OG.gn rfl rfl rfl rfl rfl ?_
    refine OG.yield Yield.pickA rfl ?_
    refine OG.mv rfl rfl ?_
    refine OG.gn rfl rfl rfl rfl rfl ?_
    refine OG.gn rfl rfl rfl rfl rfl ?_
    refine OG.gn rfl rfl rfl rfl rfl ?_
    refine OG.yield Yield.pickA rfl ?_
    refine OG.nil ?_
    refine QG.then ?_
    refine CG.cond_t rfl ?_
    refine CG.seq ?_
    refine CG.region ?_
    refine OG.sg rfl rfl ?_
    refine OG.nil ?_
    refine QG.then ?_
    refine CG.ret ?_
    refine QG.pass_ret ?_
    exact QG.ret1 rfl rfl () trivial rfl iM
  · skip
    rw [show rmay o k a how = false from decide_eq_false (by omega)]
    refine CG.region ?_
    refine OG.mv rfl rfl ?_
    refine OG.yield Yield.lssA rfl ?_
    refine OG.mv rfl rfl ?_
    refine OG.gy rfl rfl rfl ?_
    refine OG.mv rfl rfl ?_
    refine OG.gy rfl rfl rfl ?_
    refine OG.yield Yield.geqA rfl ?_
    refine OG.yield Yield.pickA rfl ?_
    refine OG.mv rfl rfl ?_
    refine OG.gn rfl rfl rfl rfl rfl ?_
    refine OG.gn rfl rfl rfl rfl rfl ?_
    refine OG.gn rfl rfl rfl rfl rfl ?_
    refine OG.yield Yield.pickA rfl ?_
    refine OG.nil ?_
    refine QG.then ?_
    refine CG.cond_t rfl ?_
    refine CG.seq ?_
    refine CG.region ?_
    refine OG.sg rfl rfl ?_
    refine OG.nil ?_
    refine QG.then ?_
    refine CG.ret ?_
    refine QG.pass_ret ?_
    first | exact QG.ret1 rfl rfl () trivial rfl iM | exact QG.ret1 rfl rfl () trivial (congrArg Value.bool (decide_eq_decide.2 ⟨fun q => ⟨hr.1.1, hr.1.2, hr.2, hp, q⟩, fun q => q.2.2.2.2⟩)) iM
  · skip
    rw [show rmay o k a how = false from decide_eq_false (by omega)]
    refine CG.region ?_
    refine OG.mv rfl rfl ?_
    refine OG.yield Yield.lssA rfl ?_
    refine OG.mv rfl rfl ?_
    refine OG.gy rfl rfl rfl ?_
    refine OG.mv rfl rfl ?_
    refine OG.gy rfl rfl rfl ?_
    refine OG.yield Yield.geqA rfl ?_
    refine OG.yield Yield.pickA rfl ?_
    refine OG.mv rfl rfl ?_
    refine OG.gy rfl rfl rfl ?_
    refine OG.mv rfl rfl ?_
    refine OG.gy rfl rfl rfl ?_
    refine OG.yield (Yield.rem (c := how) rfl rfl (by decide) hmod) rfl ?_
    refine OG.gy rfl rfl rfl ?_
    refine OG.yield Yield.eqlA rfl ?_
    refine OG.yield Yield.pickA rfl ?_
    refine OG.nil ?_
    refine QG.then ?_
    refine CG.cond_t rfl ?_
    refine CG.seq ?_
    refine CG.region ?_
    refine OG.sg rfl rfl ?_
    refine OG.nil ?_
    refine QG.then ?_
    refine CG.ret ?_
    refine QG.pass_ret ?_
    exact QG.ret1 rfl rfl () trivial rfl iM
  · skip
    refine CG.region ?_
    refine OG.mv rfl rfl ?_
    refine OG.yield Yield.lssA rfl ?_
    refine OG.mv rfl rfl ?_
    refine OG.gy rfl rfl rfl ?_
    refine OG.mv rfl rfl ?_
    refine OG.gy rfl rfl rfl ?_
    refine OG.yield Yield.geqA rfl ?_
    refine OG.yield Yield.pickA rfl ?_
    refine OG.mv rfl rfl ?_
    refine OG.gy rfl rfl rfl ?_
    refine OG.mv rfl rfl ?_
    refine OG.gy rfl rfl rfl ?_
    refine OG.yield (Yield.rem (c := how) rfl rfl (by decide) hmod) rfl ?_
    refine OG.gy rfl rfl rfl ?_
    refine OG.yield Yield.eqlA rfl ?_
    refine OG.yield Yield.pickA rfl ?_
    refine OG.nil ?_
    refine QG.then ?_
    refine CG.cond_f rfl ?_
    refine CG.skip ?_
    refine QG.then ?_
    refine CG.seq ?_
    refine CG.region ?_
    refine OG.mv rfl rfl ?_
    refine OG.mv rfl rfl ?_
    refine OG.yield (Yield.quo rfl rfl (by omega) (tdiv_pos (by omega) (by omega) (by omega))) rfl ?_
    refine OG.callo call30 rfl (iM) (rperm_spec W0 _ (o := o) (b := b) (w := w) (k := k) (ts := ts) (a / 256)) rfl ?_
    rintro ⟨⟩ -
    refine OG.sg rfl rfl ?_
    refine OG.nil ?_
    refine QG.then ?_
    refine CG.seq ?_
    rcases Decidable.em (prmO o k (a / 256) = 0) with hp | hp
    · skip
      rw [show rmay o k a how = false from decide_eq_false (fun q => q.2.2.2.1 hp)]
      refine CG.region ?_
      refine OG.mv rfl rfl ?_
      refine OG.yield (Yield.as (Yield.neq rfl rfl) (v' := .bool false) (bF (by simpa using hp))) rfl ?_
      refine OG.mv rfl rfl ?_
      refine OG.gn rfl rfl rfl rfl rfl ?_
      refine OG.gn rfl rfl rfl rfl rfl ?_
      refine OG.gn rfl rfl rfl rfl rfl ?_
      refine OG.gn rfl rfl rfl rfl rfl ?_
      refine OG.gn rfl rfl rfl rfl rfl ?_
      refine OG.gn rfl rfl rfl rfl rfl ?_
      refine OG.gn rfl rfl rfl rfl rfl ?_
      refine OG.yield Yield.pickA rfl ?_
      refine OG.sg rfl rfl ?_
      refine OG.nil ?_
      refine QG.then ?_
      refine CG.ret ?_
      exact QG.ret1 rfl rfl () trivial rfl iM
    · skip
      refine CG.region ?_
      refine OG.mv rfl rfl ?_
      refine OG.yield (Yield.as (Yield.neq rfl rfl) (v' := .bool true) (bT hp)) rfl ?_
      refine OG.mv rfl rfl ?_
      refine OG.gy rfl rfl rfl ?_
      refine OG.mv rfl rfl ?_
      refine OG.gy rfl rfl rfl ?_
      refine OG.mv rfl rfl ?_
      refine OG.gy rfl rfl rfl ?_
      refine OG.yield (Yield.rem (c := how) rfl rfl (by decide) hmod) rfl ?_
      refine OG.gy rfl rfl rfl ?_
      refine OG.yield (Yield.bitop rfl rfl rfl rfl) rfl ?_
      refine OG.gy rfl rfl rfl ?_
      refine OG.mv rfl rfl ?_
      refine OG.gy rfl rfl rfl ?_
      refine OG.yield (Yield.rem (c := how) rfl rfl (by decide) hmod) rfl ?_
      refine OG.gy rfl rfl rfl ?_
      refine OG.yield (Yield.eql rfl rfl) rfl ?_
      refine OG.yield Yield.pickA rfl ?_
      refine OG.sg rfl rfl ?_
      refine OG.nil ?_
      refine QG.then ?_
      refine CG.ret ?_
      first | exact QG.ret1 rfl rfl () trivial rfl iM | exact QG.ret1 rfl rfl () trivial (congrArg Value.bool (decide_eq_decide.2 ⟨fun q => ⟨hr.1.1, hr.1.2, hr.2, hp, q⟩, fun q => q.2.2.2.2⟩)) iM
theorem pvs_set {p fr : Nat} {x v : Nat × List UInt8} {tb : Nat → Nat → Bool} (hp : p < 4096) (hx : o.vw k p = some x) : (pvs o k).set (pvTo o k p).length (p, v.1, v.2) = pvs ⟨up2 o.vw k p (some v), tb, fr⟩ k := by
  rw [pvs_upd hp, pvs_cut o k hp, hx, List.append_assoc, List.append_assoc, List.set_append_right _ _ (Nat.le_refl _), Nat.sub_self]
  rfl
theorem rs_upd {ol oo zc : Nat} {zl : List PV} {zta : Option Addr} {ztc ii : Nat} {y y' : PV} {L : List PGv} {G : List HProp} (hy : zl[ii]? = some y) (hc : y'.cells = y.cells) (hL : (zl.map PV.v).set ii y'.v = L) :
    Imp (oby 5 y'.a y'.c y'.b :: Star ((zl.map fun x => oby 5 x.a x.c x.b).eraseIdx ii) :: blk b [.pointer (some ⟨w, 0, none⟩), .int .i64 k, .slice (some ⟨ol, oo, none⟩) zl.length zc, .slice zta ts.length ztc] 109 :: osl 61 3 (some ⟨ol, oo, none⟩) zc zl.length ((zl.map PV.cells).flatten) :: oiv zta ztc ts :: G) (RS b w k L ts :: G) := by
  refine Imp.trans (star_put (i := ii) (A := oby 5 y.a y.c y.b) (by rw [List.getElem?_map, hy]; rfl)) ?_
  refine Imp.trans (B := RSO b w k ts ⟨some ⟨ol, oo, none⟩, zc, zl.set ii y', zta, ztc⟩ ++ G) ?_ (rs_close _ (by rw [← hL, List.map_set]))
  dsimp only [RSO, List.cons_append, List.nil_append]
  rw [List.length_set, List.map_set, List.map_set, hc, Ms.set_self (l := zl.map PV.cells) (by rw [List.getElem?_map, hy]; rfl)]
  exact iM
/-- A byte is put. -/
def putO (o : Ob) (k a : Nat) (c : UInt8) : Ob := ⟨up2 o.vw k (a / 256) ((o.vw k (a / 256)).map fun x => (x.1, x.2.set (a % 256) c)), o.ts, o.fr⟩
set_option maxHeartbeats 1000000 in
theorem rput_spec {a : Nat} {c : UInt8} {x : Nat × List UInt8} (ha : a < 1048576) (hx : o.vw k (a / 256) = some x) (hxl : x.2.length = 256) : Ctr Tryz.prog W0 79 [.pointer (some ⟨b, 0, none⟩), .int .i64 a, byteV c] (RS b w k (pvs o k) ts :: Fr) (fun _ : Unit => True) (fun _ => .tuple #[]) (fun _ => RS b w k (pvs (putO o k a c) k) ts :: Fr) := by
  have hpl := pvs_len o k
  have hq : a / 256 < 4096 := by omega
  obtain ⟨e, -⟩ := fnd_some hq hx
  refine Ctr.of_body Tryz.func79 rfl Tryz.ntmps79 rfl ?_
  refine CG.seq ?_
  refine CG.region ?_
  refine OG.mv rfl rfl ?_
  refine OG.mv rfl rfl ?_
  refine OG.yield (Yield.as (Yield.quo rfl rfl (by omega) (tdiv_pos (by omega) (by omega) (by omega))) (v' := .int .i64 ((a / 256 : Nat) : Int)) (by congr 1)) rfl ?_
  refine OG.callo call70 rfl (iM) (rfind_spec W0 _ (b := b) (w := w) (k := k) (L := pvs o k) (ts := ts) (by omega) ((a / 256 : Nat) : Int)) rfl ?_
  rintro ⟨⟩ -
  rw [e]
  refine OG.sg rfl rfl ?_
  refine OG.nil ?_
  refine QG.then ?_
  refine CG.ex (A := RS b w k (pvs o k) ts) eX rs_open ?_
  rintro ⟨za, zc, zl, zta, ztc⟩ hz
  refine CG.imp star_open ?_
  dsimp only [RSO, List.cons_append, List.nil_append] at hz ⊢
  obtain ⟨y, hy, y1, y2, y3⟩ := pv_at (z := ⟨za, zc, zl, zta, ztc⟩) hz hq hx
  dsimp only at hy
  have hil := (List.getElem?_eq_some_iff.1 hy).1
  have hps := pvs_set (o := o) (k := k) (v := (x.1, x.2.set (a % 256) c)) (tb := o.ts) (fr := o.fr) hq hx
  have hpo : putO o k a c = ⟨up2 o.vw k (a / 256) (some (x.1, x.2.set (a % 256) c)), o.ts, o.fr⟩ := by unfold putO; rw [hx]; rfl
  rw [← hpo] at hps
  refine CG.pure (fun w hw => SlR.elem_shape (W0 := W0) (f := PV.cells) (xs := zl) (i := (pvTo o k (a / 256)).length) (SlR.of_osl (E := 61) (a := za) (c := zc) eX) PV.len (by decide) hil w hw) ?_
  rintro ⟨ol, oo, rfl⟩
  generalize (pvTo o k (a / 256)).length = ii at *
  have hyS : (zl.map fun x => oby 5 x.a x.c x.b)[ii]? = some (oby 5 y.a y.c y.b) := by rw [List.getElem?_map, hy]; rfl
  refine CG.imp (Imp.trans (B := Star (zl.map fun x => oby 5 x.a x.c x.b) :: blk b [.pointer (some ⟨w, 0, none⟩), .int .i64 k, .slice (some ⟨ol, oo, none⟩) zl.length zc, .slice zta ts.length ztc] 109 :: osl 61 3 (some ⟨ol, oo, none⟩) zc zl.length ((zl.map PV.cells).flatten) :: oiv zta ztc ts :: Fr) iM (star_take hyS)) ?_
  obtain ⟨yp, ypm, ya, yc, yb⟩ := y
  dsimp only at y1 y2 y3 ⊢
  subst y1 y2 y3
  refine CG.pure (fun w hw => SlR.shape (SlR.of_osl (W0 := W0) (E := 5) (a := ya) (c := yc) eX) (fun q => by have := congrArg List.length q; rw [bytesV_length, hxl] at this; cases this) w hw) ?_
  rintro ⟨yb', yo, rfl⟩
  refine CG.region ?_
  refine OG.mv rfl rfl ?_
  refine OG.yield (Yield.nilCheck rfl) rfl ?_
  refine OG.yield (Yield.fieldAddr fa109_2 rfl) rfl ?_
  refine OG.yield (Yield.loadA ti49 rfl) rfl ?_
  refine OG.mv rfl rfl ?_
  refine OG.yield (Yield.index_slice Tryz.underlying49 ti61 rfl rfl (by omega) (by omega)) rfl ?_
  refine OG.yield (Yield.fieldAddr fa61_2 rfl) rfl ?_
  refine OG.yield (Yield.load (v := .slice (some ⟨yb', yo, none⟩) x.2.length yc) ti32 rfl (by rw [show oo + (ii : Int).toNat * 3 + 2 = oo + ii * 3 + 2 by omega]; exact (SlR.elem (f := PV.cells) (xs := zl) (i := ii) (SlR.of_osl (W0 := W0) (E := 61) (c := zc) eX) PV.len hy) 2 _ rfl)) rfl ?_
  refine OG.mv rfl rfl ?_
  refine OG.yield (Yield.as (Yield.rem rfl rfl (by omega) (tmod_pos (by omega) (by omega))) (v' := .int .i64 ((a % 256 : Nat) : Int)) (by congr 1)) rfl ?_
  refine OG.mv rfl rfl ?_
  refine OG.yield (Yield.index_slice Tryz.underlying32 ti5 rfl rfl (by omega) (by omega)) rfl ?_
  refine OG.eff (Eff.storeByteS (b := yb') (o := yo) (i := a % 256) (bs := x.2) (z := c) ti5 (by omega) rfl rfl fC (by omega)) rfl ?_
  rintro ⟨⟩ -
  refine OG.nil ?_
  exact QG.end0 rfl () trivial rfl (rs_upd (y' := ⟨a / 256, x.1, some ⟨yb', yo, none⟩, yc, x.2.set (a % 256) c⟩) hy (by simp [PV.cells]) (by rw [hz]; exact hps))
end
end Go.Proofs.YtmlfcfbblfcpdaaGreat.Sp
/- What the memory laws share: bytes written over, stores and loads of bytes. -/
namespace Go.Proofs.YtmlfcfbblfcpdaaGreat.Me
open Go Go.Sl Go.RowKit Go.Proofs Go.Proofs.YtmlfcfbblfcpdaaGreat.T
set_option maxRecDepth 100000
section
variable {P : Program} {W0 : World} {e : Env} {G R : List HProp} {ty : TypeId}
end
end Go.Proofs.YtmlfcfbblfcpdaaGreat.Me
/- The document's numbers as bytes: Get and Put. -/
namespace Go.Proofs.YtmlfcfbblfcpdaaGreat.Me
open Go Go.Sl Go.RowKit Go.Proofs Go.Proofs.YtmlfcfbblfcpdaaGreat.T
set_option maxRecDepth 100000
section
variable (W0 : World) (Fr : List HProp)
theorem rget_spec {b o c : Nat} {bs : List UInt8} (hr : SlR W0 Fr 1 (some ⟨b, o, none⟩) bs.length (bytesV bs)) (hl : bs.length ≤ 8) : Ctr Tryz.prog W0 76 [.slice (some ⟨b, o, none⟩) bs.length c] Fr (fun _ : Unit => True) (fun _ => .int .u64 (leN bs)) (fun _ => Fr) := by
  refine Ctr.of_body Tryz.func76 rfl Tryz.ntmps76 rfl ?_
  refine CG.seq ?_
  refine CG.region ?_
  refine OG.sg rfl rfl ?_
  refine OG.nil ?_
  refine QG.then ?_
  refine CG.seq ?_
  refine CG.region ?_
  refine OG.sg rfl rfl ?_
  refine OG.nil ?_
  refine QG.then ?_
  refine CG.seq ?_
  refine CG.seq ?_
  refine CG.region ?_
  refine OG.mv rfl rfl ?_
  refine OG.yield (Yield.len_slice Tryz.underlying32 rfl rfl) rfl ?_
  refine OG.yield (Yield.as (Yield.min2 rfl rfl) (v' := .int .i64 bs.length) (by congr 1; omega)) rfl ?_
  refine OG.yield (Yield.sub rfl rfl (w64 (by omega) (by omega))) rfl ?_
  refine OG.sg rfl rfl ?_
  refine OG.nil ?_
  refine QG.then ?_
  refine CG.block ?_
  refine CG.loop (fun j : Nat => j ≤ bs.length) (fun j => [(0, .slice (some ⟨b, o, none⟩) bs.length c), (3, .int .u64 (leN (bs.drop j))), (4, .int .i64 ((j : Int) - 1))]) (fun _ => Fr) (fun j => j) bs.length (Nat.le_refl _) (by rw [List.drop_length]; exact eS) (Imp.refl _) ?_
  intro j hj
  refine CG.seq ?_
  refine CG.seq ?_
  refine CG.region ?_
  refine OG.mv rfl rfl ?_
  refine OG.yield Yield.geqA rfl ?_
  refine OG.nil ?_
  refine QG.then ?_
  refine CG.cond rfl (fun hc => ?_) (fun hc => ?_)
  · try replace hc := of_decide_eq_true hc
    obtain ⟨i, rfl⟩ : ∃ i, j = i + 1 := ⟨j - 1, by omega⟩
    have hi' : i < bs.length := by omega
    have hget : bs[i]? = some bs[i] := by simp [hi']
    generalize bs[i] = x at hget
    have hx := x.toNat_lt
    have hd := leN_drop hget
    have hdl := leN_lt64 (bs := bs.drop i) (by rw [List.length_drop]; omega)
    rw [show (((i + 1 : Nat) : Int) - 1) = (i : Int) by omega]
    refine CG.skip ?_
    refine QG.then ?_
    refine CG.seq ?_
    refine CG.block ?_
    refine CG.region ?_
    refine OG.mv rfl rfl ?_
    refine OG.yield (Yield.mul (c := ((leN (bs.drop (i + 1)) * 256 : Nat) : Int)) rfl rfl (by rw [Int.natCast_mul]; exact wu64 (by omega) (by omega))) rfl ?_
    refine OG.mv rfl rfl ?_
    refine OG.mv rfl rfl ?_
    refine OG.yield (Yield.index_slice Tryz.underlying32 ti5 rfl rfl (by omega) (by omega)) rfl ?_
    refine OG.yield (Yield.load (v := byteV x) ti5 rfl (SlR.byte hr hget)) rfl ?_
    refine OG.yield (Yield.conv (c := (x.toNat : Int)) Tryz.underlying31 rfl rfl (wu64 (by omega) (by omega))) rfl ?_
    refine OG.yield (Yield.add (c := ((leN (bs.drop i) : Nat) : Int)) rfl rfl (by rw [← Int.natCast_add, show leN (bs.drop (i + 1)) * 256 + x.toNat = leN (bs.drop i) by omega]; exact wu64 (by omega) (by omega))) rfl ?_
    refine OG.sg rfl rfl ?_
    refine OG.nil ?_
    refine QG.block_normal ?_
    refine QG.then ?_
    refine CG.region ?_
    refine OG.mv rfl rfl ?_
    refine OG.yield (Yield.sub rfl rfl (w64 (by omega) (by omega))) rfl ?_
    refine OG.sg rfl rfl ?_
    refine OG.nil ?_
    exact QG.next i (show i ≤ bs.length by omega) (show i < i + 1 by omega) eS iM
  · try replace hc := of_decide_eq_false hc
    refine CG.exit ?_
    refine QG.pass_exit ?_
    refine QG.pass_exit ?_
    refine QG.block_exit ?_
    refine QG.then ?_
    refine CG.seq ?_
    refine CG.region ?_
    refine OG.mv rfl rfl ?_
    refine OG.sg rfl rfl ?_
    refine OG.nil ?_
    refine QG.then ?_
    refine CG.ret ?_
    have : j = 0 := by omega
    subst this
    exact QG.ret1 rfl rfl () trivial rfl iM
theorem rput_spec {v s : Nat} (hs : s ≤ 8) (hv : v < 18446744073709551616) : Ctr Tryz.prog W0 78 [.int .u64 v, .int .i64 s] Fr (fun _ : Option Addr × Nat => True) (fun p => .slice p.1 (putB v s).length p.2) (fun p => oby 5 p.1 p.2 (putB v s) :: Fr) := by
  refine Ctr.of_body Tryz.func78 rfl Tryz.ntmps78 rfl ?_
  refine CG.seq ?_
  refine CG.region ?_
  refine OG.sg rfl rfl ?_
  refine OG.nil ?_
  refine QG.then ?_
  refine CG.seq ?_
  refine CG.region ?_
  refine OG.sg rfl rfl ?_
  refine OG.nil ?_
  refine QG.then ?_
  refine CG.seq ?_
  refine CG.seq ?_
  refine CG.region ?_
  refine OG.sg rfl rfl ?_
  refine OG.nil ?_
  refine QG.then ?_
  refine CG.block ?_
  refine CG.loop (fun i : Nat × Option Addr × Nat => i.1 ≤ s) (fun i => [(0, .int .u64 ((v / 2 ^ (8 * i.1) : Nat) : Int)), (1, .int .i64 s), (5, .slice i.2.1 (putB v i.1).length i.2.2), (6, .int .i64 i.1)]) (fun i => oby 5 i.2.1 i.2.2 (putB v i.1) :: Fr) (fun i => s - i.1) (0, none, 0) (Nat.zero_le _) (by rw [show v / 2 ^ (8 * (0, (none : Option Addr), 0).1) = v by simp]; exact eS) (Imp.trans (oby_nil (E := 5)) (Imp.refl _)) ?_
  rintro ⟨i, a, c⟩ (hi : i ≤ s)
  have hpl := putB_len v i
  have hvd : v / 2 ^ (8 * i) ≤ v := Nat.div_le_self _ _
  have hvs : v / 2 ^ (8 * i) / 256 = v / 2 ^ (8 * (i + 1)) := by rw [Nat.div_div_eq_div_mul, show 2 ^ (8 * (i + 1)) = 2 ^ (8 * i) * 256 by rw [Nat.mul_add, Nat.pow_add]]
  dsimp only
  refine CG.seq ?_
  refine CG.seq ?_
  rcases (show i < s ∨ ¬ i < s by omega) with hh | hh
  · skip
    refine CG.region ?_
    refine OG.mv rfl rfl ?_
    refine OG.mv rfl rfl ?_
    refine OG.yield Yield.lssA rfl ?_
    refine OG.mv rfl rfl ?_
    refine OG.gy rfl rfl rfl ?_
    refine OG.mv rfl rfl ?_
    refine OG.gy rfl rfl rfl ?_
    refine OG.yield Yield.lssA rfl ?_
    refine OG.yield Yield.pickA rfl ?_
    refine OG.nil ?_
    refine QG.then ?_
    refine CG.cond_t rfl ?_
    refine CG.skip ?_
    refine QG.then ?_
    refine CG.seq ?_
    refine CG.block ?_
    refine CG.seq ?_
    refine CG.region ?_
    refine OG.mv rfl rfl ?_
    refine OG.mv rfl rfl ?_
    refine OG.yield (Yield.rem (c := ((v / 2 ^ (8 * i) % 256 : Nat) : Int)) rfl rfl (by decide) rfl) rfl ?_
    refine OG.yield (Yield.conv (c := ((UInt8.ofNat (v / 2 ^ (8 * i))).toNat : Int)) Tryz.underlying5 rfl rfl (by rw [IntKind.wrap_u8, UInt8.toNat_ofNat']; omega)) rfl ?_
    refine OG.effd (Eff.lit1 Tryz.underlying32 ti5 rfl rfl rfl) rfl ?_
    rintro b20 -
    refine OG.effd (Eff.appendB (bs := putB v i) (ys := [UInt8.ofNat (v / 2 ^ (8 * i))]) rfl rfl rfl Tryz.underlying32 Tryz.underlying32 ti5 (by decide) fC (by first | exact SlR.of_osl eX | exact SlR.of_osl_eq eX rfl rfl | exact SlR.of_osl_eq eX rfl (by simp [bytesV, byteV]) | assumption | exact SlAt.old (by assumption) eX | exact RdB.slR (by assumption)) (by simp only [List.length_cons, List.length_nil]; omega)) rfl ?_
    rintro ⟨a21, c21⟩ -
    rw [← putB_succ]
    refine OG.sg rfl rfl ?_
    refine OG.nil ?_
    refine QG.then ?_
    refine CG.region ?_
    refine OG.mv rfl rfl ?_
    refine OG.yield (Yield.quo (c := ((v / 2 ^ (8 * (i + 1)) : Nat) : Int)) rfl rfl (by decide) (by rw [← hvs]; exact quo_nat64 (b := 256) (by decide) (by omega))) rfl ?_
    refine OG.sg rfl rfl ?_
    refine OG.nil ?_
    refine QG.block_normal ?_
    refine QG.then ?_
    refine CG.region ?_
    refine OG.mv rfl rfl ?_
    refine OG.yield (Yield.add rfl rfl (w64 (by omega) (by omega))) rfl ?_
    refine OG.sg rfl rfl ?_
    refine OG.nil ?_
    exact QG.next (i + 1, a21, c21) (show i + 1 ≤ s by omega) (show s - (i + 1) < s - i by omega) eS iM
  · skip
    refine CG.region ?_
    refine OG.mv rfl rfl ?_
    refine OG.mv rfl rfl ?_
    refine OG.yield Yield.lssA rfl ?_
    refine OG.mv rfl rfl ?_
    refine OG.gn rfl rfl rfl rfl rfl ?_
    refine OG.gn rfl rfl rfl rfl rfl ?_
    refine OG.yield Yield.pickA rfl ?_
    refine OG.nil ?_
    refine QG.then ?_
    refine CG.cond_f rfl ?_
    refine CG.exit ?_
    refine QG.pass_exit ?_
    refine QG.pass_exit ?_
    refine QG.block_exit ?_
    refine QG.then ?_
    refine CG.seq ?_
    refine CG.region ?_
    refine OG.mv rfl rfl ?_
    refine OG.sg rfl rfl ?_
    refine OG.nil ?_
    refine QG.then ?_
    refine CG.ret ?_
    have : i = s := by omega
    subst this
    exact QG.ret1 rfl rfl (a, c) trivial rfl iM
end
end Go.Proofs.YtmlfcfbblfcpdaaGreat.Me
/- The document's space: Read, Write, In, Out. -/
namespace Go.Proofs.YtmlfcfbblfcpdaaGreat.Sp
open Go Go.Sl Go.RowKit Go.Proofs Go.Proofs.YtmlfcfbblfcpdaaGreat.T Go.Proofs.YtmlfcfbblfcpdaaGreat.Me Go.Proofs.YtmlfcfbblfcpdaaGreat.Pe Go.Proofs.YtmlfcfbblfcpdaaGreat.Pg
open Go.Proofs.YtmlfcfbblfcpdaaGreat.Fz (iv oiv)
set_option maxRecDepth 100000
/-- What is wrong with an address and a size. -/
def wrongE (ad : Nat) (sz : Int) : Int := if ¬(sz = 1 ∨ sz = 2 ∨ sz = 4 ∨ sz = 8) then 5 else if (ad : Int) % sz ≠ 0 then 30 else 0
theorem rmay_iff {o : Ob} {k ad : Nat} {how : Int} : rmay o k (ad : Int) how = true ↔ ad < 1048576 ∧ how ≠ 0 ∧ ∃ x, o.vw k (ad / 256) = some x ∧ x.1 ≠ 0 ∧ may x.1 how := by
  unfold rmay prmO vI
  rw [decide_eq_true_iff, show ((ad : Int) / 256) = ((ad / 256 : Nat) : Int) by omega, Int.toNat_natCast]
  constructor
  · rintro ⟨h1, h2, h3, h4, h5⟩
    rw [if_pos (by omega)] at h4 h5
    cases hx : o.vw k (ad / 256) with
    | none => rw [hx] at h4; exact absurd rfl h4
    | some x => rw [hx] at h4 h5; exact ⟨by omega, h3, x, rfl, by simpa using h4, h5⟩
  · rintro ⟨h1, h2, x, hx, h4, h5⟩
    rw [if_pos (by omega), hx]
    exact ⟨by omega, by omega, h2, by simpa using h4, h5⟩
section
variable (W0 : World) (Fr : List HProp)
variable {o : Ob} {b w k : Nat} {ts : List Int}
theorem rwrong_spec {ad : Nat} {sz : Int} (had : ad < 4294967296) : Ctr Tryz.prog W0 73 [.int .u32 ad, .int .i64 sz] Fr (fun _ : Unit => True) (fun _ => .int .i64 (wrongE ad sz)) (fun _ => Fr) := by
  refine Ctr.of_body Tryz.func73 rfl Tryz.ntmps73 rfl ?_
  refine CG.seq ?_
  refine CG.region ?_
  refine OG.sg rfl rfl ?_
  refine OG.nil ?_
  refine QG.then ?_
  refine CG.seq ?_
  refine CG.seq ?_
  rcases (show sz = 1 ∨ sz = 2 ∨ sz = 4 ∨ sz = 8 ∨ ¬(sz = 1 ∨ sz = 2 ∨ sz = 4 ∨ sz = 8) by omega) with rfl | rfl | rfl | rfl | hs
  · skip
    refine CG.region ?_
    refine OG.mv rfl rfl ?_
    refine OG.yield Yield.neqA rfl ?_
    refine OG.mv rfl rfl ?_
    refine OG.gn rfl rfl rfl rfl rfl ?_
    refine OG.gn rfl rfl rfl rfl rfl ?_
    refine OG.yield Yield.pickA rfl ?_
    refine OG.mv rfl rfl ?_
    refine OG.gn rfl rfl rfl rfl rfl ?_
    refine OG.gn rfl rfl rfl rfl rfl ?_
    refine OG.yield Yield.pickA rfl ?_
    refine OG.mv rfl rfl ?_
    refine OG.gn rfl rfl rfl rfl rfl ?_
    refine OG.gn rfl rfl rfl rfl rfl ?_
    refine OG.yield Yield.pickA rfl ?_
    refine OG.nil ?_
    refine QG.then ?_
    refine CG.cond_f rfl ?_
    refine CG.skip ?_
    refine QG.then ?_
    refine CG.seq ?_
    refine CG.seq ?_
    refine CG.region ?_
    refine OG.mv rfl rfl ?_
    refine OG.yield (Yield.conv (c := (ad : Int)) Tryz.underlying3 rfl rfl (w64 (by omega) (by omega))) rfl ?_
    refine OG.mv rfl rfl ?_
    refine OG.yield (Yield.rem rfl rfl (by decide) (tmod_pos (by omega) (by omega))) rfl ?_
    refine OG.yield (Yield.neq rfl rfl) rfl ?_
    refine OG.nil ?_
    refine QG.then ?_
    refine CG.cond rfl (fun hc => ?_) (fun hc => ?_)
    · try replace hc := of_decide_eq_true hc
      refine CG.seq ?_
      refine CG.region ?_
      refine OG.sg rfl rfl ?_
      refine OG.nil ?_
      refine QG.then ?_
      refine CG.ret ?_
      refine QG.pass_ret ?_
      first | exact QG.ret1 rfl rfl () trivial (by unfold wrongE; rw [if_neg (by decide), if_pos hc]) iM | exact QG.ret1 rfl rfl () trivial (by unfold wrongE; rw [if_neg (by decide), if_neg hc]) iM
    · try replace hc := of_decide_eq_false hc
      refine CG.skip ?_
      refine QG.then ?_
      refine CG.seq ?_
      refine CG.region ?_
      refine OG.sg rfl rfl ?_
      refine OG.nil ?_
      refine QG.then ?_
      refine CG.ret ?_
      first | exact QG.ret1 rfl rfl () trivial (by unfold wrongE; rw [if_neg (by decide), if_pos hc]) iM | exact QG.ret1 rfl rfl () trivial (by unfold wrongE; rw [if_neg (by decide), if_neg hc]) iM
  · skip
    refine CG.region ?_
    refine OG.mv rfl rfl ?_
    refine OG.yield Yield.neqA rfl ?_
    refine OG.mv rfl rfl ?_
    refine OG.gy rfl rfl rfl ?_
    refine OG.mv rfl rfl ?_
    refine OG.gy rfl rfl rfl ?_
    refine OG.yield Yield.neqA rfl ?_
    refine OG.yield Yield.pickA rfl ?_
    refine OG.mv rfl rfl ?_
    refine OG.gn rfl rfl rfl rfl rfl ?_
    refine OG.gn rfl rfl rfl rfl rfl ?_
    refine OG.yield Yield.pickA rfl ?_
    refine OG.mv rfl rfl ?_
    refine OG.gn rfl rfl rfl rfl rfl ?_
    refine OG.gn rfl rfl rfl rfl rfl ?_
    refine OG.yield Yield.pickA rfl ?_
    refine OG.nil ?_
    refine QG.then ?_
    refine CG.cond_f rfl ?_
    refine CG.skip ?_
    refine QG.then ?_
    refine CG.seq ?_
    refine CG.seq ?_
    refine CG.region ?_
    refine OG.mv rfl rfl ?_
    refine OG.yield (Yield.conv (c := (ad : Int)) Tryz.underlying3 rfl rfl (w64 (by omega) (by omega))) rfl ?_
    refine OG.mv rfl rfl ?_
    refine OG.yield (Yield.rem rfl rfl (by decide) (tmod_pos (by omega) (by omega))) rfl ?_
    refine OG.yield (Yield.neq rfl rfl) rfl ?_
    refine OG.nil ?_
    refine QG.then ?_
    refine CG.cond rfl (fun hc => ?_) (fun hc => ?_)
    · try replace hc := of_decide_eq_true hc
      refine CG.seq ?_
      refine CG.region ?_
      refine OG.sg rfl rfl ?_
      refine OG.nil ?_
      refine QG.then ?_
      refine CG.ret ?_
      refine QG.pass_ret ?_
      first | exact QG.ret1 rfl rfl () trivial (by unfold wrongE; rw [if_neg (by decide), if_pos hc]) iM | exact QG.ret1 rfl rfl () trivial (by unfold wrongE; rw [if_neg (by decide), if_neg hc]) iM
    · try replace hc := of_decide_eq_false hc
      refine CG.skip ?_
      refine QG.then ?_
      refine CG.seq ?_
      refine CG.region ?_
      refine OG.sg rfl rfl ?_
      refine OG.nil ?_
      refine QG.then ?_
      refine CG.ret ?_
      first | exact QG.ret1 rfl rfl () trivial (by unfold wrongE; rw [if_neg (by decide), if_pos hc]) iM | exact QG.ret1 rfl rfl () trivial (by unfold wrongE; rw [if_neg (by decide), if_neg hc]) iM
  · skip
    refine CG.region ?_
    refine OG.mv rfl rfl ?_
    refine OG.yield Yield.neqA rfl ?_
    refine OG.mv rfl rfl ?_
    refine OG.gy rfl rfl rfl ?_
    refine OG.mv rfl rfl ?_
    refine OG.gy rfl rfl rfl ?_
    refine OG.yield Yield.neqA rfl ?_
    refine OG.yield Yield.pickA rfl ?_
    refine OG.mv rfl rfl ?_
    refine OG.gy rfl rfl rfl ?_
    refine OG.mv rfl rfl ?_
    refine OG.gy rfl rfl rfl ?_
    refine OG.yield Yield.neqA rfl ?_
    refine OG.yield Yield.pickA rfl ?_
    refine OG.mv rfl rfl ?_
    refine OG.gn rfl rfl rfl rfl rfl ?_
    refine OG.gn rfl rfl rfl rfl rfl ?_
    refine OG.yield Yield.pickA rfl ?_
    refine OG.nil ?_
    refine QG.then ?_
    refine CG.cond_f rfl ?_
    refine CG.skip ?_
    refine QG.then ?_
    refine CG.seq ?_
    refine CG.seq ?_
    refine CG.region ?_
    refine OG.mv rfl rfl ?_
    refine OG.yield (Yield.conv (c := (ad : Int)) Tryz.underlying3 rfl rfl (w64 (by omega) (by omega))) rfl ?_
    refine OG.mv rfl rfl ?_
    refine OG.yield (Yield.rem rfl rfl (by decide) (tmod_pos (by omega) (by omega))) rfl ?_
    refine OG.yield (Yield.neq rfl rfl) rfl ?_
    refine OG.nil ?_
    refine QG.then ?_
    refine CG.cond rfl (fun hc => ?_) (fun hc => ?_)
    · try replace hc := of_decide_eq_true hc
      refine CG.seq ?_
      refine CG.region ?_
      refine OG.sg rfl rfl ?_
      refine OG.nil ?_
      refine QG.then ?_
      refine CG.ret ?_
      refine QG.pass_ret ?_
      first | exact QG.ret1 rfl rfl () trivial (by unfold wrongE; rw [if_neg (by decide), if_pos hc]) iM | exact QG.ret1 rfl rfl () trivial (by unfold wrongE; rw [if_neg (by decide), if_neg hc]) iM
    · try replace hc := of_decide_eq_false hc
      refine CG.skip ?_
      refine QG.then ?_
      refine CG.seq ?_
      refine CG.region ?_
      refine OG.sg rfl rfl ?_
      refine OG.nil ?_
      refine QG.then ?_
      refine CG.ret ?_
      first | exact QG.ret1 rfl rfl () trivial (by unfold wrongE; rw [if_neg (by decide), if_pos hc]) iM | exact QG.ret1 rfl rfl () trivial (by unfold wrongE; rw [if_neg (by decide), if_neg hc]) iM
  · skip
    refine CG.region ?_
    refine OG.mv rfl rfl ?_
    refine OG.yield Yield.neqA rfl ?_
    refine OG.mv rfl rfl ?_
    refine OG.gy rfl rfl rfl ?_
    refine OG.mv rfl rfl ?_
    refine OG.gy rfl rfl rfl ?_
    refine OG.yield Yield.neqA rfl ?_
    refine OG.yield Yield.pickA rfl ?_
    refine OG.mv rfl rfl ?_
    refine OG.gy rfl rfl rfl ?_
    refine OG.mv rfl rfl ?_
    refine OG.gy rfl rfl rfl ?_
    refine OG.yield Yield.neqA rfl ?_
    refine OG.yield Yield.pickA rfl ?_
    refine OG.mv rfl rfl ?_
    refine OG.gy rfl rfl rfl ?_
    refine OG.mv rfl rfl ?_
    refine OG.gy rfl rfl rfl ?_
    refine OG.yield Yield.neqA rfl ?_
    refine OG.yield Yield.pickA rfl ?_
    refine OG.nil ?_
    refine QG.then ?_
    refine CG.cond_f rfl ?_
    refine CG.skip ?_
    refine QG.then ?_
    refine CG.seq ?_
    refine CG.seq ?_
    refine CG.region ?_
    refine OG.mv rfl rfl ?_
    refine OG.yield (Yield.conv (c := (ad : Int)) Tryz.underlying3 rfl rfl (w64 (by omega) (by omega))) rfl ?_
    refine OG.mv rfl rfl ?_
    refine OG.yield (Yield.rem rfl rfl (by decide) (tmod_pos (by omega) (by omega))) rfl ?_
    refine OG.yield (Yield.neq rfl rfl) rfl ?_
    refine OG.nil ?_
    refine QG.then ?_
    refine CG.cond rfl (fun hc => ?_) (fun hc => ?_)
    · try replace hc := of_decide_eq_true hc
      refine CG.seq ?_
      refine CG.region ?_
      refine OG.sg rfl rfl ?_
      refine OG.nil ?_
      refine QG.then ?_
      refine CG.ret ?_
      refine QG.pass_ret ?_
      first | exact QG.ret1 rfl rfl () trivial (by unfold wrongE; rw [if_neg (by decide), if_pos hc]) iM | exact QG.ret1 rfl rfl () trivial (by unfold wrongE; rw [if_neg (by decide), if_neg hc]) iM
    · try replace hc := of_decide_eq_false hc
      refine CG.skip ?_
      refine QG.then ?_
      refine CG.seq ?_
      refine CG.region ?_
      refine OG.sg rfl rfl ?_
      refine OG.nil ?_
      refine QG.then ?_
      refine CG.ret ?_
      first | exact QG.ret1 rfl rfl () trivial (by unfold wrongE; rw [if_neg (by decide), if_pos hc]) iM | exact QG.ret1 rfl rfl () trivial (by unfold wrongE; rw [if_neg (by decide), if_neg hc]) iM
  · skip
    refine CG.region ?_
    refine OG.mv rfl rfl ?_
    refine OG.yield Yield.neqA rfl ?_
    refine OG.mv rfl rfl ?_
    refine OG.gy rfl rfl rfl ?_
    refine OG.mv rfl rfl ?_
    refine OG.gy rfl rfl rfl ?_
    refine OG.yield Yield.neqA rfl ?_
    refine OG.yield Yield.pickA rfl ?_
    refine OG.mv rfl rfl ?_
    refine OG.gy rfl rfl rfl ?_
    refine OG.mv rfl rfl ?_
    refine OG.gy rfl rfl rfl ?_
    refine OG.yield Yield.neqA rfl ?_
    refine OG.yield Yield.pickA rfl ?_
    refine OG.mv rfl rfl ?_
    refine OG.gy rfl rfl rfl ?_
    refine OG.mv rfl rfl ?_
    refine OG.gy rfl rfl rfl ?_
    refine OG.yield Yield.neqA rfl ?_
    refine OG.yield Yield.pickA rfl ?_
    refine OG.nil ?_
    refine QG.then ?_
    refine CG.cond_t rfl ?_
    refine CG.seq ?_
    refine CG.region ?_
    refine OG.sg rfl rfl ?_
    refine OG.nil ?_
    refine QG.then ?_
    refine CG.ret ?_
    refine QG.pass_ret ?_
    exact QG.ret1 rfl rfl () trivial (by unfold wrongE; rw [if_pos hs]) iM
/-- Pages are as they must be. -/
def ObK (o : Ob) (k : Nat) : Prop := ∀ q x, o.vw k q = some x → (1 ≤ x.1 ∧ x.1 ≤ 7) ∧ x.2.length = 256
theorem read_may {ad : Nat} {sz how : Int} (hs : sz = 1 ∨ sz = 2 ∨ sz = 4 ∨ sz = 8) (hal : (ad : Int) % sz = 0) : (rmay o k (ad : Int) how = false → readO o k ad sz how = (0, 90)) ∧ (∀ x, ad < 1048576 → how ≠ 0 → o.vw k (ad / 256) = some x → may x.1 how → readO o k ad sz how = (leN ((x.2.drop (ad % 256)).take sz.toNat), 0)) := by
  constructor
  · intro h
    unfold readO
    rw [if_neg (fun q => q hs), if_neg (fun q => q hal)]
    by_cases h1 : 1048576 ≤ ad ∨ how = 0
    · rw [if_pos h1]
    · rw [if_neg h1]
      cases hx : o.vw k (ad / 256) with
      | none => rfl
      | some x =>
        simp only
        by_cases hm : may x.1 how
        · exfalso
          by_cases h0 : x.1 = 0
          · unfold may at hm
            rw [h0] at hm
            have : Go.bits .and .i64 ((0 : Nat) : Int) how = 0 := by simp [Go.bits]; decide
            omega
          · rw [rmay_iff.2 ⟨by omega, by omega, x, hx, h0, hm⟩] at h; cases h
        · rw [if_neg hm]
  · intro x h1 h2 hx hm
    unfold readO
    rw [if_neg (fun q => q hs), if_neg (fun q => q hal), if_neg (by omega), hx]
    simp only
    rw [if_pos hm]
theorem low_range (x : Int) : 0 ≤ Go.bits .and .i64 x 7 ∧ Go.bits .and .i64 x 7 ≤ 7 := by
  have h : (BitVec.ofInt IntKind.i64.bits x &&& BitVec.ofInt IntKind.i64.bits 7).toNat ≤ 7 := by
    rw [BitVec.toNat_and]; exact Nat.le_trans Nat.and_le_right (by decide)
  show 0 ≤ IntKind.i64.wrap ((BitVec.ofInt IntKind.i64.bits x &&& BitVec.ofInt IntKind.i64.bits 7).toNat : Int) ∧ IntKind.i64.wrap ((BitVec.ofInt IntKind.i64.bits x &&& BitVec.ofInt IntKind.i64.bits 7).toNat : Int) ≤ 7
  rw [w64 (by omega) (by omega)]; omega
set_option maxHeartbeats 2000000 in
theorem rread_spec (hK : ObK o k) {ad : Nat} {sz how : Int} (had : ad < 4294967296) : Ctr Tryz.prog W0 32 [.pointer (some ⟨b, 0, none⟩), .int .u32 ad, .int .i64 sz, .int .i64 how] (RS b w k (pvs o k) ts :: Fr) (fun _ : Unit => True) (fun _ => .tuple #[.int .u64 (readO o k ad sz (Go.bits .and .i64 how 7)).1, .int .i64 (readO o k ad sz (Go.bits .and .i64 how 7)).2]) (fun _ => RS b w k (pvs o k) ts :: Fr) := by
  have hpl := pvs_len o k
  have hlow := low_range how
  refine Ctr.of_body Tryz.func32 rfl Tryz.ntmps32 rfl ?_
  refine CG.seq ?_
  refine CG.region ?_
  refine OG.sg rfl rfl ?_
  refine OG.sg rfl rfl ?_
  refine OG.nil ?_
  refine QG.then ?_
  refine CG.seq ?_
  refine CG.region ?_
  refine OG.mv rfl rfl ?_
  refine OG.mv rfl rfl ?_
  refine OG.callo call73 rfl (iM) (rwrong_spec W0 _ (ad := ad) (sz := sz) had) rfl ?_
  rintro ⟨⟩ -
  refine OG.sg rfl rfl ?_
  refine OG.nil ?_
  refine QG.then ?_
  refine CG.seq ?_
  refine CG.seq ?_
  rcases (show ¬(sz = 1 ∨ sz = 2 ∨ sz = 4 ∨ sz = 8) ∨ ((sz = 1 ∨ sz = 2 ∨ sz = 4 ∨ sz = 8) ∧ (ad : Int) % sz ≠ 0) ∨ ((sz = 1 ∨ sz = 2 ∨ sz = 4 ∨ sz = 8) ∧ (ad : Int) % sz = 0) from (Decidable.em (sz = 1 ∨ sz = 2 ∨ sz = 4 ∨ sz = 8)).elim (fun h => (Decidable.em ((ad : Int) % sz = 0)).elim (fun q => .inr (.inr ⟨h, q⟩)) (fun q => .inr (.inl ⟨h, q⟩))) .inl) with hs | ⟨hs, hal⟩ | ⟨hs, hal⟩
  · skip
    rw [show wrongE ad sz = 5 by unfold wrongE; rw [if_pos hs], show readO o k ad sz (Go.bits .and .i64 how 7) = (0, 5) by unfold readO; rw [if_pos hs]]
    refine CG.region ?_
    refine OG.mv rfl rfl ?_
    refine OG.yield (Yield.as (Yield.neq rfl rfl) (v' := .bool true) rfl) rfl ?_
    refine OG.nil ?_
    refine QG.then ?_
    refine CG.cond_t rfl ?_
    refine CG.seq ?_
    refine CG.region ?_
    refine OG.mv rfl rfl ?_
    refine OG.sg rfl rfl ?_
    refine OG.sg rfl rfl ?_
    refine OG.nil ?_
    refine QG.then ?_
    refine CG.ret ?_
    refine QG.pass_ret ?_
    first | exact QG.rets [.int .u64 ((0 : Nat) : Int), .int .i64 5] rfl ⟨rfl, rfl, trivial⟩ () trivial rfl iM | exact QG.rets [.int .u64 ((0 : Nat) : Int), .int .i64 30] rfl ⟨rfl, rfl, trivial⟩ () trivial rfl iM | (rw [(read_may hs hal).1 (by rw [hrm]; simpa using hc)]; exact QG.rets [.int .u64 ((0 : Nat) : Int), .int .i64 90] rfl ⟨rfl, rfl, trivial⟩ () trivial rfl iM)
  · skip
    rw [show wrongE ad sz = 30 by unfold wrongE; rw [if_neg (fun q => q hs), if_pos hal], show readO o k ad sz (Go.bits .and .i64 how 7) = (0, 30) by unfold readO; rw [if_neg (fun q => q hs), if_pos hal]]
    refine CG.region ?_
    refine OG.mv rfl rfl ?_
    refine OG.yield (Yield.as (Yield.neq rfl rfl) (v' := .bool true) rfl) rfl ?_
    refine OG.nil ?_
    refine QG.then ?_
    refine CG.cond_t rfl ?_
    refine CG.seq ?_
    refine CG.region ?_
    refine OG.mv rfl rfl ?_
    refine OG.sg rfl rfl ?_
    refine OG.sg rfl rfl ?_
    refine OG.nil ?_
    refine QG.then ?_
    refine CG.ret ?_
    refine QG.pass_ret ?_
    first | exact QG.rets [.int .u64 ((0 : Nat) : Int), .int .i64 5] rfl ⟨rfl, rfl, trivial⟩ () trivial rfl iM | exact QG.rets [.int .u64 ((0 : Nat) : Int), .int .i64 30] rfl ⟨rfl, rfl, trivial⟩ () trivial rfl iM | (rw [(read_may hs hal).1 (by rw [hrm]; simpa using hc)]; exact QG.rets [.int .u64 ((0 : Nat) : Int), .int .i64 90] rfl ⟨rfl, rfl, trivial⟩ () trivial rfl iM)
  · skip
    rw [show wrongE ad sz = 0 by unfold wrongE; rw [if_neg (fun q => q hs), if_neg (fun q => q hal)]]
    refine CG.region ?_
    refine OG.mv rfl rfl ?_
    refine OG.yield (Yield.as (Yield.neq rfl rfl) (v' := .bool false) rfl) rfl ?_
    refine OG.nil ?_
    refine QG.then ?_
    refine CG.cond_f rfl ?_
    refine CG.skip ?_
    refine QG.then ?_
    refine CG.seq ?_
    refine CG.seq ?_
    refine CG.region ?_
    refine OG.mv rfl rfl ?_
    refine OG.mv rfl rfl ?_
    refine OG.yield (Yield.conv (c := (ad : Int)) Tryz.underlying3 rfl rfl (w64 (by omega) (by omega))) rfl ?_
    refine OG.mv rfl rfl ?_
    refine OG.callo call75 rfl (iM) (rlow_spec W0 _ how) rfl ?_
    rintro ⟨⟩ -
    refine OG.callo call74 rfl (iM) (rmay_spec W0 _ (o := o) (b := b) (w := w) (k := k) (ts := ts) (a := (ad : Int)) (how := Go.bits .and .i64 how 7) hlow) rfl ?_
    rintro ⟨⟩ -
    generalize hrm : rmay o k (ad : Int) (Go.bits .and .i64 how 7) = rm
    refine OG.yield (Yield.not rfl) rfl ?_
    refine OG.nil ?_
    refine QG.then ?_
    refine CG.cond rfl (fun hc => ?_) (fun hc => ?_)
    · try replace hc := of_decide_eq_true hc
      refine CG.seq ?_
      refine CG.region ?_
      refine OG.sg rfl rfl ?_
      refine OG.sg rfl rfl ?_
      refine OG.nil ?_
      refine QG.then ?_
      refine CG.ret ?_
      refine QG.pass_ret ?_
      first | exact QG.rets [.int .u64 ((0 : Nat) : Int), .int .i64 5] rfl ⟨rfl, rfl, trivial⟩ () trivial rfl iM | exact QG.rets [.int .u64 ((0 : Nat) : Int), .int .i64 30] rfl ⟨rfl, rfl, trivial⟩ () trivial rfl iM | (rw [(read_may hs hal).1 (by rw [hrm]; simpa using hc)]; exact QG.rets [.int .u64 ((0 : Nat) : Int), .int .i64 90] rfl ⟨rfl, rfl, trivial⟩ () trivial rfl iM)
    · try replace hc := of_decide_eq_false hc
      have hm : rmay o k (ad : Int) (Go.bits .and .i64 how 7) = true := by rw [hrm]; simpa using hc
      obtain ⟨ha, hh0, x, hx, hx0, hmay⟩ := rmay_iff.1 hm
      have hro := (read_may hs hal).2 x ha hh0 hx hmay
      have hxl := (hK _ _ hx).2
      have hq : ad / 256 < 4096 := by omega
      obtain ⟨e, -⟩ := fnd_some hq hx
      obtain ⟨s', rfl⟩ : ∃ s' : Nat, sz = (s' : Int) := ⟨sz.toNat, by omega⟩
      have hsum : ad % 256 + s' ≤ 256 := F0sum (by omega) (by omega)
      have hbl : ((x.2.drop (ad % 256)).take s').length = s' := by rw [List.length_take, List.length_drop]; omega
      rw [Int.toNat_natCast] at hro
      rw [hro]
      refine CG.skip ?_
      refine QG.then ?_
      refine CG.seq ?_
      refine CG.ex (A := RS b w k (pvs o k) ts) eX rs_open ?_
      rintro ⟨za, zc, zl, zta, ztc⟩ hz
      refine CG.imp star_open ?_
      dsimp only [RSO, List.cons_append, List.nil_append] at hz ⊢
      obtain ⟨y, hy, y1, y2, y3⟩ := pv_at (z := ⟨za, zc, zl, zta, ztc⟩) hz hq hx
      dsimp only at hy
      have hil := (List.getElem?_eq_some_iff.1 hy).1
      refine CG.pure (fun w hw => SlR.elem_shape (W0 := W0) (f := PV.cells) (xs := zl) (i := (pvTo o k (ad / 256)).length) (SlR.of_osl (E := 61) (a := za) (c := zc) eX) PV.len (by decide) hil w hw) ?_
      rintro ⟨ol, oo, rfl⟩
      generalize (pvTo o k (ad / 256)).length = ii at *
      refine CG.draw (.look 0 0 (.look 1 0 (.look 2 0 (.look 3 0 (.look 4 1 (.look 5 1 (.look 6 1 (.look 7 1 (.eff1 8 false (.look 9 1 (.look 10 1 (.look 11 1 (.look 12 1 (.done)))))))))))))) [8] [] ([blk b [.pointer (some ⟨w, 0, none⟩), .int .i64 k, .slice (some ⟨ol, oo, none⟩) zl.length zc, .slice zta ts.length ztc] 109]) ([]) mixed (by kernel_rfl) (iM) (Imp.none _) ?_
      refine DG.look rfl rfl (Yield.move rfl) rfl ?_
      refine DG.look rfl rfl (Yield.nilCheck rfl) rfl ?_
      refine DG.look rfl rfl (Yield.fieldAddr fa109_2 rfl) rfl ?_
      refine DG.look rfl rfl (Yield.loadA ti49 rfl) rfl ?_
      refine DG.look rfl rfl (Yield.move rfl) rfl ?_
      refine DG.look rfl rfl (Yield.move rfl) rfl ?_
      refine DG.look rfl rfl (by first | exact Yield.conv Tryz.underlying3 rfl rfl (w64 (by omega) (by omega)) | exact Yield.conv Tryz.underlying3 rfl rfl rfl) rfl ?_
      refine DG.look rfl rfl (Yield.as (Yield.quo rfl rfl (by omega) (tdiv_pos (by omega) (by omega) (by omega))) (v' := .int .i64 ((ad / 256 : Nat) : Int)) (by congr 1)) rfl ?_
      refine DG.eff1 ?_
      refine Chg.callo rfl rfl call70 rfl (iM) (rfind_at W0 Fr (b := b) (w := w) (k := k) (ts := ts) (L := pvs o k) (z := ⟨some ⟨ol, oo, none⟩, zc, zl, zta, ztc⟩) hz (by omega) ((ad / 256 : Nat) : Int)) rfl (fun _ => iM) (fun _ => Imp.refl _) (fun _ => iM) ?_
      rintro ⟨⟩ -
      rw [e]
      refine DG.look rfl rfl (Yield.index_slice Tryz.underlying49 ti61 rfl rfl (by omega) (by omega)) rfl ?_
      refine DG.look rfl rfl (Yield.fieldAddr fa61_2 rfl) rfl ?_
      refine DG.look rfl rfl (Yield.load (v := .slice y.a y.b.length y.c) ti32 rfl (by rw [show oo + (ii : Int).toNat * 3 + 2 = oo + ii * 3 + 2 by omega]; exact (SlR.elem (f := PV.cells) (xs := zl) (i := ii) (SlR.of_osl (W0 := W0) (E := 61) (c := zc) eX) PV.len hy) 2 _ rfl)) rfl ?_
      refine DG.look rfl rfl (Yield.assign rfl) rfl ?_
      refine DG.done ?_
      refine QG.then ?_
      refine CG.seq ?_
      refine CG.region ?_
      refine OG.mv rfl rfl ?_
      refine OG.yield (by first | exact Yield.conv Tryz.underlying3 rfl rfl (w64 (by omega) (by omega)) | exact Yield.conv Tryz.underlying3 rfl rfl rfl) rfl ?_
      refine OG.yield (Yield.as (Yield.rem rfl rfl (by omega) (tmod_pos (by omega) (by omega))) (v' := .int .i64 ((ad % 256 : Nat) : Int)) (by congr 1)) rfl ?_
      refine OG.sg rfl rfl ?_
      refine OG.nil ?_
      refine QG.then ?_
      refine CG.seq ?_
      have hyS : (zl.map fun x => oby 5 x.a x.c x.b)[ii]? = some (oby 5 y.a y.c y.b) := by rw [List.getElem?_map, hy]; rfl
      obtain ⟨yp, ypm, ya, yc, yb⟩ := y
      dsimp only at y1 y2 y3 hyS ⊢
      subst y1 y2 y3
      have hS : ∀ {G : List HProp}, Imp G [Star (zl.map fun x => oby 5 x.a x.c x.b)] → SlR W0 G 1 ya x.2.length (bytesV x.2) := fun hi => SlR.imp (G' := [oby 5 ya yc x.2, Star ((zl.map fun x => oby 5 x.a x.c x.b).eraseIdx ii)]) (SlR.of_osl (E := 5) (a := ya) eX) (Imp.trans hi (star_take hyS))
      refine CG.pure (fun w hw => SlR.shape (hS iM) (fun q => by have := congrArg List.length q; rw [bytesV_length, hxl] at this; cases this) w hw) ?_
      rintro ⟨yb', yo, rfl⟩
      refine CG.pure (show ∀ w, Sat W0 _ w → x.2.length ≤ yc from fun w hw => (RdB.of_star (W0 := W0) (E := 5) (a := some ⟨yb', yo, none⟩) (c := yc) eX (List.mem_of_getElem? hyS) w hw).2) ?_
      intro hcap
      refine CG.region ?_
      refine OG.mv rfl rfl ?_
      refine OG.mv rfl rfl ?_
      refine OG.mv rfl rfl ?_
      refine OG.mv rfl rfl ?_
      refine OG.yield (Yield.add rfl rfl (w64 (by omega) (by omega))) rfl ?_
      refine OG.yield (Yield.as (Yield.slice_in Tryz.underlying32 ti5 rfl (Bound.some rfl) (Bound.some rfl) (by omega) (by omega) (by omega) (by omega)) (v' := .slice (some ⟨yb', yo + ad % 256, none⟩) ((x.2.drop (ad % 256)).take s').length (yc - ad % 256)) (by rw [hbl, Int.toNat_natCast, Nat.mul_one, show (((ad % 256 : Nat) : Int) + (s' : Int)).toNat - ad % 256 = s' by omega])) rfl ?_
      refine OG.callo call76 rfl (Imp.refl _) (Me.rget_spec W0 _ (b := yb') (o := yo + ad % 256) (bs := (x.2.drop (ad % 256)).take s') (by rw [hbl]; exact SlR.part (k := s') (hS iM) (i := ad % 256) (ys := bytesV ((x.2.drop (ad % 256)).take s')) (by rw [bytesV_drop, bytesV_take]) (by omega)) (by omega)) rfl ?_
      rintro ⟨⟩ -
      refine OG.sg rfl rfl ?_
      refine OG.sg rfl rfl ?_
      refine OG.nil ?_
      refine QG.then ?_
      refine CG.ret ?_
      exact QG.rets [.int .u64 ((leN ((x.2.drop (ad % 256)).take s') : Nat) : Int), .int .i64 0] rfl ⟨rfl, rfl, trivial⟩ () trivial rfl (rs_close ⟨some ⟨ol, oo, none⟩, zc, zl, zta, ztc⟩ hz)
end
end Go.Proofs.YtmlfcfbblfcpdaaGreat.Sp
/- The document's space: In. -/
namespace Go.Proofs.YtmlfcfbblfcpdaaGreat.Sp
open Go Go.Sl Go.RowKit Go.Proofs Go.Proofs.YtmlfcfbblfcpdaaGreat.T Go.Proofs.YtmlfcfbblfcpdaaGreat.Me Go.Proofs.YtmlfcfbblfcpdaaGreat.Pe Go.Proofs.YtmlfcfbblfcpdaaGreat.Pg
open Go.Proofs.YtmlfcfbblfcpdaaGreat.Fz (iv oiv)
set_option maxRecDepth 100000
theorem one_bit {p : Nat} {right : Int} (h : 1 ≤ p ∧ p ≤ 7) (hr : right = 1 ∨ right = 2) : (Go.bits .and .i64 (p : Int) right ≠ 0) ↔ (Go.bits .and .i64 (p : Int) right = right) := by
  rcases (show p = 1 ∨ p = 2 ∨ p = 3 ∨ p = 4 ∨ p = 5 ∨ p = 6 ∨ p = 7 by omega) with rfl | rfl | rfl | rfl | rfl | rfl | rfl <;> rcases hr with rfl | rfl <;> decide
theorem mayP_rmay {o : Ob} {k a : Nat} {right : Int} (hK : ObK o k) (hr : right = 1 ∨ right = 2) : rmay o k (a : Int) right = mayP (pmO o k) right a := by
  rw [Bool.eq_iff_iff, rmay_iff]
  constructor
  · rintro ⟨h1, h2, x, hx, h3, h4⟩
    rw [mayP_some (p := x.1) h1 (by unfold pmO; rw [hx]; rfl)]
    exact decide_eq_true ((one_bit (hK _ _ hx).1 hr).2 h4)
  · intro h
    by_cases h1 : a < 1048576
    · cases hx : o.vw k (a / 256) with
      | none => rw [mayP_none (by unfold pmO; rw [hx]; rfl)] at h; cases h
      | some x =>
        rw [mayP_some (p := x.1) h1 (by unfold pmO; rw [hx]; rfl)] at h
        have hx1 := (hK _ _ hx).1
        exact ⟨h1, by omega, x, rfl, by omega, (one_bit hx1 hr).1 (of_decide_eq_true h)⟩
    · rw [mayP_far (by omega)] at h; cases h
theorem bufI_snoc {o : Ob} {k ad i : Nat} : bufI o k ad (i + 1) (i + 1) = bufI o k ad i i ++ [byteO o k (ad + i)] := by
  unfold bufI
  rw [List.range_succ, List.map_append]
  congr 1
  · apply List.map_congr_left
    intro j hj
    have := List.mem_range.1 hj
    rw [if_pos (by omega), if_pos (by omega)]
  · simp
/-- An answer of bytes. -/
structure BZ where
  a : Option Addr
  c : Nat
  b : List UInt8
section
variable (W0 : World) (Fr : List HProp)
variable {o : Ob} {b w k : Nat} {ts : List Int}
set_option maxHeartbeats 1000000 in
theorem rin_spec (hK : ObK o k) {ad : Nat} (had : ad < 4294967296) (nI : Int) : Ctr Tryz.prog W0 35 [.pointer (some ⟨b, 0, none⟩), .int .u32 ad, .int .i64 nI] (RS b w k (pvs o k) ts :: Fr) (fun z : BZ => z.b = (inO o k ad nI).1) (fun z => .tuple #[.slice z.a z.b.length z.c, .int .i64 (inO o k ad nI).2]) (fun z => oby 5 z.a z.c z.b :: RS b w k (pvs o k) ts :: Fr) := by
  have hpl := pvs_len o k
  by_cases hg : nI < 0 ∨ 4096 < nI
  · have e : inO o k ad nI = ([], 2) := by unfold inO; rw [if_pos hg]
    rw [e]
    refine Ctr.of_body Tryz.func35 rfl Tryz.ntmps35 rfl ?_
    refine CG.seq ?_
    refine CG.region ?_
    refine OG.sg rfl rfl ?_
    refine OG.sg rfl rfl ?_
    refine OG.nil ?_
    refine QG.then ?_
    refine CG.seq ?_
    refine CG.seq ?_
    rcases (show nI < 0 ∨ (0 ≤ nI ∧ 4096 < nI) by omega) with hg1 | hg1
    · skip
      refine CG.region ?_
      refine OG.mv rfl rfl ?_
      refine OG.yield Yield.lssA rfl ?_
      refine OG.mv rfl rfl ?_
      refine OG.gn rfl rfl rfl rfl rfl ?_
      refine OG.gn rfl rfl rfl rfl rfl ?_
      refine OG.yield Yield.pickA rfl ?_
      refine OG.nil ?_
      refine QG.then ?_
      refine CG.cond_t rfl ?_
      refine CG.seq ?_
      refine CG.region ?_
      refine OG.sg rfl rfl ?_
      refine OG.sg rfl rfl ?_
      refine OG.nil ?_
      refine QG.then ?_
      refine CG.ret ?_
      refine QG.pass_ret ?_
      exact QG.rets [.slice none 0 0, .int .i64 2] rfl ⟨rfl, rfl, trivial⟩ (⟨none, 0, []⟩ : BZ) rfl rfl (oby_nil (E := 5))
    · skip
      refine CG.region ?_
      refine OG.mv rfl rfl ?_
      refine OG.yield Yield.lssA rfl ?_
      refine OG.mv rfl rfl ?_
      refine OG.gy rfl rfl rfl ?_
      refine OG.mv rfl rfl ?_
      refine OG.gy rfl rfl rfl ?_
      refine OG.yield Yield.gtrA rfl ?_
      refine OG.yield Yield.pickA rfl ?_
      refine OG.nil ?_
      refine QG.then ?_
      refine CG.cond_t rfl ?_
      refine CG.seq ?_
      refine CG.region ?_
      refine OG.sg rfl rfl ?_
      refine OG.sg rfl rfl ?_
      refine OG.nil ?_
      refine QG.then ?_
      refine CG.ret ?_
      refine QG.pass_ret ?_
      exact QG.rets [.slice none 0 0, .int .i64 2] rfl ⟨rfl, rfl, trivial⟩ (⟨none, 0, []⟩ : BZ) rfl rfl (oby_nil (E := 5))
  · obtain ⟨nn, rfl⟩ := Int.eq_ofNat_of_zero_le (show 0 ≤ nI by omega)
    have hnn : nn ≤ 4096 := by omega
    refine Ctr.of_body Tryz.func35 rfl Tryz.ntmps35 rfl ?_
    refine CG.seq ?_
    refine CG.region ?_
    refine OG.sg rfl rfl ?_
    refine OG.sg rfl rfl ?_
    refine OG.nil ?_
    refine QG.then ?_
    refine CG.seq ?_
    refine CG.seq ?_
    refine CG.region ?_
    refine OG.mv rfl rfl ?_
    refine OG.yield Yield.lssA rfl ?_
    refine OG.mv rfl rfl ?_
    refine OG.gy rfl rfl rfl ?_
    refine OG.mv rfl rfl ?_
    refine OG.gy rfl rfl rfl ?_
    refine OG.yield Yield.gtrA rfl ?_
    refine OG.yield Yield.pickA rfl ?_
    refine OG.nil ?_
    refine QG.then ?_
    refine CG.cond_f rfl ?_
    refine CG.skip ?_
    refine QG.then ?_
    refine CG.seq ?_
    refine CG.region ?_
    refine OG.sg rfl rfl ?_
    refine OG.nil ?_
    refine QG.then ?_
    refine CG.seq ?_
    refine CG.seq ?_
    refine CG.region ?_
    refine OG.sg rfl rfl ?_
    refine OG.nil ?_
    refine QG.then ?_
    refine CG.block ?_
    refine CG.loop (fun y : Nat × Option Addr × Nat => y.1 ≤ nn ∧ ∀ i, i < y.1 → mayP (pmO o k) 1 (ad + i) = true) (fun y => [(0, .pointer (some ⟨b, 0, none⟩)), (1, .int .u32 ad), (2, .int .i64 nn), (8, .slice y.2.1 (bufI o k ad y.1 y.1).length y.2.2), (9, .int .i64 y.1)]) (fun y => oby 5 y.2.1 y.2.2 (bufI o k ad y.1 y.1) :: RS b w k (pvs o k) ts :: Fr) (fun y => nn - y.1) (0, none, 0) ⟨Nat.zero_le _, fun i h => absurd h (Nat.not_lt_zero _)⟩ eS (oby_nil (E := 5)) ?_
    rintro ⟨i, ya', yc'⟩ ⟨hi, hal⟩
    dsimp only at hi hal ⊢
    refine CG.seq ?_
    refine CG.seq ?_
    refine CG.region ?_
    refine OG.mv rfl rfl ?_
    refine OG.mv rfl rfl ?_
    refine OG.yield Yield.lssA rfl ?_
    refine OG.nil ?_
    refine QG.then ?_
    refine CG.cond rfl (fun hc => ?_) (fun hc => ?_)
    · try replace hc := of_decide_eq_true hc
      refine CG.skip ?_
      refine QG.then ?_
      refine CG.seq ?_
      refine CG.block ?_
      refine CG.seq ?_
      refine CG.region ?_
      refine OG.mv rfl rfl ?_
      refine OG.yield (Yield.conv (c := (ad : Int)) Tryz.underlying3 rfl rfl (w64 (by omega) (by omega))) rfl ?_
      refine OG.mv rfl rfl ?_
      refine OG.yield (Yield.add (c := ((ad + i : Nat) : Int)) rfl rfl (by rw [w64 (by omega) (by omega)]; omega)) rfl ?_
      refine OG.sg rfl rfl ?_
      refine OG.nil ?_
      refine QG.then ?_
      refine CG.seq ?_
      refine CG.seq ?_
      refine CG.region ?_
      refine OG.mv rfl rfl ?_
      refine OG.mv rfl rfl ?_
      refine OG.callo call74 rfl (iM) (rmay_spec W0 _ (o := o) (b := b) (w := w) (k := k) (ts := ts) (a := ((ad + i : Nat) : Int)) (how := 1) (by decide)) rfl ?_
      rintro ⟨⟩ -
      rw [mayP_rmay hK (.inl rfl)]
      generalize hrm : mayP (pmO o k) 1 (ad + i) = rm
      refine OG.yield (Yield.not rfl) rfl ?_
      refine OG.nil ?_
      refine QG.then ?_
      refine CG.cond rfl (fun hc => ?_) (fun hc => ?_)
      · try replace hc := of_decide_eq_true hc
        refine CG.seq ?_
        refine CG.region ?_
        refine OG.sg rfl rfl ?_
        refine OG.sg rfl rfl ?_
        refine OG.nil ?_
        refine QG.then ?_
        refine CG.ret ?_
        refine QG.pass_ret ?_
        refine QG.block_ret ?_
        refine QG.pass_ret ?_
        refine QG.pass_ret ?_
        refine QG.block_ret ?_
        refine QG.pass_ret ?_
        have hz : i < nn := by omega
        rw [show inO o k ad (nn : Int) = ([], 90) by unfold inO; rw [if_neg hg, Int.toNat_natCast, if_neg (by rw [mayA_f hz (by rw [hrm]; simpa using hc)]; decide)]]
        exact QG.rets [.slice none 0 0, .int .i64 90] rfl ⟨rfl, rfl, trivial⟩ (⟨none, 0, []⟩ : BZ) rfl rfl (Imp.trans (oby_nil (E := 5)) iM)
      · try replace hc := of_decide_eq_false hc
        have hm : mayP (pmO o k) 1 (ad + i) = true := by rw [hrm]; simpa using hc
        have hm2 := hm
        rw [← mayP_rmay hK (.inl rfl)] at hm2
        obtain ⟨ha, hh0, x, hx, hx0, hmay⟩ := rmay_iff.1 hm2
        have hxl := (hK _ _ hx).2
        have hq : (ad + i) / 256 < 4096 := by omega
        obtain ⟨e, -⟩ := fnd_some hq hx
        have hbyte : x.2[(ad + i) % 256]? = some (byteO o k (ad + i)) := by
          unfold byteO; rw [hx]
          have : (ad + i) % 256 < x.2.length := by omega
          simp [this]
        refine CG.skip ?_
        refine QG.then ?_
        refine CG.ex (A := RS b w k (pvs o k) ts) eX rs_open ?_
        rintro ⟨za, zc, zl, zta, ztc⟩ hz
        refine CG.imp star_open ?_
        dsimp only [RSO, List.cons_append, List.nil_append] at hz ⊢
        obtain ⟨y, hy, y1, y2, y3⟩ := pv_at (z := ⟨za, zc, zl, zta, ztc⟩) hz hq hx
        dsimp only at hy
        have hil := (List.getElem?_eq_some_iff.1 hy).1
        refine CG.pure (fun w hw => SlR.elem_shape (W0 := W0) (f := PV.cells) (xs := zl) (i := (pvTo o k ((ad + i) / 256)).length) (SlR.of_osl (E := 61) (a := za) (c := zc) eX) PV.len (by decide) hil w hw) ?_
        rintro ⟨ol, oo, rfl⟩
        generalize (pvTo o k ((ad + i) / 256)).length = ii at *
        have hyS : (zl.map fun x => oby 5 x.a x.c x.b)[ii]? = some (oby 5 y.a y.c y.b) := by rw [List.getElem?_map, hy]; rfl
        obtain ⟨yp, ypm, ya, yc, yb⟩ := y
        dsimp only at y1 y2 y3 hyS ⊢
        subst y1 y2 y3
        have hS : ∀ {G : List HProp}, Imp G [Star (zl.map fun x => oby 5 x.a x.c x.b)] → SlR W0 G 1 ya x.2.length (bytesV x.2) := fun hi => SlR.imp (G' := [oby 5 ya yc x.2, Star ((zl.map fun x => oby 5 x.a x.c x.b).eraseIdx ii)]) (SlR.of_osl (E := 5) (a := ya) eX) (Imp.trans hi (star_take hyS))
        refine CG.pure (fun w hw => SlR.shape (hS iM) (fun q => by have := congrArg List.length q; rw [bytesV_length, hxl] at this; cases this) w hw) ?_
        rintro ⟨yb', yo, rfl⟩
        refine CG.draw (.look 0 0 (.look 1 0 (.look 2 0 (.look 3 0 (.look 4 0 (.look 5 1 (.look 6 1 (.look 7 1 (.look 12 0 (.look 13 0 (.eff1 8 false (.look 9 1 (.look 10 1 (.look 11 1 (.look 14 1 (.look 15 1 (.eff1 16 false (.eff1 17 false (.look 18 1 (.done)))))))))))))))))))) [8, 16, 17] [] ([blk b [.pointer (some ⟨w, 0, none⟩), .int .i64 k, .slice (some ⟨ol, oo, none⟩) zl.length zc, .slice zta ts.length ztc] 109]) ([]) mixed (by kernel_rfl) (iM) (Imp.none _) ?_
        refine DG.look rfl rfl (Yield.move rfl) rfl ?_
        refine DG.look rfl rfl (Yield.move rfl) rfl ?_
        refine DG.look rfl rfl (Yield.nilCheck rfl) rfl ?_
        refine DG.look rfl rfl (Yield.fieldAddr fa109_2 rfl) rfl ?_
        refine DG.look rfl rfl (Yield.loadA ti49 rfl) rfl ?_
        refine DG.look rfl rfl (Yield.move rfl) rfl ?_
        refine DG.look rfl rfl (Yield.move rfl) rfl ?_
        refine DG.look rfl rfl (Yield.as (Yield.quo rfl rfl (by omega) (tdiv_pos (by omega) (by omega) (by omega))) (v' := .int .i64 (((ad + i) / 256 : Nat) : Int)) (by congr 1)) rfl ?_
        refine DG.look rfl rfl (Yield.move rfl) rfl ?_
        refine DG.look rfl rfl (Yield.as (Yield.rem rfl rfl (by omega) (tmod_pos (by omega) (by omega))) (v' := .int .i64 (((ad + i) % 256 : Nat) : Int)) (by congr 1)) rfl ?_
        refine DG.eff1 ?_
        refine Chg.callo rfl rfl call70 rfl (iM) (rfind_at W0 (oby 5 ya' yc' (bufI o k ad i i) :: Fr) (b := b) (w := w) (k := k) (ts := ts) (L := pvs o k) (z := ⟨some ⟨ol, oo, none⟩, zc, zl, zta, ztc⟩) hz (by omega) (((ad + i) / 256 : Nat) : Int)) rfl (fun _ => iM) (fun _ => Imp.refl _) (fun _ => iM) ?_
        rintro ⟨⟩ -
        rw [e]
        refine DG.look rfl rfl (Yield.index_slice Tryz.underlying49 ti61 rfl rfl (by omega) (by omega)) rfl ?_
        refine DG.look rfl rfl (Yield.fieldAddr fa61_2 rfl) rfl ?_
        refine DG.look rfl rfl (Yield.load (v := .slice (some ⟨yb', yo, none⟩) x.2.length yc) ti32 rfl (by rw [show oo + (ii : Int).toNat * 3 + 2 = oo + ii * 3 + 2 by omega]; exact (SlR.elem (f := PV.cells) (xs := zl) (i := ii) (SlR.of_osl (W0 := W0) (E := 61) (c := zc) eX) PV.len hy) 2 _ rfl)) rfl ?_
        refine DG.look rfl rfl (Yield.index_slice Tryz.underlying32 ti5 rfl rfl (by omega) (by omega)) rfl ?_
        refine DG.look rfl rfl (Yield.load (v := byteV (byteO o k (ad + i))) ti5 rfl (by rw [show yo + (((ad + i) % 256 : Nat) : Int).toNat * 1 = yo + (ad + i) % 256 * 1 by omega]; exact SlR.byte (hS iM) hbyte)) rfl ?_
        refine DG.eff1 ?_
        refine Chg.eff rfl rfl (Eff.lit1 Tryz.underlying32 ti5 rfl rfl rfl) rfl (fun _ => iM) (fun _ => Imp.refl _) (fun _ => iM) ?_
        rintro b46 -
        refine DG.eff1 ?_
        refine Chg.eff rfl rfl (Eff.appendB (bs := bufI o k ad i i) (ys := [byteO o k (ad + i)]) rfl rfl rfl Tryz.underlying32 Tryz.underlying32 ti5 (by decide) fC (SlR.of_osl_eq (E := 5) (a := some ⟨b46, 0, none⟩) eX rfl rfl) (by rw [bufI_len]; simp only [List.length_cons, List.length_nil]; omega)) rfl (fun _ => iM) (fun _ => Imp.refl _) (fun _ => iM) ?_
        rintro ⟨a47, c47⟩ -
        refine DG.look rfl rfl (Yield.assign rfl) rfl ?_
        refine DG.done ?_
        refine QG.block_normal ?_
        refine QG.then ?_
        refine CG.region ?_
        refine OG.mv rfl rfl ?_
        refine OG.yield (Yield.add rfl rfl (w64 (by omega) (by omega))) rfl ?_
        refine OG.sg rfl rfl ?_
        refine OG.nil ?_
        refine QG.next (i + 1, a47, c47) ⟨by simp only; omega, fun j hj => ?_⟩ (by simp only; omega) (by rw [bufI_snoc]; exact eS) (by rw [bufI_snoc]; exact Imp.trans (B := RSO b w k ts ⟨some ⟨ol, oo, none⟩, zc, zl, zta, ztc⟩ ++ (oby 5 a47 c47 (bufI o k ad i i ++ [byteO o k (ad + i)]) :: Fr)) iM (Imp.trans (rs_close _ hz) iM))
        by_cases hji : j < i
        · exact hal j hji
        · obtain rfl : j = i := by simp only at hj; omega
          exact hm
    · try replace hc := of_decide_eq_false hc
      refine CG.exit ?_
      refine QG.pass_exit ?_
      refine QG.pass_exit ?_
      refine QG.block_exit ?_
      refine QG.then ?_
      refine CG.seq ?_
      refine CG.region ?_
      refine OG.mv rfl rfl ?_
      refine OG.sg rfl rfl ?_
      refine OG.sg rfl rfl ?_
      refine OG.nil ?_
      refine QG.then ?_
      refine CG.ret ?_
      obtain rfl : i = nn := by omega
      rw [show inO o k ad (i : Int) = (bufI o k ad i i, 0) by unfold inO; rw [if_neg hg, Int.toNat_natCast, if_pos (mayA_t hal)]]
      exact QG.rets [.slice ya' (bufI o k ad i i).length yc', .int .i64 0] rfl ⟨rfl, rfl, trivial⟩ (⟨ya', yc', bufI o k ad i i⟩ : BZ) rfl rfl iM
end
end Go.Proofs.YtmlfcfbblfcpdaaGreat.Sp
/- The document's space: Out. -/
namespace Go.Proofs.YtmlfcfbblfcpdaaGreat.Sp
open Go Go.Sl Go.RowKit Go.Proofs Go.Proofs.YtmlfcfbblfcpdaaGreat.T Go.Proofs.YtmlfcfbblfcpdaaGreat.Me Go.Proofs.YtmlfcfbblfcpdaaGreat.Pe Go.Proofs.YtmlfcfbblfcpdaaGreat.Pg
open Go.Proofs.YtmlfcfbblfcpdaaGreat.Fz (iv oiv)
set_option maxRecDepth 100000
theorem outO_vw {o : Ob} {k ad j q : Nat} {b : List UInt8} {x : Nat × List UInt8} (hx : o.vw k q = some x) : (outO o k ad b j).vw k q = some (x.1, putP ad b j q x.2) := by
  unfold outO; dsimp only; rw [hx]; simp
theorem outO_put {o : Ob} {k ad j : Nat} {b : List UInt8} {x : Nat × List UInt8} {c : UInt8} (hx : o.vw k ((ad + j) / 256) = some x) (hl : x.2.length = 256) (hc : b[j]? = some c) : putO (outO o k ad b j) k (ad + j) c = outO o k ad b (j + 1) := by
  have hdm := Nat.div_add_mod (ad + j) 256
  unfold putO
  rw [outO_vw hx]
  have e : outO o k ad b (j + 1) = ⟨(outO o k ad b (j + 1)).vw, o.ts, o.fr⟩ := rfl
  rw [e]
  show (⟨_, o.ts, o.fr⟩ : Ob) = _
  congr 1
  funext k' q
  by_cases h : k' = k ∧ q = (ad + j) / 256
  · obtain ⟨rfl, rfl⟩ := h
    rw [up2_at, outO_vw hx]
    simp only [Option.map_some, Option.some.injEq, Prod.mk.injEq, true_and]
    apply List.ext_getElem?; intro i
    rw [List.getElem?_set]
    by_cases hi : i < x.2.length
    · rw [putP_get hi, putP_get hi, putP_len]
      by_cases h2 : (ad + j) % 256 = i
      · rw [if_pos h2, if_pos (by omega), if_pos (by omega), show (ad + j) / 256 * 256 + i - ad = j by omega, hc]; rfl
      · rw [if_neg h2]
        by_cases h3 : i < 256 ∧ ad ≤ (ad + j) / 256 * 256 + i ∧ (ad + j) / 256 * 256 + i < ad + j
        · rw [if_pos h3, if_pos (by omega)]
        · rw [if_neg h3, if_neg (by omega)]
    · rw [if_neg (by omega), putP_out (by omega), putP_out (by omega)]
  · rw [up2_ne (by omega)]
    show (o.vw k' q).map _ = (o.vw k' q).map _
    cases hv : o.vw k' q with
    | none => rfl
    | some y =>
      simp only [Option.map_some, Option.some.injEq, Prod.mk.injEq, true_and]
      by_cases hk : k' = k
      · rw [if_pos hk, if_pos hk]
        apply List.ext_getElem?; intro i
        by_cases hi : i < y.2.length
        · rw [putP_get hi, putP_get hi]
          by_cases hq : i < 256 ∧ ad ≤ q * 256 + i ∧ q * 256 + i < ad + j
          · rw [if_pos hq, if_pos (by omega)]
          · rw [if_neg hq, if_neg (fun hq2 => h ⟨hk, by omega⟩)]
        · rw [putP_out (by omega), putP_out (by omega)]
      · rw [if_neg hk, if_neg hk]
section
variable (W0 : World) (Fr : List HProp)
variable {o : Ob} {b w k : Nat} {ts : List Int}
set_option maxHeartbeats 1000000 in
theorem rout_spec (hK : ObK o k) {ad : Nat} (had : ad < 4294967296) {ba : Option Addr} {bc : Nat} {bs : List UInt8} (hr : RdB W0 Fr ba bc bs) : Ctr Tryz.prog W0 36 [.pointer (some ⟨b, 0, none⟩), .int .u32 ad, .slice ba bs.length bc] (RS b w k (pvs o k) ts :: Fr) (fun _ : Unit => True) (fun _ => .int .i64 (outR o k ad bs).1) (fun _ => RS b w k (pvs (outR o k ad bs).2 k) ts :: Fr) := by
  by_cases hg : 4096 < bs.length
  · have e : outR o k ad bs = (2, o) := by unfold outR; rw [if_pos hg]
    rw [e]
    refine Ctr.of_body Tryz.func36 rfl Tryz.ntmps36 rfl ?_
    refine CG.seq ?_
    refine CG.region ?_
    refine OG.sg rfl rfl ?_
    refine OG.nil ?_
    refine QG.then ?_
    refine CG.seq ?_
    refine CG.seq ?_
    refine CG.region ?_
    refine OG.mv rfl rfl ?_
    refine OG.yield (Yield.len_slice Tryz.underlying32 rfl rfl) rfl ?_
    refine OG.yield Yield.gtrA rfl ?_
    refine OG.nil ?_
    refine QG.then ?_
    refine CG.cond_t rfl ?_
    refine CG.seq ?_
    refine CG.region ?_
    refine OG.sg rfl rfl ?_
    refine OG.nil ?_
    refine QG.then ?_
    refine CG.ret ?_
    refine QG.pass_ret ?_
    exact QG.ret1 rfl rfl () trivial rfl iM
  · have hnn : bs.length ≤ 4096 := by omega
    refine Ctr.of_body Tryz.func36 rfl Tryz.ntmps36 rfl ?_
    refine CG.seq ?_
    refine CG.region ?_
    refine OG.sg rfl rfl ?_
    refine OG.nil ?_
    refine QG.then ?_
    refine CG.seq ?_
    refine CG.seq ?_
    refine CG.region ?_
    refine OG.mv rfl rfl ?_
    refine OG.yield (Yield.len_slice Tryz.underlying32 rfl rfl) rfl ?_
    refine OG.yield Yield.gtrA rfl ?_
    refine OG.nil ?_
    refine QG.then ?_
    refine CG.cond_f rfl ?_
    refine CG.skip ?_
    refine QG.then ?_
    refine CG.seq ?_
    refine CG.seq ?_
    refine CG.region ?_
    refine OG.sg rfl rfl ?_
    refine OG.nil ?_
    refine QG.then ?_
    refine CG.block ?_
    refine CG.loop (fun i : Nat => i ≤ bs.length ∧ ∀ j, j < i → mayP (pmO o k) 2 (ad + j) = true) (fun i => [(0, .pointer (some ⟨b, 0, none⟩)), (1, .int .u32 ad), (2, .slice ba bs.length bc), (7, .int .i64 i)]) (fun _ => RS b w k (pvs o k) ts :: Fr) (fun i => bs.length - i) 0 ⟨Nat.zero_le _, fun i h => absurd h (Nat.not_lt_zero _)⟩ eS (Imp.refl _) ?_
    rintro i ⟨hi, hal⟩
    refine CG.seq ?_
    refine CG.seq ?_
    refine CG.region ?_
    refine OG.mv rfl rfl ?_
    refine OG.mv rfl rfl ?_
    refine OG.yield (Yield.len_slice Tryz.underlying32 rfl rfl) rfl ?_
    refine OG.yield Yield.lssA rfl ?_
    refine OG.nil ?_
    refine QG.then ?_
    refine CG.cond rfl (fun hc => ?_) (fun hc => ?_)
    · try replace hc := of_decide_eq_true hc
      refine CG.skip ?_
      refine QG.then ?_
      refine CG.seq ?_
      refine CG.block ?_
      refine CG.seq ?_
      refine CG.region ?_
      refine OG.mv rfl rfl ?_
      refine OG.mv rfl rfl ?_
      refine OG.yield (Yield.conv (c := (ad : Int)) Tryz.underlying3 rfl rfl (w64 (by omega) (by omega))) rfl ?_
      refine OG.mv rfl rfl ?_
      refine OG.yield (Yield.add (c := ((ad + i : Nat) : Int)) rfl rfl (by rw [w64 (by omega) (by omega)]; omega)) rfl ?_
      refine OG.callo call74 rfl (iM) (rmay_spec W0 _ (o := o) (b := b) (w := w) (k := k) (ts := ts) (a := ((ad + i : Nat) : Int)) (how := 2) (by decide)) rfl ?_
      rintro ⟨⟩ -
      rw [mayP_rmay hK (.inr rfl)]
      generalize hrm : mayP (pmO o k) 2 (ad + i) = rm
      refine OG.yield (Yield.not rfl) rfl ?_
      refine OG.nil ?_
      refine QG.then ?_
      refine CG.cond rfl (fun hc => ?_) (fun hc => ?_)
      · try replace hc := of_decide_eq_true hc
        refine CG.seq ?_
        refine CG.region ?_
        refine OG.sg rfl rfl ?_
        refine OG.nil ?_
        refine QG.then ?_
        refine CG.ret ?_
        refine QG.block_ret ?_
        refine QG.pass_ret ?_
        refine QG.pass_ret ?_
        refine QG.block_ret ?_
        refine QG.pass_ret ?_
        have hz : i < bs.length := by omega
        rw [show outR o k ad bs = (90, o) by unfold outR; rw [if_neg hg, if_neg (by rw [mayA_f hz (by rw [hrm]; simpa using hc)]; decide)]]
        exact QG.ret1 rfl rfl () trivial rfl iM
      · try replace hc := of_decide_eq_false hc
        have hrt : rm = true := by simpa using hc
        refine CG.skip ?_
        refine QG.block_normal ?_
        refine QG.then ?_
        refine CG.region ?_
        refine OG.mv rfl rfl ?_
        refine OG.yield (Yield.add rfl rfl (w64 (by omega) (by omega))) rfl ?_
        refine OG.sg rfl rfl ?_
        refine OG.nil ?_
        refine QG.next (i + 1) ⟨by omega, fun j hj => ?_⟩ (by first | omega | (simp only; omega)) eS iM
        by_cases hji : j < i
        · exact hal j hji
        · obtain rfl : j = i := by omega
          rw [hrm]; exact hrt
    · try replace hc := of_decide_eq_false hc
      obtain rfl : i = bs.length := by omega
      have hall : ∀ j, j < bs.length → ∃ x, o.vw k ((ad + j) / 256) = some x ∧ x.2.length = 256 ∧ ad + j < 1048576 := fun j hj => by
        have := hal j hj
        rw [← mayP_rmay hK (.inr rfl)] at this
        obtain ⟨h1, -, x, hx, -, -⟩ := rmay_iff.1 this
        exact ⟨x, hx, (hK _ _ hx).2, h1⟩
      rw [show outR o k ad bs = (0, outO o k ad bs bs.length) by unfold outR; rw [if_neg hg, if_pos (mayA_t hal)]]
      refine CG.exit ?_
      refine QG.pass_exit ?_
      refine QG.pass_exit ?_
      refine QG.block_exit ?_
      refine QG.then ?_
      refine CG.seq ?_
      refine CG.seq ?_
      refine CG.region ?_
      refine OG.sg rfl rfl ?_
      refine OG.nil ?_
      refine QG.then ?_
      refine CG.block ?_
      refine CG.loop (fun i : Nat => i ≤ bs.length) (fun i => [(0, .pointer (some ⟨b, 0, none⟩)), (1, .int .u32 ad), (2, .slice ba bs.length bc), (8, .int .i64 i)]) (fun i => RS b w k (pvs (outO o k ad bs i) k) ts :: Fr) (fun i => bs.length - i) 0 (Nat.zero_le _) eS (by rw [outO_zero]; exact Imp.refl _) ?_
      intro j hj
      refine CG.seq ?_
      refine CG.seq ?_
      refine CG.region ?_
      refine OG.mv rfl rfl ?_
      refine OG.mv rfl rfl ?_
      refine OG.yield (Yield.len_slice Tryz.underlying32 rfl rfl) rfl ?_
      refine OG.yield Yield.lssA rfl ?_
      refine OG.nil ?_
      refine QG.then ?_
      refine CG.cond rfl (fun hc => ?_) (fun hc => ?_)
      · try replace hc := of_decide_eq_true hc
        obtain ⟨cb, hcb⟩ : ∃ cb, bs[j]? = some cb := ⟨_, List.getElem?_eq_getElem (by omega)⟩
        obtain ⟨x, hx, hxl, hlt⟩ := hall j (by omega)
        refine CG.pure (fun w hw => SlR.shape (hr.slR.imp (Imp.drop (A := RS b _ k (pvs (outO o k ad bs j) k) ts))) (fun q => by have := congrArg List.length q; rw [bytesV_length] at this; simp only [List.length_nil] at this; omega) w hw) ?_
        rintro ⟨bb, bo, rfl⟩
        refine CG.skip ?_
        refine QG.then ?_
        refine CG.seq ?_
        refine CG.block ?_
        refine CG.region ?_
        refine OG.mv rfl rfl ?_
        refine OG.mv rfl rfl ?_
        refine OG.yield (Yield.conv (c := (ad : Int)) Tryz.underlying3 rfl rfl (w64 (by omega) (by omega))) rfl ?_
        refine OG.mv rfl rfl ?_
        refine OG.yield (Yield.add (c := ((ad + j : Nat) : Int)) rfl rfl (by rw [w64 (by omega) (by omega)]; omega)) rfl ?_
        refine OG.mv rfl rfl ?_
        refine OG.mv rfl rfl ?_
        refine OG.yield (Yield.index_slice Tryz.underlying32 ti5 rfl rfl (by omega) (by omega)) rfl ?_
        refine OG.yield (Yield.load (v := byteV cb) ti5 rfl (by rw [show bo + (j : Int).toNat * 1 = bo + j * 1 by omega]; exact SlR.byte (hr.slR.imp iM) hcb)) rfl ?_
        refine OG.callo call79 rfl (iM) (rput_spec W0 _ (o := outO o k ad bs j) (b := b) (w := w) (k := k) (ts := ts) (a := ad + j) (c := cb) hlt (outO_vw hx) (by rw [putP_len]; exact hxl)) rfl ?_
        rintro ⟨⟩ -
        rw [outO_put hx hxl hcb]
        refine OG.nil ?_
        refine QG.block_normal ?_
        refine QG.then ?_
        refine CG.region ?_
        refine OG.mv rfl rfl ?_
        refine OG.yield (Yield.add rfl rfl (w64 (by omega) (by omega))) rfl ?_
        refine OG.sg rfl rfl ?_
        refine OG.nil ?_
        exact QG.next (j + 1) (by omega) (by first | omega | (simp only; omega)) eS iM
      · try replace hc := of_decide_eq_false hc
        refine CG.exit ?_
        refine QG.pass_exit ?_
        refine QG.pass_exit ?_
        refine QG.block_exit ?_
        refine QG.then ?_
        refine CG.seq ?_
        refine CG.region ?_
        refine OG.sg rfl rfl ?_
        refine OG.nil ?_
        refine QG.then ?_
        refine CG.ret ?_
        obtain rfl : j = bs.length := by omega
        exact QG.ret1 rfl rfl () trivial rfl iM
end
end Go.Proofs.YtmlfcfbblfcpdaaGreat.Sp
