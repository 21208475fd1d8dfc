/- PortsOrder: what comes out of a queue is what went in, in order, without loss: the law returns true and changes nothing that was there. -/
import Derived.Test.YtjigjbcdopmeeaaPfull
namespace Go.Proofs.Ytjigjbcdopmeeaa.Po
open Go Go.Sl Go.RowKit Go.Proofs Go.Proofs.Ytjigjbcdopmeeaa.T
set_option linter.unusedVariables false
set_option linter.unusedSimpArgs false
set_option maxRecDepth 100000
theorem oend_snoc (a : Option Addr) (c : Nat) (ms : List Msg) (m : Msg) : oend ⟨a, c, ms ++ [m]⟩ = osl 49 1 a c (ms.length + 1) (ms.map Msg.cell ++ [m.cell]) := by unfold oend; rw [List.length_append, List.map_append]; rfl
theorem oend_app (a : Option Addr) (c : Nat) (ms ns : List Msg) : oend ⟨a, c, ms ++ ns⟩ = osl 49 1 a c (ms.length + ns.length) (ms.map Msg.cell ++ ns.map Msg.cell) := by unfold oend; rw [List.length_append, List.map_append]
section
variable (W0 : World) (Fr : List HProp)
theorem sameM_spec {x y : End} (h1 : SlR W0 Fr 1 x.a x.ms.length (x.ms.map Msg.cell)) (h2 : SlR W0 Fr 1 y.a y.ms.length (y.ms.map Msg.cell)) (hm1 : ∀ m ∈ x.ms, RdB W0 Fr m.a m.c m.b) (hm2 : ∀ m ∈ y.ms, RdB W0 Fr m.a m.c m.b) (he : x.bs = y.bs) (hb : x.ms.length < 2 ^ 60) :
    Ctr Try.prog W0 33 [x.cell, y.cell] Fr (fun _ : Unit => True) (fun _ => .bool true) (fun _ => Fr) := by
  have hl : x.ms.length = y.ms.length := by have := congrArg List.length he; simpa [End.bs] using this
  obtain ⟨xa, xc, xs⟩ := x
  obtain ⟨ya, yc, ys⟩ := y
  unfold End.cell
  dsimp only at h1 h2 hm1 hm2 hb hl ⊢
  refine Ctr.of_body Try.func33 rfl Try.ntmps33 rfl ?_
  refine CG.seq ?_
  refine CG.region ?_
  refine OG.yield (Yield.assign rfl) rfl ?_
  refine OG.nil ?_
  refine QG.then ?_
  refine CG.seq ?_
  refine CG.seq ?_
  refine CG.region ?_
  refine OG.yield (Yield.move rfl) rfl ?_
  refine OG.yield (Yield.len_slice Try.underlying65 rfl rfl) rfl ?_
  refine OG.yield (Yield.move rfl) rfl ?_
  refine OG.yield (Yield.len_slice Try.underlying65 rfl rfl) rfl ?_
  refine OG.yield (by first | exact Yield.as (Yield.neq rfl rfl) (bT (by omega)) | exact Yield.as (Yield.neq rfl rfl) (bF (by omega)) | exact Yield.neq rfl rfl) rfl ?_
  refine OG.nil ?_
  refine QG.then ?_
  refine CG.cond_f rfl ?_
  refine CG.skip ?_
  refine QG.then ?_
  refine CG.seq ?_
  refine CG.seq ?_
  refine CG.region ?_
  refine OG.yield (Yield.assign rfl) rfl ?_
  refine OG.nil ?_
  refine QG.then ?_
  refine CG.block ?_
  refine CG.loop (fun i : Nat => i ≤ xs.length) (fun i => [(0, .slice xa xs.length xc), (1, .slice ya ys.length yc), (5, .int .i64 i)]) (fun _ => Fr) (fun i => xs.length - i) 0 (Nat.zero_le _) (by repeat (first | exact Env.sub_nil _ | refine Env.sub_cons rfl ?_)) (Imp.refl _) ?_
  intro i hi
  refine CG.seq ?_
  refine CG.seq ?_
  refine CG.region ?_
  refine OG.yield (Yield.move rfl) rfl ?_
  refine OG.yield (Yield.move rfl) rfl ?_
  refine OG.yield (Yield.len_slice Try.underlying65 rfl rfl) rfl ?_
  refine OG.yield (by first | exact Yield.as (Yield.lss rfl rfl) (bT (by omega)) | exact Yield.as (Yield.lss rfl rfl) (bF (by omega)) | exact Yield.lss rfl rfl) rfl ?_
  refine OG.nil ?_
  refine QG.then ?_
  refine CG.cond rfl (fun hc => ?_) (fun hc => ?_)
  · try replace hc := of_decide_eq_true hc
    have hi1 : i < xs.length := by omega
    have hi2 : i < ys.length := by omega
    have hg1 : xs[i]? = some xs[i] := by simp [hi1]
    have hg2 : ys[i]? = some ys[i] := by simp [hi2]
    have hr1 := hm1 xs[i] (List.getElem_mem hi1)
    have hr2 := hm2 ys[i] (List.getElem_mem hi2)
    have hbb : xs[i].b = ys[i].b := by
      have h := congrArg (fun l => l[i]?) he
      simp only [End.bs, List.getElem?_map, hg1, hg2, Option.map_some, Option.some.injEq] at h
      exact h
    generalize xs[i] = mx at hg1 hr1 hbb
    generalize ys[i] = my at hg2 hr2 hbb
    refine CG.pure (fun w hw => SlR.shape h1 (by intro h; have := congrArg List.length h; simp only [List.length_map, List.length_nil] at this; omega) w hw) ?_
    rintro ⟨b, o, rfl⟩
    refine CG.pure (fun w hw => SlR.shape h2 (by intro h; have := congrArg List.length h; simp only [List.length_map, List.length_nil] at this; omega) w hw) ?_
    rintro ⟨b2, o2, rfl⟩
    refine CG.skip ?_
    refine QG.then ?_
    refine CG.seq ?_
    refine CG.block ?_
    refine CG.seq ?_
    refine CG.draw (.look 0 1 (.look 1 1 (.look 2 1 (.look 3 1 (.look 4 1 (.look 5 1 (.look 6 1 (.look 7 1 (.look 8 1 (.look 9 1 (.look 10 1 (.done)))))))))))) [] [] ([]) ([]) mixed (by kernel_rfl) (Imp.none _) (Imp.none _) ?_
    refine DG.look rfl rfl (Yield.move rfl) rfl ?_
    refine DG.look rfl rfl (Yield.move rfl) rfl ?_
    refine DG.look rfl rfl (Yield.index_slice Try.underlying65 ti49 rfl rfl (by omega) (by omega)) rfl ?_
    refine DG.look rfl rfl (Yield.load (v := .slice mx.a mx.b.length mx.c) ti49 rfl (by rw [show o + (i : Int).toNat * 1 = o + i by omega]; exact h1.cel (by rw [List.getElem?_map, hg1]; rfl))) rfl ?_
    refine DG.look rfl rfl (Yield.toStr (bs := mx.b) Try.underlying49 Try.underlying9 Try.underlying5 rfl hr1.slR) rfl ?_
    refine DG.look rfl rfl (Yield.move rfl) rfl ?_
    refine DG.look rfl rfl (Yield.move rfl) rfl ?_
    refine DG.look rfl rfl (Yield.index_slice Try.underlying65 ti49 rfl rfl (by omega) (by omega)) rfl ?_
    refine DG.look rfl rfl (Yield.load (v := .slice my.a my.b.length my.c) ti49 rfl (by rw [show o2 + (i : Int).toNat * 1 = o2 + i by omega]; exact h2.cel (by rw [List.getElem?_map, hg2]; rfl))) rfl ?_
    refine DG.look rfl rfl (Yield.toStr (bs := my.b) Try.underlying49 Try.underlying9 Try.underlying5 rfl hr2.slR) rfl ?_
    refine DG.look rfl rfl (Yield.as (Yield.str_neq rfl rfl) (v' := .bool false) (by rw [hbb]; simp)) rfl ?_
    refine DG.done ?_
    refine QG.then ?_
    refine CG.cond_f rfl ?_
    refine CG.skip ?_
    refine QG.block_normal ?_
    refine QG.then ?_
    refine CG.region ?_
    refine OG.yield (Yield.move rfl) rfl ?_
    refine OG.yield (Yield.add rfl rfl (w64 (by omega) (by omega))) rfl ?_
    refine OG.yield (Yield.assign rfl) rfl ?_
    refine OG.nil ?_
    exact QG.next (i + 1) (show i + 1 ≤ xs.length by omega) (show xs.length - (i + 1) < xs.length - i by omega) (by repeat (first | exact Env.sub_nil _ | refine Env.sub_cons rfl ?_)) (by repeat (first | exact Imp.refl _ | exact Imp.none _ | apply Imp.pull (by repeat (first | exact Ext.here | apply Ext.there)) | apply Imp.trans Imp.drop))
  · try replace hc := of_decide_eq_false hc
    refine CG.exit ?_
    refine QG.pass_exit ?_
    refine QG.pass_exit ?_
    refine QG.block_exit ?_
    refine QG.then ?_
    refine CG.seq ?_
    refine CG.region ?_
    refine OG.yield (Yield.assign rfl) rfl ?_
    refine OG.nil ?_
    refine QG.then ?_
    refine CG.ret ?_
    exact QG.ret1 rfl rfl () trivial rfl (by repeat (first | exact Imp.refl _ | exact Imp.none _ | apply Imp.pull (by repeat (first | exact Ext.here | apply Ext.there)) | apply Imp.trans Imp.drop))
end
end Go.Proofs.Ytjigjbcdopmeeaa.Po
namespace Go.Proofs.Ytjigjbcdopmeeaa.portsOrder
open Go Go.Sl Go.RowKit Go.Proofs Go.Proofs.Ytjigjbcdopmeeaa.T Go.Proofs.Ytjigjbcdopmeeaa.Po Go.Proofs.Ytjigjbcdopmeeaa.portsFull
set_option linter.unusedVariables false
set_option linter.unusedSimpArgs false
set_option maxRecDepth 100000
theorem carry_keep (dp : Int) : ∀ s r : List B, (carry 2 dp s r).2 ++ (carry 2 dp s r).1 = r ++ s
  | [], r => by simp [carry]
  | m :: s, r => by
    rw [carry, if_neg (by decide)]
    split
    · rfl
    · rw [carry_keep dp s (r ++ [m]), List.append_assoc]; rfl
theorem carry_len (dp : Int) (d : Nat) (hd : dp = d) : ∀ s r : List B, r.length ≤ d → (carry 2 dp s r).2.length ≤ d ∧ (carry 2 dp s r).1.length ≤ s.length
  | [], r, h => by simp [carry, h]
  | m :: s, r, h => by
    rw [carry, if_neg (by decide)]
    split
    · exact ⟨h, Nat.le_refl _⟩
    · have := carry_len dp d hd s (r ++ [m]) (by rw [List.length_append, List.length_cons, List.length_nil]; omega)
      exact ⟨this.1, by rw [List.length_cons]; omega⟩
theorem carry_gets (dp : Int) (hd : 1 ≤ dp) : ∀ s r : List B, (carry 2 dp s r).2 = [] → r = [] ∧ s = []
  | [], r, h => by simp [carry] at h; exact ⟨h, rfl⟩
  | m :: s, r, h => by
    rw [carry, if_neg (by decide)] at h
    split at h
    · rename_i hx; simp only at h; subst h; simp at hx; omega
    · have := (carry_gets dp hd s (r ++ [m]) h).1
      simp at this
theorem send_long {d : Nat} {b2 : B} {s r : List B} (hb : 64 < b2.length) : sendR (Q d s r) 0 b2 = (9, Q d s r) := by
  unfold sendR
  rw [if_neg (by simp), if_pos (by show max 0 (min (64 : Int) 64) < (b2.length : Int); omega)]
def z0 : AC := ⟨1, 1, 0, 64, 0, [], []⟩
theorem tr_two (d : Nat) (hd : 1 ≤ d ∧ d ≤ 8) (s r : List B) : [z0, Q d s r].map AC.tr = [z0, Q d (carry 2 d s r).1 (carry 2 d s r).2] := by
  rw [List.map_cons, List.map_cons, List.map_nil, show z0.tr = z0 from rfl]
  have e : (Q d s r).q = carry 2 d s r := by show carry 2 (dep 2 d) s r = _; rw [dep_d hd]
  unfold AC.tr; rw [e]
structure St where
  i : Nat
  s : List B
  r : List B
  x6 : Po.End
  x7 : Po.End
structure St.OK (d : Nat) (x : St) : Prop where
  all : x.x7.bs ++ x.r ++ x.s = x.x6.bs
  sl : x.s.length ≤ d
  rl : x.r.length ≤ d
  n6 : x.x6.ms.length ≤ x.i
  n7 : x.x7.ms.length ≤ x.i
  bl : ∀ m ∈ x.x6.bs, m.length ≤ 64
def St.env (a1 : Option Addr) (m c1 p d : Nat) (x : St) : Env := [(0, .int .i64 d), (1, .slice a1 m c1), (5, .pointer (some ⟨p, 0, none⟩)), (6, .slice x.x6.a x.x6.ms.length x.x6.c), (7, .slice x.x7.a x.x7.ms.length x.x7.c), (8, .int .i64 x.i)]
abbrev St.G (W : World) (p d : Nat) (x : St) : List HProp := [Po p [z0, Q d x.s x.r], oend x.x6, pool x.x6.ms, oend x.x7, pool x.x7.ms, old W]
theorem n7_le {d : Nat} {x : St} (h : x.OK d) : x.x7.ms.length + x.r.length + x.s.length = x.x6.ms.length := by
  have := congrArg List.length h.all
  simp only [List.length_append, Po.End.bs, List.length_map] at this; exact this
theorem bs_snoc (a : Option Addr) (c : Nat) (ms : List Msg) (m : Msg) : Po.End.bs ⟨a, c, ms ++ [m]⟩ = ms.map Msg.b ++ [m.b] := by unfold Po.End.bs; rw [List.map_append]; rfl
set_option maxHeartbeats 8000000 in
theorem walk (W : World) {n0 : Int} {a1 : Option Addr} {c1 : Nat} {ops : List POp} (hops : SlAt W 4 a1 ops.length ((ops.map POp.cells).flatten)) (hok : ∀ o ∈ ops, o.OK W) :
    Ctr Try.prog W 9 [.int .i64 n0, .slice a1 ops.length c1] [old W] (fun _ : Unit => True) (fun _ => .bool true) (fun _ => [old W]) := by
  have hw := wrap_u64_range n0
  refine Ctr.of_body Try.func9 rfl Try.ntmps9 rfl ?_
  refine CG.seq ?_
  refine CG.region ?_
  refine OG.yield (Yield.assign rfl) rfl ?_
  refine OG.nil ?_
  refine QG.then ?_
  refine CG.seq ?_
  refine CG.seq ?_
  refine CG.region ?_
  refine OG.callo call21 rfl (Imp.refl _) (works_spec W _) rfl ?_
  rintro ⟨⟩ -
  refine OG.yield (Yield.not rfl) rfl ?_
  refine OG.nil ?_
  refine QG.then ?_
  refine CG.cond_f rfl ?_
  refine CG.skip ?_
  refine QG.then ?_
  refine CG.seq ?_
  refine CG.region ?_
  refine OG.yield (Yield.move rfl) rfl ?_
  refine OG.yield (Yield.conv Try.underlying24 rfl rfl rfl) rfl ?_
  generalize IntKind.u64.wrap n0 = wr at hw ⊢
  refine OG.yield (Yield.rem rfl rfl (by omega) (tmod_pos (by omega) (by omega))) rfl ?_
  refine OG.yield (Yield.conv (c := wr % 8) Try.underlying3 rfl rfl (w64 (by omega) (by omega))) rfl ?_
  refine OG.yield (Yield.add rfl rfl (w64 (by omega) (by omega))) rfl ?_
  obtain ⟨d, hdd⟩ : ∃ n : Nat, 1 + wr % 8 = (n : Int) := ⟨(1 + wr % 8).toNat, by omega⟩
  rw [hdd]
  have hd : 1 ≤ d ∧ d ≤ 8 := by omega
  refine OG.yield (Yield.assign rfl) rfl ?_
  refine OG.nil ?_
  refine QG.then ?_
  refine CG.seq ?_
  refine CG.region ?_
  refine OG.yield (Yield.build bu47 ti47 rfl (cells := [_, _, _, _, _]) rfl) rfl ?_
  refine OG.yield (Yield.move rfl) rfl ?_
  refine OG.yield (Yield.build bu47 ti47 rfl (cells := [_, _, _, _, _]) rfl) rfl ?_
  refine OG.effd (Eff.lit [.tmp 25, .tmp 27] (vs := [.agg (Cf.cells ⟨1, 1, 0, 64, 0⟩).toArray, .agg (Cf.cells ⟨2, 0, 1, 64, d⟩).toArray]) (cells := Cf.cells ⟨1, 1, 0, 64, 0⟩ ++ Cf.cells ⟨2, 0, 1, 64, d⟩) Try.underlying48 ti47 rfl rfl rfl rfl (by decide) (by simp [Value.cells, Cf.cells]) (by simp [Value.cells])) rfl ?_
  rintro b28 -
  refine OG.callo call22 rfl ((by repeat (first | exact Imp.refl _ | exact Imp.none _ | apply Imp.pull (by repeat (first | exact Ext.here | apply Ext.there)) | apply Imp.trans Imp.drop))) (new_spec W _ (l := [⟨1, 1, 0, 64, 0⟩, ⟨2, 0, 1, 64, d⟩]) (by exact SlR.of_osl_eq (a := some ⟨b28, 0, none⟩) (by repeat (first | exact Ext.here | apply Ext.there)) rfl (by simp)) (by simp)) rfl ?_
  rintro p -
  rw [show [(⟨1, 1, 0, 64, 0⟩ : Cf), ⟨2, 0, 1, 64, d⟩].map Cf.ac = [z0, Q d [] []] from rfl]
  refine OG.yield (Yield.assign rfl) rfl ?_
  refine OG.nil ?_
  refine QG.then ?_
  refine CG.seq ?_
  refine CG.seq ?_
  refine CG.region ?_
  refine OG.yield (Yield.move rfl) rfl ?_
  refine OG.yield (by first | exact Yield.ptr_nil Try.underlying44 rfl rfl | exact Yield.nil_nil Try.underlying44 rfl rfl) rfl ?_
  refine OG.nil ?_
  refine QG.then ?_
  refine CG.cond_f rfl ?_
  refine CG.skip ?_
  refine QG.then ?_
  refine CG.seq ?_
  refine CG.region ?_
  refine OG.yield (Yield.assign rfl) rfl ?_
  refine OG.yield (Yield.assign rfl) rfl ?_
  refine OG.nil ?_
  refine QG.then ?_
  refine CG.cut (fun x : St => x.OK d ∧ x.i ≤ 150) (fun x => [(5, .pointer (some ⟨p, 0, none⟩)), (6, .slice x.x6.a x.x6.ms.length x.x6.c), (7, .slice x.x7.a x.x7.ms.length x.x7.c)]) (St.G W p d) ?_ ?_
  · skip
    refine CG.seq ?_
    refine CG.region ?_
    refine OG.yield (Yield.assign rfl) rfl ?_
    refine OG.nil ?_
    refine QG.then ?_
    refine CG.block ?_
    refine CG.loop (fun x : St => x.OK d ∧ x.i ≤ ops.length ∧ x.i ≤ 150) (St.env a1 ops.length c1 p d) (St.G W p d) (fun x => ops.length - x.i) ⟨0, [], [], nilE, nilE⟩ ⟨⟨rfl, Nat.zero_le _, Nat.zero_le _, Nat.le_refl _, Nat.le_refl _, fun m h => (by cases h)⟩, Nat.zero_le _, Nat.zero_le _⟩ (by repeat (first | exact Env.sub_nil _ | refine Env.sub_cons rfl ?_)) (Imp.trans pool_nil (Imp.trans oend_nil (Imp.trans pool_nil (Imp.trans oend_nil (by repeat (first | exact Imp.refl _ | exact Imp.none _ | apply Imp.pull (by repeat (first | exact Ext.here | apply Ext.there)) | apply Imp.trans Imp.drop)))))) ?_
    rintro ⟨i, s, r, x6, x7⟩ ⟨hx, im, im2⟩
    have hn7 := n7_le hx
    obtain ⟨hall, hsl, hrl, hn6, hn7i, hbl⟩ := hx
    unfold St.env
    dsimp only at hall hsl hrl hn6 hn7i hbl im im2 hn7 ⊢
    refine CG.seq ?_
    refine CG.seq ?_
    rcases loop_head (i) (ops.length) 150 with hh | hh | hh
    · skip
      refine CG.region ?_
      refine OG.yield (Yield.move rfl) rfl ?_
      refine OG.yield (Yield.move rfl) rfl ?_
      refine OG.yield (Yield.len_slice Try.underlying43 rfl rfl) rfl ?_
      refine OG.yield (by first | exact Yield.as (Yield.lss rfl rfl) (bT (by omega)) | exact Yield.as (Yield.lss rfl rfl) (bF (by omega)) | exact Yield.lss rfl rfl) rfl ?_
      refine OG.yield (Yield.move rfl) rfl ?_
      refine OG.guard_yes rfl rfl rfl (by decide) ?_
      refine OG.yield (Yield.move rfl) rfl ?_
      refine OG.guard_yes rfl rfl rfl (by decide) ?_
      refine OG.yield (by first | exact Yield.as (Yield.lss rfl rfl) (bT (by omega)) | exact Yield.as (Yield.lss rfl rfl) (bF (by omega)) | exact Yield.lss rfl rfl) rfl ?_
      refine OG.yield (by first | exact Yield.pick_t rfl rfl | exact Yield.pick_f rfl rfl | exact Yield.pick rfl (fun _ => rfl) (fun _ => rfl)) rfl ?_
      refine OG.nil ?_
      refine QG.then ?_
      refine CG.cond_t rfl ?_
      refine CG.skip ?_
      refine QG.then ?_
      refine CG.seq ?_
      refine CG.block ?_
      refine CG.seq ?_
      obtain ⟨h1, h2⟩ := hh
      have hget : ops[i]? = some ops[i] := by simp [h1]
      have hko := hok ops[i] (List.getElem_mem h1)
      generalize ops[i] = op at hget hko
      refine CG.pure (fun w hw => (hops.old (G := St.G W p d ⟨i, s, r, x6, x7⟩) (by repeat (first | exact Ext.here | apply Ext.there))).elem_shape POp.len (by decide) h1 w hw) ?_
      rintro ⟨b, o, rfl⟩
      obtain ⟨Kind, Part, Chn, Ba, Bc, Bs⟩ := op
      have hBc := hko.Bc
      have hB := hko.B
      have hBm := hko.Bm
      dsimp only at hBc hB hBm
      clear hko
      unfold reachBytes at hBm
      have hrow : ∀ {G R : List HProp}, Ext G (old W) R → Row W G b (o + i * 4) (POp.cells ⟨Kind, Part, Chn, Ba, Bc, Bs⟩) := fun x => (hops.old x).elem POp.len hget
      refine CG.region ?_
      refine OG.yield (Yield.move rfl) rfl ?_
      refine OG.yield (Yield.move rfl) rfl ?_
      refine OG.yield (Yield.index_slice Try.underlying43 ti51 rfl rfl (by omega) (by omega)) rfl ?_
      refine OG.yield (Yield.load_agg (vs := POp.cells ⟨Kind, Part, Chn, Ba, Bc, Bs⟩) ti51 rfl rfl (hrow (by repeat (first | exact Ext.here | apply Ext.there)))) rfl ?_
      refine OG.effd (Eff.alloc ti51) rfl ?_
      rintro b9 -
      refine OG.eff (Eff.storeAll ti51 rfl rfl (by repeat (first | exact Foc.here | apply Foc.there)) (POp.len ⟨Kind, Part, Chn, Ba, Bc, Bs⟩) (POp.ones ⟨Kind, Part, Chn, Ba, Bc, Bs⟩) rfl) rfl ?_
      rintro ⟨⟩ -
      refine OG.nil ?_
      refine QG.then ?_
      refine CG.cut (fun x : St => x.OK d ∧ x.i = i + 1) (fun x => [(0, .int .i64 d), (1, .slice (some ⟨b, o, none⟩) ops.length c1), (5, .pointer (some ⟨p, 0, none⟩)), (6, .slice x.x6.a x.x6.ms.length x.x6.c), (7, .slice x.x7.a x.x7.ms.length x.x7.c), (8, .int .i64 i)]) (St.G W p d) ?_ ?_
      · skip
        refine CG.seq ?_
        refine CG.region ?_
        refine OG.yield (Yield.fieldAddr fa51_0 rfl) rfl ?_
        refine OG.yield (Yield.load (v := .int .i64 Kind) ti3 rfl (Cel.of_blk (b := b9) (by repeat (first | exact Ext.here | apply Ext.there)) rfl)) rfl ?_
        refine OG.nil ?_
        refine QG.then ?_
        refine CG.block ?_
        refine CG.seq ?_
        refine CG.region ?_
        refine OG.yield (Yield.eql rfl rfl) rfl ?_
        refine OG.yield (Yield.assign rfl) rfl ?_
        refine OG.nil ?_
        refine QG.then ?_
        refine CG.cond rfl (fun hc => ?_) (fun hc => ?_)
        · try replace hc := of_decide_eq_true hc
          refine CG.seq ?_
          refine CG.region ?_
          refine OG.yield (Yield.move rfl) rfl ?_
          refine OG.callo call32 rfl ((by repeat (first | exact Imp.refl _ | exact Imp.none _ | apply Imp.pull (by repeat (first | exact Ext.here | apply Ext.there)) | apply Imp.trans Imp.drop))) (held_in W _ (n := 1) (ac := Q d s r) true rfl) rfl ?_
          rintro y10 hy10
          rw [if_pos rfl] at hy10
          have hyl : y10.ms.length = s.length := by have := congrArg List.length hy10; simpa [Po.End.bs] using this
          refine OG.yield (Yield.assign rfl) rfl ?_
          refine OG.nil ?_
          refine QG.then ?_
          refine CG.seq ?_
          rcases (show (Bs.length ≤ 64 ∧ s.length < d) ∨ 64 < Bs.length ∨ (Bs.length ≤ 64 ∧ d ≤ s.length) by omega) with hh | hh | hh
          · skip
            refine CG.region ?_
            refine OG.yield (Yield.move rfl) rfl ?_
            refine OG.effd (Eff.lit0 Try.underlying49 ti5 rfl) rfl ?_
            rintro b53 -
            refine OG.yield (Yield.fieldAddr fa51_3 rfl) rfl ?_
            refine OG.yield (Yield.load (v := .slice Ba Bs.length Bc) ti49 rfl (Cel.of_blk (b := b9) (by repeat (first | exact Ext.here | apply Ext.there)) rfl)) rfl ?_
            refine OG.effd (Eff.appendB0 (ys := Bs) rfl rfl rfl Try.underlying49 Try.underlying49 ti5 (by decide) (by repeat (first | exact Foc.here | apply Foc.there)) (hB.old (by repeat (first | exact Ext.here | apply Ext.there))) (by omega)) rfl ?_
            rintro ⟨a56, c56⟩ -
            refine OG.callo call23 rfl ((by repeat (first | exact Imp.refl _ | exact Imp.none _ | apply Imp.pull (by repeat (first | exact Ext.here | apply Ext.there)) | apply Imp.trans Imp.drop))) (send_in W _ (n := 1) (ac := Q d s r) 0 (bs := Bs) (by exact SlR.of_osl (E := 5) (a := a56) (c := c56) (by repeat (first | exact Ext.here | apply Ext.there))) (by omega) rfl) rfl ?_
            rintro ⟨⟩ -
            first | rw [send_more (i := 0) (bs := Bs) hd hh.2 hh.1] | rw [send_long hh] | rw [send_none hd hh.2 hh.1]
            dsimp only [List.set_cons_succ, List.set_cons_zero]
            refine OG.yield (Yield.assign rfl) rfl ?_
            refine OG.nil ?_
            refine QG.then ?_
            refine CG.block ?_
            refine CG.seq ?_
            refine CG.region ?_
            refine OG.yield (Yield.move rfl) rfl ?_
            refine OG.yield (by first | exact Yield.as (Yield.eql rfl rfl) (bT (by omega)) | exact Yield.as (Yield.eql rfl rfl) (bF (by omega)) | exact Yield.eql rfl rfl) rfl ?_
            refine OG.yield (Yield.move rfl) rfl ?_
            refine OG.guard_yes rfl rfl rfl (by decide) ?_
            refine OG.yield (Yield.fieldAddr fa51_3 rfl) rfl ?_
            refine OG.guard_yes rfl rfl rfl (by decide) ?_
            refine OG.yield (Yield.load (v := .slice Ba Bs.length Bc) ti49 rfl (Cel.of_blk (b := b9) (by repeat (first | exact Ext.here | apply Ext.there)) rfl)) rfl ?_
            refine OG.guard_yes rfl rfl rfl (by decide) ?_
            refine OG.yield (Yield.len_slice Try.underlying49 rfl rfl) rfl ?_
            refine OG.guard_yes rfl rfl rfl (by decide) ?_
            refine OG.yield (by first | exact Yield.as (Yield.leq rfl rfl) (bT (by omega)) | exact Yield.as (Yield.leq rfl rfl) (bF (by omega)) | exact Yield.leq rfl rfl) rfl ?_
            refine OG.yield (by first | exact Yield.pick_t rfl rfl | exact Yield.pick_f rfl rfl | exact Yield.pick rfl (fun _ => rfl) (fun _ => rfl)) rfl ?_
            refine OG.yield (Yield.move rfl) rfl ?_
            refine OG.guard_yes rfl rfl rfl (by decide) ?_
            refine OG.yield (Yield.move rfl) rfl ?_
            refine OG.guard_yes rfl rfl rfl (by decide) ?_
            refine OG.yield (Yield.len_slice (a := y10.a) (m := y10.ms.length) (c := y10.c) Try.underlying65 rfl rfl) rfl ?_
            refine OG.guard_yes rfl rfl rfl (by decide) ?_
            refine OG.yield (Yield.move rfl) rfl ?_
            refine OG.guard_yes rfl rfl rfl (by decide) ?_
            refine OG.yield (by first | exact Yield.as (Yield.lss rfl rfl) (bT (by omega)) | exact Yield.as (Yield.lss rfl rfl) (bF (by omega)) | exact Yield.lss rfl rfl) rfl ?_
            refine OG.yield (by first | exact Yield.pick_t rfl rfl | exact Yield.pick_f rfl rfl | exact Yield.pick rfl (fun _ => rfl) (fun _ => rfl)) rfl ?_
            refine OG.yield (Yield.assign rfl) rfl ?_
            refine OG.nil ?_
            refine QG.then ?_
            refine CG.cond_t rfl ?_
            refine CG.region ?_
            refine OG.yield (Yield.move rfl) rfl ?_
            refine OG.effd (Eff.lit0 Try.underlying49 ti5 rfl) rfl ?_
            rintro b74 -
            refine OG.yield (Yield.fieldAddr fa51_3 rfl) rfl ?_
            refine OG.yield (Yield.load (v := .slice Ba Bs.length Bc) ti49 rfl (Cel.of_blk (b := b9) (by repeat (first | exact Ext.here | apply Ext.there)) rfl)) rfl ?_
            refine OG.effd (Eff.appendB0 (ys := Bs) rfl rfl rfl Try.underlying49 Try.underlying49 ti5 (by decide) (by repeat (first | exact Foc.here | apply Foc.there)) (hB.old (by repeat (first | exact Ext.here | apply Ext.there))) (by omega)) rfl ?_
            rintro ⟨a77, c77⟩ -
            refine OG.effd (Eff.lit1 Try.underlying65 ti49 rfl rfl rfl) rfl ?_
            rintro b78 -
            refine OG.effd (Eff.append (a := x6.a) (c := x6.c) (m := x6.ms.length) (xs := x6.ms.map Msg.cell) (k := 1) (ys := [Msg.cell ⟨a77, c77, Bs⟩]) rfl rfl rfl Try.underlying65 Try.underlying65 ti49 rfl (by decide) (by repeat (first | exact Foc.here | apply Foc.there)) (SlR.of_osl (a := some ⟨b78, 0, none⟩) (by repeat (first | exact Ext.here | apply Ext.there))) (by simp [one, Msg.cell]) (by omega)) rfl ?_
            rintro ⟨a79, c79⟩ -
            refine OG.yield (Yield.assign rfl) rfl ?_
            refine OG.nil ?_
            refine QG.block_normal ?_
            refine QG.block_normal ?_
            refine QG.mid ⟨i + 1, s ++ [Bs], r, ⟨a79, c79, x6.ms ++ [⟨a77, c77, Bs⟩]⟩, x7⟩ ⟨⟨?_, ?_, hrl, ?_, ?_, ?_⟩, rfl⟩ ?_ ?_
            · dsimp only; rw [bs_snoc]; show x7.bs ++ r ++ (s ++ [Bs]) = x6.bs ++ [Bs]; rw [← hall]; simp
            · simp only [List.length_append, List.length_cons, List.length_nil]; omega
            · simp only [List.length_append, List.length_cons, List.length_nil]; omega
            · simp only; omega
            · intro m hm; dsimp only at hm; rw [bs_snoc, List.mem_append] at hm; rcases hm with hm | hm
              · exact hbl m hm
              · simp only [List.mem_cons, List.not_mem_nil, or_false] at hm; subst hm; exact hh.1
            · dsimp only; rw [List.length_append]; exact (by repeat (first | exact Env.sub_nil _ | refine Env.sub_cons rfl ?_))
            · unfold St.G; dsimp only; rw [oend_snoc]; exact Imp.trans (Imp.pull (by repeat (first | exact Ext.here | apply Ext.there)) (Imp.pull (by repeat (first | exact Ext.here | apply Ext.there)) (Imp.pull (A := Msg.own ⟨a77, c77, Bs⟩) (by repeat (first | exact Ext.here | apply Ext.there)) (Imp.pull (by repeat (first | exact Ext.here | apply Ext.there)) (by repeat (first | exact Imp.refl _ | exact Imp.none _ | apply Imp.pull (by repeat (first | exact Ext.here | apply Ext.there)) | apply Imp.trans Imp.drop)))))) (Imp.cons (Imp.cons pool_add))
          · skip
            refine CG.region ?_
            refine OG.yield (Yield.move rfl) rfl ?_
            refine OG.effd (Eff.lit0 Try.underlying49 ti5 rfl) rfl ?_
            rintro b53 -
            refine OG.yield (Yield.fieldAddr fa51_3 rfl) rfl ?_
            refine OG.yield (Yield.load (v := .slice Ba Bs.length Bc) ti49 rfl (Cel.of_blk (b := b9) (by repeat (first | exact Ext.here | apply Ext.there)) rfl)) rfl ?_
            refine OG.effd (Eff.appendB0 (ys := Bs) rfl rfl rfl Try.underlying49 Try.underlying49 ti5 (by decide) (by repeat (first | exact Foc.here | apply Foc.there)) (hB.old (by repeat (first | exact Ext.here | apply Ext.there))) (by omega)) rfl ?_
            rintro ⟨a56, c56⟩ -
            refine OG.callo call23 rfl ((by repeat (first | exact Imp.refl _ | exact Imp.none _ | apply Imp.pull (by repeat (first | exact Ext.here | apply Ext.there)) | apply Imp.trans Imp.drop))) (send_in W _ (n := 1) (ac := Q d s r) 0 (bs := Bs) (by exact SlR.of_osl (E := 5) (a := a56) (c := c56) (by repeat (first | exact Ext.here | apply Ext.there))) (by omega) rfl) rfl ?_
            rintro ⟨⟩ -
            first | rw [send_more (i := 0) (bs := Bs) hd hh.2 hh.1] | rw [send_long hh] | rw [send_none hd hh.2 hh.1]
            dsimp only [List.set_cons_succ, List.set_cons_zero]
            refine OG.yield (Yield.assign rfl) rfl ?_
            refine OG.nil ?_
            refine QG.then ?_
            refine CG.block ?_
            refine CG.seq ?_
            refine CG.region ?_
            refine OG.yield (Yield.move rfl) rfl ?_
            refine OG.yield (by first | exact Yield.as (Yield.eql rfl rfl) (bT (by omega)) | exact Yield.as (Yield.eql rfl rfl) (bF (by omega)) | exact Yield.eql rfl rfl) rfl ?_
            refine OG.yield (Yield.move rfl) rfl ?_
            refine OG.guard_no rfl rfl rfl rfl rfl (by decide) (by decide) ?_
            refine OG.guard_no rfl rfl rfl rfl rfl (by decide) (by decide) ?_
            refine OG.guard_no rfl rfl rfl rfl rfl (by decide) (by decide) ?_
            refine OG.guard_no rfl rfl rfl rfl rfl (by decide) (by decide) ?_
            refine OG.yield (by first | exact Yield.pick_t rfl rfl | exact Yield.pick_f rfl rfl | exact Yield.pick rfl (fun _ => rfl) (fun _ => rfl)) rfl ?_
            refine OG.yield (Yield.move rfl) rfl ?_
            refine OG.guard_no rfl rfl rfl rfl rfl (by decide) (by decide) ?_
            refine OG.guard_no rfl rfl rfl rfl rfl (by decide) (by decide) ?_
            refine OG.guard_no rfl rfl rfl rfl rfl (by decide) (by decide) ?_
            refine OG.guard_no rfl rfl rfl rfl rfl (by decide) (by decide) ?_
            refine OG.yield (by first | exact Yield.pick_t rfl rfl | exact Yield.pick_f rfl rfl | exact Yield.pick rfl (fun _ => rfl) (fun _ => rfl)) rfl ?_
            refine OG.yield (Yield.assign rfl) rfl ?_
            refine OG.nil ?_
            refine QG.then ?_
            refine CG.cond_f rfl ?_
            refine CG.seq ?_
            refine CG.seq ?_
            refine CG.region ?_
            refine OG.yield (Yield.move rfl) rfl ?_
            refine OG.yield (by first | exact Yield.as (Yield.eql rfl rfl) (bT (by omega)) | exact Yield.as (Yield.eql rfl rfl) (bF (by omega)) | exact Yield.eql rfl rfl) rfl ?_
            refine OG.yield (Yield.move rfl) rfl ?_
            refine OG.guard_yes rfl rfl rfl (by decide) ?_
            refine OG.yield (Yield.fieldAddr fa51_3 rfl) rfl ?_
            refine OG.guard_yes rfl rfl rfl (by decide) ?_
            refine OG.yield (Yield.load (v := .slice Ba Bs.length Bc) ti49 rfl (Cel.of_blk (b := b9) (by repeat (first | exact Ext.here | apply Ext.there)) rfl)) rfl ?_
            refine OG.guard_yes rfl rfl rfl (by decide) ?_
            refine OG.yield (Yield.len_slice Try.underlying49 rfl rfl) rfl ?_
            refine OG.guard_yes rfl rfl rfl (by decide) ?_
            refine OG.yield (by first | exact Yield.as (Yield.gtr rfl rfl) (bT (by omega)) | exact Yield.as (Yield.gtr rfl rfl) (bF (by omega)) | exact Yield.gtr rfl rfl) rfl ?_
            refine OG.yield (by first | exact Yield.pick_t rfl rfl | exact Yield.pick_f rfl rfl | exact Yield.pick rfl (fun _ => rfl) (fun _ => rfl)) rfl ?_
            refine OG.yield (Yield.assign rfl) rfl ?_
            refine OG.nil ?_
            refine QG.then ?_
            refine CG.cond_t rfl ?_
            refine CG.skip ?_
            refine QG.then ?_
            refine CG.cond_t rfl ?_
            refine CG.seq ?_
            refine CG.region ?_
            refine OG.yield (Yield.move rfl) rfl ?_
            refine OG.callo call32 rfl ((by repeat (first | exact Imp.refl _ | exact Imp.none _ | apply Imp.pull (by repeat (first | exact Ext.here | apply Ext.there)) | apply Imp.trans Imp.drop))) (held_in W _ (n := 1) (ac := Q d s r) true rfl) rfl ?_
            rintro y98 hy98
            rw [if_pos rfl] at hy98
            have hy98l : y98.ms.length = s.length := by have := congrArg List.length hy98; simpa [Po.End.bs] using this
            refine OG.yield (Yield.move rfl) rfl ?_
            refine OG.callo call33 rfl (Imp.refl _) (sameM_spec W _ (x := y98) (y := y10) (by exact SlR.of_osl (E := 49) (a := y98.a) (c := y98.c) (by repeat (first | exact Ext.here | apply Ext.there))) (by exact SlR.of_osl (E := 49) (a := y10.a) (c := y10.c) (by repeat (first | exact Ext.here | apply Ext.there))) (by intro m hm; exact pool_rd (ms := y98.ms) (by repeat (first | exact Ext.here | apply Ext.there)) hm) (by intro m hm; exact pool_rd (ms := y10.ms) (by repeat (first | exact Ext.here | apply Ext.there)) hm) (by rw [hy98, hy10]) (by omega)) rfl ?_
            rintro ⟨⟩ -
            refine OG.yield (Yield.not rfl) rfl ?_
            refine OG.nil ?_
            refine QG.then ?_
            refine CG.cond_f rfl ?_
            refine CG.skip ?_
            refine QG.block_normal ?_
            refine QG.block_normal ?_
            exact QG.mid ⟨i + 1, s, r, x6, x7⟩ ⟨⟨hall, hsl, hrl, by simp only; omega, by simp only; omega, hbl⟩, rfl⟩ (by repeat (first | exact Env.sub_nil _ | refine Env.sub_cons rfl ?_)) (by repeat (first | exact Imp.refl _ | exact Imp.none _ | apply Imp.pull (by repeat (first | exact Ext.here | apply Ext.there)) | apply Imp.trans Imp.drop))
          · skip
            refine CG.region ?_
            refine OG.yield (Yield.move rfl) rfl ?_
            refine OG.effd (Eff.lit0 Try.underlying49 ti5 rfl) rfl ?_
            rintro b53 -
            refine OG.yield (Yield.fieldAddr fa51_3 rfl) rfl ?_
            refine OG.yield (Yield.load (v := .slice Ba Bs.length Bc) ti49 rfl (Cel.of_blk (b := b9) (by repeat (first | exact Ext.here | apply Ext.there)) rfl)) rfl ?_
            refine OG.effd (Eff.appendB0 (ys := Bs) rfl rfl rfl Try.underlying49 Try.underlying49 ti5 (by decide) (by repeat (first | exact Foc.here | apply Foc.there)) (hB.old (by repeat (first | exact Ext.here | apply Ext.there))) (by omega)) rfl ?_
            rintro ⟨a56, c56⟩ -
            refine OG.callo call23 rfl ((by repeat (first | exact Imp.refl _ | exact Imp.none _ | apply Imp.pull (by repeat (first | exact Ext.here | apply Ext.there)) | apply Imp.trans Imp.drop))) (send_in W _ (n := 1) (ac := Q d s r) 0 (bs := Bs) (by exact SlR.of_osl (E := 5) (a := a56) (c := c56) (by repeat (first | exact Ext.here | apply Ext.there))) (by omega) rfl) rfl ?_
            rintro ⟨⟩ -
            first | rw [send_more (i := 0) (bs := Bs) hd hh.2 hh.1] | rw [send_long hh] | rw [send_none hd hh.2 hh.1]
            dsimp only [List.set_cons_succ, List.set_cons_zero]
            refine OG.yield (Yield.assign rfl) rfl ?_
            refine OG.nil ?_
            refine QG.then ?_
            refine CG.block ?_
            refine CG.seq ?_
            refine CG.region ?_
            refine OG.yield (Yield.move rfl) rfl ?_
            refine OG.yield (by first | exact Yield.as (Yield.eql rfl rfl) (bT (by omega)) | exact Yield.as (Yield.eql rfl rfl) (bF (by omega)) | exact Yield.eql rfl rfl) rfl ?_
            refine OG.yield (Yield.move rfl) rfl ?_
            refine OG.guard_no rfl rfl rfl rfl rfl (by decide) (by decide) ?_
            refine OG.guard_no rfl rfl rfl rfl rfl (by decide) (by decide) ?_
            refine OG.guard_no rfl rfl rfl rfl rfl (by decide) (by decide) ?_
            refine OG.guard_no rfl rfl rfl rfl rfl (by decide) (by decide) ?_
            refine OG.yield (by first | exact Yield.pick_t rfl rfl | exact Yield.pick_f rfl rfl | exact Yield.pick rfl (fun _ => rfl) (fun _ => rfl)) rfl ?_
            refine OG.yield (Yield.move rfl) rfl ?_
            refine OG.guard_no rfl rfl rfl rfl rfl (by decide) (by decide) ?_
            refine OG.guard_no rfl rfl rfl rfl rfl (by decide) (by decide) ?_
            refine OG.guard_no rfl rfl rfl rfl rfl (by decide) (by decide) ?_
            refine OG.guard_no rfl rfl rfl rfl rfl (by decide) (by decide) ?_
            refine OG.yield (by first | exact Yield.pick_t rfl rfl | exact Yield.pick_f rfl rfl | exact Yield.pick rfl (fun _ => rfl) (fun _ => rfl)) rfl ?_
            refine OG.yield (Yield.assign rfl) rfl ?_
            refine OG.nil ?_
            refine QG.then ?_
            refine CG.cond_f rfl ?_
            refine CG.seq ?_
            refine CG.seq ?_
            refine CG.region ?_
            refine OG.yield (Yield.move rfl) rfl ?_
            refine OG.yield (by first | exact Yield.as (Yield.eql rfl rfl) (bT (by omega)) | exact Yield.as (Yield.eql rfl rfl) (bF (by omega)) | exact Yield.eql rfl rfl) rfl ?_
            refine OG.yield (Yield.move rfl) rfl ?_
            refine OG.guard_no rfl rfl rfl rfl rfl (by decide) (by decide) ?_
            refine OG.guard_no rfl rfl rfl rfl rfl (by decide) (by decide) ?_
            refine OG.guard_no rfl rfl rfl rfl rfl (by decide) (by decide) ?_
            refine OG.guard_no rfl rfl rfl rfl rfl (by decide) (by decide) ?_
            refine OG.yield (by first | exact Yield.pick_t rfl rfl | exact Yield.pick_f rfl rfl | exact Yield.pick rfl (fun _ => rfl) (fun _ => rfl)) rfl ?_
            refine OG.yield (Yield.assign rfl) rfl ?_
            refine OG.nil ?_
            refine QG.then ?_
            refine CG.cond_f rfl ?_
            refine CG.region ?_
            refine OG.yield (Yield.move rfl) rfl ?_
            refine OG.yield (by first | exact Yield.as (Yield.eql rfl rfl) (bT (by omega)) | exact Yield.as (Yield.eql rfl rfl) (bF (by omega)) | exact Yield.eql rfl rfl) rfl ?_
            refine OG.yield (Yield.move rfl) rfl ?_
            refine OG.guard_yes rfl rfl rfl (by decide) ?_
            refine OG.yield (Yield.move rfl) rfl ?_
            refine OG.guard_yes rfl rfl rfl (by decide) ?_
            refine OG.yield (Yield.len_slice (a := y10.a) (m := y10.ms.length) (c := y10.c) Try.underlying65 rfl rfl) rfl ?_
            refine OG.guard_yes rfl rfl rfl (by decide) ?_
            refine OG.yield (Yield.move rfl) rfl ?_
            refine OG.guard_yes rfl rfl rfl (by decide) ?_
            refine OG.yield (by first | exact Yield.as (Yield.eql rfl rfl) (bT (by omega)) | exact Yield.as (Yield.eql rfl rfl) (bF (by omega)) | exact Yield.eql rfl rfl) rfl ?_
            refine OG.yield (by first | exact Yield.pick_t rfl rfl | exact Yield.pick_f rfl rfl | exact Yield.pick rfl (fun _ => rfl) (fun _ => rfl)) rfl ?_
            refine OG.yield (Yield.assign rfl) rfl ?_
            refine OG.nil ?_
            refine QG.then ?_
            refine CG.cond_t rfl ?_
            refine CG.seq ?_
            refine CG.region ?_
            refine OG.yield (Yield.move rfl) rfl ?_
            refine OG.callo call32 rfl ((by repeat (first | exact Imp.refl _ | exact Imp.none _ | apply Imp.pull (by repeat (first | exact Ext.here | apply Ext.there)) | apply Imp.trans Imp.drop))) (held_in W _ (n := 1) (ac := Q d s r) true rfl) rfl ?_
            rintro y98 hy98
            rw [if_pos rfl] at hy98
            have hy98l : y98.ms.length = s.length := by have := congrArg List.length hy98; simpa [Po.End.bs] using this
            refine OG.yield (Yield.move rfl) rfl ?_
            refine OG.callo call33 rfl (Imp.refl _) (sameM_spec W _ (x := y98) (y := y10) (by exact SlR.of_osl (E := 49) (a := y98.a) (c := y98.c) (by repeat (first | exact Ext.here | apply Ext.there))) (by exact SlR.of_osl (E := 49) (a := y10.a) (c := y10.c) (by repeat (first | exact Ext.here | apply Ext.there))) (by intro m hm; exact pool_rd (ms := y98.ms) (by repeat (first | exact Ext.here | apply Ext.there)) hm) (by intro m hm; exact pool_rd (ms := y10.ms) (by repeat (first | exact Ext.here | apply Ext.there)) hm) (by rw [hy98, hy10]) (by omega)) rfl ?_
            rintro ⟨⟩ -
            refine OG.yield (Yield.not rfl) rfl ?_
            refine OG.nil ?_
            refine QG.then ?_
            refine CG.cond_f rfl ?_
            refine CG.skip ?_
            refine QG.block_normal ?_
            refine QG.block_normal ?_
            exact QG.mid ⟨i + 1, s, r, x6, x7⟩ ⟨⟨hall, hsl, hrl, by simp only; omega, by simp only; omega, hbl⟩, rfl⟩ (by repeat (first | exact Env.sub_nil _ | refine Env.sub_cons rfl ?_)) (by repeat (first | exact Imp.refl _ | exact Imp.none _ | apply Imp.pull (by repeat (first | exact Ext.here | apply Ext.there)) | apply Imp.trans Imp.drop))
        · try replace hc := of_decide_eq_false hc
          refine CG.seq ?_
          refine CG.region ?_
          refine OG.yield (Yield.eql rfl rfl) rfl ?_
          refine OG.yield (Yield.assign rfl) rfl ?_
          refine OG.nil ?_
          refine QG.then ?_
          refine CG.cond rfl (fun hc => ?_) (fun hc => ?_)
          · try replace hc := of_decide_eq_true hc
            refine CG.seq ?_
            rcases (show r = [] ∨ ∃ m r', r = m :: r' by cases r; exact .inl rfl; exact .inr ⟨_, _, rfl⟩) with rfl | ⟨m, r', rfl⟩
            · skip
              skip
              refine CG.region ?_
              refine OG.yield (Yield.move rfl) rfl ?_
              refine OG.callo call25 rfl ((by repeat (first | exact Imp.refl _ | exact Imp.none _ | apply Imp.pull (by repeat (first | exact Ext.here | apply Ext.there)) | apply Imp.trans Imp.drop))) (recv_bad W _ (n := 1) (ac := Q d s []) 1 rfl (show (110 : Int) ≠ 0 by decide)) rfl ?_
              rintro ⟨⟩ -
              rw [show recvE (Q d s []) 1 = 110 from rfl]
              refine OG.yield (Yield.move rfl) rfl ?_
              refine OG.yield (Yield.extract rfl rfl) rfl ?_
              refine OG.yield (Yield.extract rfl rfl) rfl ?_
              refine OG.yield (Yield.assign rfl) rfl ?_
              refine OG.yield (Yield.assign rfl) rfl ?_
              refine OG.nil ?_
              refine QG.then ?_
              refine CG.seq ?_
              refine CG.region ?_
              refine OG.yield (Yield.move rfl) rfl ?_
              refine OG.yield (by first | exact Yield.as (Yield.eql rfl rfl) (bT (by omega)) | exact Yield.as (Yield.eql rfl rfl) (bF (by omega)) | exact Yield.eql rfl rfl) rfl ?_
              refine OG.nil ?_
              refine QG.then ?_
              refine CG.cond_f rfl ?_
              refine CG.seq ?_
              refine CG.region ?_
              refine OG.yield (Yield.move rfl) rfl ?_
              refine OG.yield (by first | exact Yield.as (Yield.neq rfl rfl) (bT (by omega)) | exact Yield.as (Yield.neq rfl rfl) (bF (by omega)) | exact Yield.neq rfl rfl) rfl ?_
              refine OG.nil ?_
              refine QG.then ?_
              refine CG.cond_f rfl ?_
              refine CG.skip ?_
              refine QG.block_normal ?_
              exact QG.mid ⟨i + 1, s, [], x6, x7⟩ ⟨⟨hall, hsl, hrl, by simp only; omega, by simp only; omega, hbl⟩, rfl⟩ (by repeat (first | exact Env.sub_nil _ | refine Env.sub_cons rfl ?_)) (by repeat (first | exact Imp.refl _ | exact Imp.none _ | apply Imp.pull (by repeat (first | exact Ext.here | apply Ext.there)) | apply Imp.trans Imp.drop))
            · skip
              have hm64 : m.length ≤ 64 := hbl m (by rw [← hall]; simp)
              refine CG.region ?_
              refine OG.yield (Yield.move rfl) rfl ?_
              refine OG.callo call25 rfl ((by repeat (first | exact Imp.refl _ | exact Imp.none _ | apply Imp.pull (by repeat (first | exact Ext.here | apply Ext.there)) | apply Imp.trans Imp.drop))) (recv_ok W _ (n := 1) (ac := Q d s (m :: r')) 1 (m := m) (rest := r') rfl rfl rfl) rfl ?_
              rintro bz -
              rw [if_pos rfl]
              dsimp only [List.set_cons_succ, List.set_cons_zero]
              refine OG.yield (Yield.move rfl) rfl ?_
              refine OG.yield (Yield.extract rfl rfl) rfl ?_
              refine OG.yield (Yield.extract rfl rfl) rfl ?_
              refine OG.yield (Yield.assign rfl) rfl ?_
              refine OG.yield (Yield.assign rfl) rfl ?_
              refine OG.nil ?_
              refine QG.then ?_
              refine CG.seq ?_
              refine CG.region ?_
              refine OG.yield (Yield.move rfl) rfl ?_
              refine OG.yield (by first | exact Yield.as (Yield.eql rfl rfl) (bT (by omega)) | exact Yield.as (Yield.eql rfl rfl) (bF (by omega)) | exact Yield.eql rfl rfl) rfl ?_
              refine OG.nil ?_
              refine QG.then ?_
              refine CG.cond_t rfl ?_
              refine CG.region ?_
              refine OG.yield (Yield.move rfl) rfl ?_
              refine OG.effd (Eff.lit0 Try.underlying49 ti5 rfl) rfl ?_
              rintro b112 -
              refine OG.yield (Yield.move rfl) rfl ?_
              refine OG.effd (Eff.appendB0 (ys := m) rfl rfl rfl Try.underlying49 Try.underlying49 ti5 (by decide) (by repeat (first | exact Foc.here | apply Foc.there)) (SlR.of_osl (E := 5) (a := some ⟨bz, 0, none⟩) (by repeat (first | exact Ext.here | apply Ext.there))) (by omega)) rfl ?_
              rintro ⟨a114, c114⟩ -
              refine OG.effd (Eff.lit1 Try.underlying65 ti49 rfl rfl rfl) rfl ?_
              rintro b115 -
              refine OG.effd (Eff.append (a := x7.a) (c := x7.c) (m := x7.ms.length) (xs := x7.ms.map Msg.cell) (k := 1) (ys := [Msg.cell ⟨a114, c114, m⟩]) rfl rfl rfl Try.underlying65 Try.underlying65 ti49 rfl (by decide) (by repeat (first | exact Foc.here | apply Foc.there)) (SlR.of_osl (a := some ⟨b115, 0, none⟩) (by repeat (first | exact Ext.here | apply Ext.there))) (by simp [one, Msg.cell]) (by omega)) rfl ?_
              rintro ⟨a116, c116⟩ -
              refine OG.yield (Yield.assign rfl) rfl ?_
              refine OG.nil ?_
              refine QG.block_normal ?_
              refine QG.mid ⟨i + 1, s, r', x6, ⟨a116, c116, x7.ms ++ [⟨a114, c114, m⟩]⟩⟩ ⟨⟨?_, hsl, ?_, ?_, ?_, hbl⟩, rfl⟩ ?_ ?_
              · dsimp only; rw [bs_snoc, ← hall]; show x7.bs ++ [m] ++ r' ++ s = _; simp
              · simp only [List.length_cons] at hrl ⊢; omega
              · simp only; omega
              · simp only [List.length_append, List.length_cons, List.length_nil]; omega
              · dsimp only; rw [List.length_append]; exact (by repeat (first | exact Env.sub_nil _ | refine Env.sub_cons rfl ?_))
              · unfold St.G; dsimp only; rw [oend_snoc]; exact Imp.trans (Imp.pull (by repeat (first | exact Ext.here | apply Ext.there)) (Imp.pull (by repeat (first | exact Ext.here | apply Ext.there)) (Imp.pull (by repeat (first | exact Ext.here | apply Ext.there)) (Imp.pull (by repeat (first | exact Ext.here | apply Ext.there)) (Imp.pull (A := Msg.own ⟨a114, c114, m⟩) (by repeat (first | exact Ext.here | apply Ext.there)) (Imp.pull (by repeat (first | exact Ext.here | apply Ext.there)) (by repeat (first | exact Imp.refl _ | exact Imp.none _ | apply Imp.pull (by repeat (first | exact Ext.here | apply Ext.there)) | apply Imp.trans Imp.drop)))))))) (Imp.cons (Imp.cons (Imp.cons (Imp.cons pool_add))))
          · try replace hc := of_decide_eq_false hc
            refine CG.seq ?_
            refine CG.region ?_
            refine OG.yield (Yield.eql rfl rfl) rfl ?_
            refine OG.yield (Yield.assign rfl) rfl ?_
            refine OG.nil ?_
            refine QG.then ?_
            refine CG.cond rfl (fun hc => ?_) (fun hc => ?_)
            · try replace hc := of_decide_eq_true hc
              refine CG.region ?_
              refine OG.yield (Yield.move rfl) rfl ?_
              refine OG.callo call24 rfl ((by repeat (first | exact Imp.refl _ | exact Imp.none _ | apply Imp.pull (by repeat (first | exact Ext.here | apply Ext.there)) | apply Imp.trans Imp.drop))) (transfer_spec W _ (acs := [z0, Q d s r])) rfl ?_
              rintro ⟨a122, c122⟩ -
              rw [tr_two d hd]
              refine OG.nil ?_
              refine QG.block_normal ?_
              have hk := carry_keep d s r
              have hcl := carry_len d d rfl s r hrl
              exact QG.mid ⟨i + 1, (carry 2 d s r).1, (carry 2 d s r).2, x6, x7⟩ ⟨⟨by dsimp only; rw [List.append_assoc, hk, ← List.append_assoc]; exact hall, by dsimp only; omega, hcl.1, by simp only; omega, by simp only; omega, hbl⟩, rfl⟩ (by repeat (first | exact Env.sub_nil _ | refine Env.sub_cons rfl ?_)) (by repeat (first | exact Imp.refl _ | exact Imp.none _ | apply Imp.pull (by repeat (first | exact Ext.here | apply Ext.there)) | apply Imp.trans Imp.drop))
            · try replace hc := of_decide_eq_false hc
              refine CG.skip ?_
              refine QG.block_normal ?_
              exact QG.mid ⟨i + 1, s, r, x6, x7⟩ ⟨⟨hall, hsl, hrl, by simp only; omega, by simp only; omega, hbl⟩, rfl⟩ (by repeat (first | exact Env.sub_nil _ | refine Env.sub_cons rfl ?_)) (by repeat (first | exact Imp.refl _ | exact Imp.none _ | apply Imp.pull (by repeat (first | exact Ext.here | apply Ext.there)) | apply Imp.trans Imp.drop))
      clear hall hsl hrl hn6 hn7i hbl hn7 hrow hB
      rintro ⟨i', s, r, x6, x7⟩ ⟨hx, hi'⟩
      have hn7 := n7_le hx
      obtain ⟨hall, hsl, hrl, hn6, hn7i, hbl⟩ := hx
      dsimp only at hall hsl hrl hn6 hn7i hbl hi' hn7 ⊢
      subst hi'
      refine CG.seq ?_
      refine CG.region ?_
      refine OG.effd (Eff.lit0 Try.underlying65 ti49 rfl) rfl ?_
      rintro b123 -
      refine OG.yield (Yield.move rfl) rfl ?_
      refine OG.effd (Eff.append0 (k := x7.ms.length) (ys := x7.ms.map Msg.cell) rfl rfl rfl Try.underlying65 Try.underlying65 ti49 rfl (by decide) (by repeat (first | exact Foc.here | apply Foc.there)) (SlR.of_osl (E := 49) (a := x7.a) (c := x7.c) (by repeat (first | exact Ext.here | apply Ext.there))) (cells_ones _) (by omega)) rfl ?_
      rintro ⟨a125, c125⟩ -
      refine OG.yield (Yield.move rfl) rfl ?_
      refine OG.callo call32 rfl ((by repeat (first | exact Imp.refl _ | exact Imp.none _ | apply Imp.pull (by repeat (first | exact Ext.here | apply Ext.there)) | apply Imp.trans Imp.drop))) (held_in W _ (n := 1) (ac := Q d s r) false rfl) rfl ?_
      rintro y1 hy1
      rw [if_neg (by decide)] at hy1
      have hy1l : y1.ms.length = r.length := by have := congrArg List.length hy1; simpa [Po.End.bs] using this
      refine OG.effd (Eff.append (a := a125) (c := c125) (m := x7.ms.length) (xs := x7.ms.map Msg.cell) (k := y1.ms.length) (ys := y1.ms.map Msg.cell) rfl rfl rfl Try.underlying65 Try.underlying65 ti49 rfl (by decide) (by repeat (first | exact Foc.here | apply Foc.there)) (SlR.of_osl (E := 49) (a := y1.a) (c := y1.c) (by repeat (first | exact Ext.here | apply Ext.there))) (cells_ones _) (by omega)) rfl ?_
      rintro ⟨a128, c128⟩ -
      rw [← oend_app]
      refine OG.yield (Yield.move rfl) rfl ?_
      refine OG.callo call32 rfl ((by repeat (first | exact Imp.refl _ | exact Imp.none _ | apply Imp.pull (by repeat (first | exact Ext.here | apply Ext.there)) | apply Imp.trans Imp.drop))) (held_in W _ (n := 1) (ac := Q d s r) true rfl) rfl ?_
      rintro y2 hy2
      rw [if_pos rfl] at hy2
      have hy2l : y2.ms.length = s.length := by have := congrArg List.length hy2; simpa [Po.End.bs] using this
      refine OG.effd (Eff.append (a := a128) (c := c128) (m := x7.ms.length + y1.ms.length) (xs := (x7.ms ++ y1.ms).map Msg.cell) (k := y2.ms.length) (ys := y2.ms.map Msg.cell) rfl rfl rfl Try.underlying65 Try.underlying65 ti49 rfl (by decide) (by dsimp only [oend]; rw [List.length_append]; repeat (first | exact Foc.here | apply Foc.there)) (SlR.of_osl (E := 49) (a := y2.a) (c := y2.c) (by repeat (first | exact Ext.here | apply Ext.there))) (cells_ones _) (by omega)) rfl ?_
      rintro ⟨a131, c131⟩ -
      rw [show x7.ms.length + y1.ms.length + y2.ms.length = ((x7.ms ++ y1.ms) ++ y2.ms).length by simp only [List.length_append], ← List.map_append (l₁ := x7.ms ++ y1.ms)]
      refine OG.yield (Yield.assign rfl) rfl ?_
      refine OG.nil ?_
      refine QG.then ?_
      refine CG.seq ?_
      refine CG.region ?_
      refine OG.yield (Yield.move rfl) rfl ?_
      refine OG.yield (Yield.move rfl) rfl ?_
      refine OG.callo call33 rfl (Imp.refl _) (sameM_spec W _ (x := ⟨a131, c131, (x7.ms ++ y1.ms) ++ y2.ms⟩) (y := x6) (by exact SlR.of_osl (E := 49) (a := a131) (c := c131) (by repeat (first | exact Ext.here | apply Ext.there))) (by exact SlR.of_osl (E := 49) (a := x6.a) (c := x6.c) (by repeat (first | exact Ext.here | apply Ext.there))) (by intro m hm; rcases List.mem_append.1 hm with hm | hm; (rcases List.mem_append.1 hm with hm | hm; exact pool_rd (ms := x7.ms) (by repeat (first | exact Ext.here | apply Ext.there)) hm; exact pool_rd (ms := y1.ms) (by repeat (first | exact Ext.here | apply Ext.there)) hm); exact pool_rd (ms := y2.ms) (by repeat (first | exact Ext.here | apply Ext.there)) hm) (by intro m hm; exact pool_rd (ms := x6.ms) (by repeat (first | exact Ext.here | apply Ext.there)) hm) (by unfold Po.End.bs; rw [List.map_append, List.map_append]; show x7.bs ++ y1.bs ++ y2.bs = x6.bs; rw [hy1, hy2]; exact hall) (by simp only [List.length_append]; omega)) rfl ?_
      rintro ⟨⟩ -
      refine OG.yield (Yield.not rfl) rfl ?_
      refine OG.yield (Yield.move rfl) rfl ?_
      refine OG.guard_yes rfl rfl rfl (by decide) ?_
      refine OG.yield (Yield.move rfl) rfl ?_
      refine OG.guard_yes rfl rfl rfl (by decide) ?_
      refine OG.callo call32 rfl ((by repeat (first | exact Imp.refl _ | exact Imp.none _ | apply Imp.pull (by repeat (first | exact Ext.here | apply Ext.there)) | apply Imp.trans Imp.drop))) (held_in W _ (n := 1) (ac := Q d s r) false rfl) rfl ?_
      rintro y3 hy3
      rw [if_neg (by decide)] at hy3
      have hy3l : y3.ms.length = r.length := by have := congrArg List.length hy3; simpa [Po.End.bs] using this
      refine OG.guard_yes rfl rfl rfl (by decide) ?_
      refine OG.yield (Yield.len_slice (a := y3.a) (m := y3.ms.length) (c := y3.c) Try.underlying65 rfl rfl) rfl ?_
      refine OG.guard_yes rfl rfl rfl (by decide) ?_
      refine OG.yield (Yield.move rfl) rfl ?_
      refine OG.guard_yes rfl rfl rfl (by decide) ?_
      refine OG.yield (by first | exact Yield.as (Yield.gtr rfl rfl) (bT (by omega)) | exact Yield.as (Yield.gtr rfl rfl) (bF (by omega)) | exact Yield.gtr rfl rfl) rfl ?_
      refine OG.yield (by first | exact Yield.pick_t rfl rfl | exact Yield.pick_f rfl rfl | exact Yield.pick rfl (fun _ => rfl) (fun _ => rfl)) rfl ?_
      refine OG.yield (Yield.move rfl) rfl ?_
      refine OG.guard_yes rfl rfl rfl (by decide) ?_
      refine OG.yield (Yield.move rfl) rfl ?_
      refine OG.guard_yes rfl rfl rfl (by decide) ?_
      refine OG.callo call32 rfl ((by repeat (first | exact Imp.refl _ | exact Imp.none _ | apply Imp.pull (by repeat (first | exact Ext.here | apply Ext.there)) | apply Imp.trans Imp.drop))) (held_in W _ (n := 1) (ac := Q d s r) true rfl) rfl ?_
      rintro y4 hy4
      rw [if_pos rfl] at hy4
      have hy4l : y4.ms.length = s.length := by have := congrArg List.length hy4; simpa [Po.End.bs] using this
      refine OG.guard_yes rfl rfl rfl (by decide) ?_
      refine OG.yield (Yield.len_slice (a := y4.a) (m := y4.ms.length) (c := y4.c) Try.underlying65 rfl rfl) rfl ?_
      refine OG.guard_yes rfl rfl rfl (by decide) ?_
      refine OG.yield (Yield.move rfl) rfl ?_
      refine OG.guard_yes rfl rfl rfl (by decide) ?_
      refine OG.yield (by first | exact Yield.as (Yield.gtr rfl rfl) (bT (by omega)) | exact Yield.as (Yield.gtr rfl rfl) (bF (by omega)) | exact Yield.gtr rfl rfl) rfl ?_
      refine OG.yield (by first | exact Yield.pick_t rfl rfl | exact Yield.pick_f rfl rfl | exact Yield.pick rfl (fun _ => rfl) (fun _ => rfl)) rfl ?_
      refine OG.nil ?_
      refine QG.then ?_
      refine CG.cond_f rfl ?_
      refine CG.skip ?_
      refine QG.block_normal ?_
      refine QG.then ?_
      refine CG.region ?_
      refine OG.yield (Yield.move rfl) rfl ?_
      refine OG.yield (Yield.add rfl rfl (w64 (by omega) (by omega))) rfl ?_
      refine OG.yield (Yield.assign rfl) rfl ?_
      refine OG.nil ?_
      exact QG.next ⟨i + 1, s, r, x6, x7⟩ ⟨⟨hall, hsl, hrl, hn6, hn7i, hbl⟩, by simp only; omega, by simp only; omega⟩ (by simp only; omega) (by repeat (first | exact Env.sub_nil _ | refine Env.sub_cons rfl ?_)) (by repeat (first | exact Imp.refl _ | exact Imp.none _ | apply Imp.pull (by repeat (first | exact Ext.here | apply Ext.there)) | apply Imp.trans Imp.drop))
    · skip
      refine CG.region ?_
      refine OG.yield (Yield.move rfl) rfl ?_
      refine OG.yield (Yield.move rfl) rfl ?_
      refine OG.yield (Yield.len_slice Try.underlying43 rfl rfl) rfl ?_
      refine OG.yield (by first | exact Yield.as (Yield.lss rfl rfl) (bT (by omega)) | exact Yield.as (Yield.lss rfl rfl) (bF (by omega)) | exact Yield.lss rfl rfl) rfl ?_
      refine OG.yield (Yield.move rfl) rfl ?_
      refine OG.guard_yes rfl rfl rfl (by decide) ?_
      refine OG.yield (Yield.move rfl) rfl ?_
      refine OG.guard_yes rfl rfl rfl (by decide) ?_
      refine OG.yield (by first | exact Yield.as (Yield.lss rfl rfl) (bT (by omega)) | exact Yield.as (Yield.lss rfl rfl) (bF (by omega)) | exact Yield.lss rfl rfl) rfl ?_
      refine OG.yield (by first | exact Yield.pick_t rfl rfl | exact Yield.pick_f rfl rfl | exact Yield.pick rfl (fun _ => rfl) (fun _ => rfl)) rfl ?_
      refine OG.nil ?_
      refine QG.then ?_
      refine CG.cond_f rfl ?_
      refine CG.exit ?_
      refine QG.pass_exit ?_
      refine QG.pass_exit ?_
      refine QG.block_exit ?_
      exact QG.mid ⟨i, s, r, x6, x7⟩ ⟨⟨hall, hsl, hrl, hn6, hn7i, hbl⟩, by simp only; omega⟩ (by repeat (first | exact Env.sub_nil _ | refine Env.sub_cons rfl ?_)) (by repeat (first | exact Imp.refl _ | exact Imp.none _ | apply Imp.pull (by repeat (first | exact Ext.here | apply Ext.there)) | apply Imp.trans Imp.drop))
    · skip
      refine CG.region ?_
      refine OG.yield (Yield.move rfl) rfl ?_
      refine OG.yield (Yield.move rfl) rfl ?_
      refine OG.yield (Yield.len_slice Try.underlying43 rfl rfl) rfl ?_
      refine OG.yield (by first | exact Yield.as (Yield.lss rfl rfl) (bT (by omega)) | exact Yield.as (Yield.lss rfl rfl) (bF (by omega)) | exact Yield.lss rfl rfl) rfl ?_
      refine OG.yield (Yield.move rfl) rfl ?_
      refine OG.guard_no rfl rfl rfl rfl rfl (by decide) (by decide) ?_
      refine OG.guard_no rfl rfl rfl rfl rfl (by decide) (by decide) ?_
      refine OG.yield (by first | exact Yield.pick_t rfl rfl | exact Yield.pick_f rfl rfl | exact Yield.pick rfl (fun _ => rfl) (fun _ => rfl)) rfl ?_
      refine OG.nil ?_
      refine QG.then ?_
      refine CG.cond_f rfl ?_
      refine CG.exit ?_
      refine QG.pass_exit ?_
      refine QG.pass_exit ?_
      refine QG.block_exit ?_
      exact QG.mid ⟨i, s, r, x6, x7⟩ ⟨⟨hall, hsl, hrl, hn6, hn7i, hbl⟩, by simp only; omega⟩ (by repeat (first | exact Env.sub_nil _ | refine Env.sub_cons rfl ?_)) (by repeat (first | exact Imp.refl _ | exact Imp.none _ | apply Imp.pull (by repeat (first | exact Ext.here | apply Ext.there)) | apply Imp.trans Imp.drop))
  rintro ⟨i0, s0, r0, x6, y7⟩ ⟨hx0, hi0⟩
  have hn0 := n7_le hx0
  obtain ⟨hall0, hsl0, hrl0, hn60, -, hbl0⟩ := hx0
  dsimp only at hall0 hsl0 hrl0 hn60 hbl0 hi0 hn0 ⊢
  refine CG.seq ?_
  refine CG.seq ?_
  refine CG.region ?_
  refine OG.yield (Yield.assign rfl) rfl ?_
  refine OG.nil ?_
  refine QG.then ?_
  refine CG.block ?_
  refine CG.loop (fun x : St => x.i ≤ 40 ∧ x.x7.bs ++ x.r ++ x.s = x6.bs ∧ x.r.length + x.s.length + x.i ≤ max 40 (d + d) ∧ x.r.length + x.s.length ≤ 40 - x.i ∧ x.s.length ≤ d ∧ x.r.length ≤ d ∧ x.x6 = x6 ∧ x.x7.ms.length ≤ 150) (fun x => [(5, .pointer (some ⟨p, 0, none⟩)), (6, .slice x6.a x6.ms.length x6.c), (7, .slice x.x7.a x.x7.ms.length x.x7.c), (15, .int .i64 x.i)]) (St.G W p d) (fun x => 40 - x.i) ⟨0, s0, r0, x6, y7⟩ ⟨Nat.zero_le _, hall0, by simp only; omega, by simp only; omega, hsl0, hrl0, rfl, by simp only; omega⟩ (by repeat (first | exact Env.sub_nil _ | refine Env.sub_cons rfl ?_)) (by repeat (first | exact Imp.refl _ | exact Imp.none _ | apply Imp.pull (by repeat (first | exact Ext.here | apply Ext.there)) | apply Imp.trans Imp.drop)) ?_
  rintro ⟨j, s, r, x6', x7⟩ ⟨hj, hall, hm1, hm2, hsl, hrl, hx6, h150⟩
  dsimp only at hj hall hm1 hm2 hsl hrl hx6 h150 ⊢
  subst hx6
  refine CG.seq ?_
  refine CG.seq ?_
  refine CG.region ?_
  refine OG.yield (Yield.move rfl) rfl ?_
  refine OG.yield (by first | exact Yield.as (Yield.lss rfl rfl) (bT (by omega)) | exact Yield.as (Yield.lss rfl rfl) (bF (by omega)) | exact Yield.lss rfl rfl) rfl ?_
  refine OG.nil ?_
  refine QG.then ?_
  refine CG.cond rfl (fun hc => ?_) (fun hc => ?_)
  · try replace hc := of_decide_eq_true hc
    refine CG.skip ?_
    refine QG.then ?_
    refine CG.seq ?_
    refine CG.block ?_
    refine CG.seq ?_
    refine CG.region ?_
    refine OG.yield (Yield.move rfl) rfl ?_
    refine OG.callo call24 rfl ((by repeat (first | exact Imp.refl _ | exact Imp.none _ | apply Imp.pull (by repeat (first | exact Ext.here | apply Ext.there)) | apply Imp.trans Imp.drop))) (transfer_spec W _ (acs := [z0, Q d s r])) rfl ?_
    rintro ⟨a155, c155⟩ -
    rw [tr_two d hd]
    have hk := carry_keep d s r
    have hcl := carry_len d d rfl s r hrl
    have hcg := carry_gets d (by omega) s r
    have hkl := congrArg List.length hk
    rw [List.length_append, List.length_append] at hkl
    rw [List.append_assoc, ← hk, ← List.append_assoc] at hall
    generalize (carry 2 d s r).1 = s1 at hk hcl hkl hall ⊢
    generalize (carry 2 d s r).2 = r1 at hk hcl hkl hall hcg ⊢
    refine OG.nil ?_
    refine QG.then ?_
    refine CG.seq ?_
    rcases (show r1 = [] ∨ ∃ m r', r1 = m :: r' by cases r1; exact .inl rfl; exact .inr ⟨_, _, rfl⟩) with rfl | ⟨m, r', rfl⟩
    · skip
      obtain ⟨rfl, rfl⟩ := hcg rfl
      refine CG.region ?_
      refine OG.yield (Yield.move rfl) rfl ?_
      refine OG.callo call25 rfl ((by repeat (first | exact Imp.refl _ | exact Imp.none _ | apply Imp.pull (by repeat (first | exact Ext.here | apply Ext.there)) | apply Imp.trans Imp.drop))) (recv_bad W _ (n := 1) (ac := Q d s1 []) 1 rfl (show (110 : Int) ≠ 0 by decide)) rfl ?_
      rintro ⟨⟩ -
      rw [show recvE (Q d s1 []) 1 = 110 from rfl]
      refine OG.yield (Yield.move rfl) rfl ?_
      refine OG.yield (Yield.extract rfl rfl) rfl ?_
      refine OG.yield (Yield.extract rfl rfl) rfl ?_
      refine OG.yield (Yield.assign rfl) rfl ?_
      refine OG.yield (Yield.assign rfl) rfl ?_
      refine OG.nil ?_
      refine QG.then ?_
      refine CG.seq ?_
      refine CG.region ?_
      refine OG.yield (Yield.move rfl) rfl ?_
      refine OG.yield (by first | exact Yield.as (Yield.eql rfl rfl) (bT (by omega)) | exact Yield.as (Yield.eql rfl rfl) (bF (by omega)) | exact Yield.eql rfl rfl) rfl ?_
      refine OG.nil ?_
      refine QG.then ?_
      refine CG.cond_f rfl ?_
      refine CG.skip ?_
      refine QG.block_normal ?_
      refine QG.then ?_
      refine CG.region ?_
      refine OG.yield (Yield.move rfl) rfl ?_
      refine OG.yield (Yield.add rfl rfl (w64 (by omega) (by omega))) rfl ?_
      refine OG.yield (Yield.assign rfl) rfl ?_
      refine OG.nil ?_
      have hs1 : s1.length = 0 := by simp only [List.length_nil] at hkl; omega
      exact QG.next ⟨j + 1, s1, [], x6', x7⟩ ⟨by simp only; omega, hall, by simp only [List.length_nil]; omega, by simp only [List.length_nil]; omega, by simp only; omega, Nat.zero_le _, rfl, h150⟩ (by simp only; omega) (by repeat (first | exact Env.sub_nil _ | refine Env.sub_cons rfl ?_)) (by repeat (first | exact Imp.refl _ | exact Imp.none _ | apply Imp.pull (by repeat (first | exact Ext.here | apply Ext.there)) | apply Imp.trans Imp.drop))
    · skip
      have hm64 : m.length ≤ 64 := hbl0 m (by rw [← hall]; simp)
      simp only [List.length_cons] at hkl hcl
      refine CG.region ?_
      refine OG.yield (Yield.move rfl) rfl ?_
      refine OG.callo call25 rfl ((by repeat (first | exact Imp.refl _ | exact Imp.none _ | apply Imp.pull (by repeat (first | exact Ext.here | apply Ext.there)) | apply Imp.trans Imp.drop))) (recv_ok W _ (n := 1) (ac := Q d s1 (m :: r')) 1 (m := m) (rest := r') rfl rfl rfl) rfl ?_
      rintro bz -
      rw [if_pos rfl]
      dsimp only [List.set_cons_succ, List.set_cons_zero]
      refine OG.yield (Yield.move rfl) rfl ?_
      refine OG.yield (Yield.extract rfl rfl) rfl ?_
      refine OG.yield (Yield.extract rfl rfl) rfl ?_
      refine OG.yield (Yield.assign rfl) rfl ?_
      refine OG.yield (Yield.assign rfl) rfl ?_
      refine OG.nil ?_
      refine QG.then ?_
      refine CG.seq ?_
      refine CG.region ?_
      refine OG.yield (Yield.move rfl) rfl ?_
      refine OG.yield (by first | exact Yield.as (Yield.eql rfl rfl) (bT (by omega)) | exact Yield.as (Yield.eql rfl rfl) (bF (by omega)) | exact Yield.eql rfl rfl) rfl ?_
      refine OG.nil ?_
      refine QG.then ?_
      refine CG.cond_t rfl ?_
      refine CG.region ?_
      refine OG.yield (Yield.move rfl) rfl ?_
      refine OG.effd (Eff.lit0 Try.underlying49 ti5 rfl) rfl ?_
      rintro b164 -
      refine OG.yield (Yield.move rfl) rfl ?_
      refine OG.effd (Eff.appendB0 (ys := m) rfl rfl rfl Try.underlying49 Try.underlying49 ti5 (by decide) (by repeat (first | exact Foc.here | apply Foc.there)) (SlR.of_osl (E := 5) (a := some ⟨bz, 0, none⟩) (by repeat (first | exact Ext.here | apply Ext.there))) (by omega)) rfl ?_
      rintro ⟨a166, c166⟩ -
      refine OG.effd (Eff.lit1 Try.underlying65 ti49 rfl rfl rfl) rfl ?_
      rintro b167 -
      refine OG.effd (Eff.append (a := x7.a) (c := x7.c) (m := x7.ms.length) (xs := x7.ms.map Msg.cell) (k := 1) (ys := [Msg.cell ⟨a166, c166, m⟩]) rfl rfl rfl Try.underlying65 Try.underlying65 ti49 rfl (by decide) (by repeat (first | exact Foc.here | apply Foc.there)) (SlR.of_osl (a := some ⟨b167, 0, none⟩) (by repeat (first | exact Ext.here | apply Ext.there))) (by simp [one, Msg.cell]) (by omega)) rfl ?_
      rintro ⟨a168, c168⟩ -
      refine OG.yield (Yield.assign rfl) rfl ?_
      refine OG.nil ?_
      refine QG.block_normal ?_
      refine QG.then ?_
      refine CG.region ?_
      refine OG.yield (Yield.move rfl) rfl ?_
      refine OG.yield (Yield.add rfl rfl (w64 (by omega) (by omega))) rfl ?_
      refine OG.yield (Yield.assign rfl) rfl ?_
      refine OG.nil ?_
      refine QG.next ⟨j + 1, s1, r', x6', ⟨a168, c168, x7.ms ++ [⟨a166, c166, m⟩]⟩⟩ ⟨by simp only; omega, ?_, by simp only; omega, by simp only; omega, by simp only; omega, by simp only; omega, rfl, ?_⟩ (by simp only; omega) ?_ ?_
      · dsimp only; rw [bs_snoc, ← hall]; show x7.bs ++ [m] ++ r' ++ s1 = _; simp
      · have := congrArg List.length hall
        simp only [List.length_append, List.length_cons, Po.End.bs, List.length_map] at this
        simp only [List.length_append, List.length_cons, List.length_nil]; omega
      · dsimp only; rw [List.length_append]; exact (by repeat (first | exact Env.sub_nil _ | refine Env.sub_cons rfl ?_))
      · unfold St.G; dsimp only; rw [oend_snoc]; exact Imp.trans (Imp.pull (by repeat (first | exact Ext.here | apply Ext.there)) (Imp.pull (by repeat (first | exact Ext.here | apply Ext.there)) (Imp.pull (by repeat (first | exact Ext.here | apply Ext.there)) (Imp.pull (by repeat (first | exact Ext.here | apply Ext.there)) (Imp.pull (A := Msg.own ⟨a166, c166, m⟩) (by repeat (first | exact Ext.here | apply Ext.there)) (Imp.pull (by repeat (first | exact Ext.here | apply Ext.there)) (by repeat (first | exact Imp.refl _ | exact Imp.none _ | apply Imp.pull (by repeat (first | exact Ext.here | apply Ext.there)) | apply Imp.trans Imp.drop)))))))) (Imp.cons (Imp.cons (Imp.cons (Imp.cons pool_add))))
  · try replace hc := of_decide_eq_false hc
    refine CG.exit ?_
    refine QG.pass_exit ?_
    refine QG.pass_exit ?_
    refine QG.block_exit ?_
    refine QG.then ?_
    refine CG.seq ?_
    have hj40 : j = 40 := by omega
    subst hj40
    have hrn : r = [] := List.length_eq_zero_iff.1 (by omega)
    have hsn : s = [] := List.length_eq_zero_iff.1 (by omega)
    subst hrn hsn
    rw [List.append_nil, List.append_nil] at hall
    refine CG.region ?_
    refine OG.yield (Yield.move rfl) rfl ?_
    refine OG.yield (Yield.move rfl) rfl ?_
    refine OG.callo call33 rfl (Imp.refl _) (sameM_spec W _ (x := x7) (y := x6') (by exact SlR.of_osl (E := 49) (a := x7.a) (c := x7.c) (by repeat (first | exact Ext.here | apply Ext.there))) (by exact SlR.of_osl (E := 49) (a := x6'.a) (c := x6'.c) (by repeat (first | exact Ext.here | apply Ext.there))) (by intro m hm; exact pool_rd (ms := x7.ms) (by repeat (first | exact Ext.here | apply Ext.there)) hm) (by intro m hm; exact pool_rd (ms := x6'.ms) (by repeat (first | exact Ext.here | apply Ext.there)) hm) hall (by omega)) rfl ?_
    rintro ⟨⟩ -
    refine OG.yield (Yield.assign rfl) rfl ?_
    refine OG.nil ?_
    refine QG.then ?_
    refine CG.ret ?_
    exact QG.ret1 rfl rfl () trivial rfl (by repeat (first | exact Imp.refl _ | exact Imp.none _ | apply Imp.pull (by repeat (first | exact Ext.here | apply Ext.there)) | apply Imp.trans Imp.drop))
open Go.ChangeShapes Go.WideShapes Go.ChangeAt
theorem own : ownKnob Try.prog.godebug = none := by kernel_rfl
theorem laid : laidOutB Try.prog = true := by kernel_rfl
set_option maxRecDepth 100000 in
theorem lifted (os : Os) (started : os.Started) (H : Type) (enc : TypeId × Value → H) :
    ReturnsInHanded {} Try.checked os 9 .any (Rows.portsOrderSpec.pre6 enc Try.prog Try.f9 Rows.portsOrderRow.domain false) (Rows.portsOrderSpec.post enc Try.prog Try.f9 false true false false) := by
  refine returnsInHanded_of_change_sized (C := Try.checked) own started (by kernel_rfl) Try.func9
    (ChangeSpec.witness6 (enc := enc) (C := Try.checked) false ⟨#[], #[.int .i64 0, .slice none 0 0], []⟩ 8 (by kernel_rfl) (by kernel_rfl) (by kernel_rfl) (by kernel_rfl)) ?_
  intro W base args ds gs before hval0 hW hcnd hsz0 _
  have hsz : (DataW.weightsEach Try.prog (Try.f9.params.toList ++ Rows.portsOrderSpec.plain.varTypes Try.prog) (ds ++ gs)).all (· ≤ reachBytes) = true := hsz0
  have hval : ∀ (j : Nat) t v, Try.f9.params[j]? = some t → args[j]? = some v → Value.okWide Try.prog W .any base t v := hval0
  have hW' := hW
  obtain ⟨p, q, hA0, hV, rfl, hfz, hnd⟩ := hW
  have hA : DataW.TrodAll enc Try.prog W 0 (fun _ => true) true Try.f9.params.toList args.toList ds p := hA0
  rw [Try.params9] at hA hval hsz
  obtain ⟨v0, vs0, d0, ds0, p0, q0, hargs, rfl, rfl, h0, r0⟩ := trodAll_cons hA
  obtain ⟨v1, vs1, d1, ds1, p1, q1, rfl, rfl, rfl, h1, r1⟩ := trodAll_cons r0
  obtain ⟨rfl, rfl, rfl⟩ := trodAll_nil r1
  obtain rfl : args = #[v0, v1] := by cases args; simp_all
  obtain ⟨rfl, rfl⟩ := trodVars_none hV
  obtain ⟨a0, rfl, rfl, rfl, w0⟩ := open_int Try.underlying3 (hval 0 3 v0 rfl rfl) h0
  have k1 := weights_le hsz 1 (t := 43) (d := d1) rfl rfl
  have s1 := Opn.param Try.underlying43 (POp.list W) (hval 1 43 v1 rfl rfl) h1 k1
  obtain ⟨x1, c1, ops, e1, l1, ok1, s1, m1⟩ := s1
  cases e1
  clear hA0 hval0 hsz0 hsz
  refine ((walk W s1 ok1) W (Sat.start W)).mono fun e W' he => ?_
  obtain ⟨_, _, he, hs⟩ := he
  subst he
  exact ⟨_, rfl, law_post laid (params_ok (by kernel_rfl)) rfl Try.underlying4 hW' rfl rfl (Sat.below (by repeat (first | exact Ext.here | apply Ext.there)) hs)⟩
theorem over : Rows.portsOrderRow.holds Try.pinned (OpenSpec.ofChange Rows.portsOrderSpec) :=
  OpenClaim.holds_of_wide 9 Try.f9 rfl rfl rfl rfl rfl rfl rfl ⟨rfl, rfl, rfl, rfl, rfl⟩ rfl rfl rfl rfl rfl (by kernel_rfl) Try.func9 (by kernel_rfl)
    (of_decide_eq_true (by kernel_rfl)) (by unfold Func.isWrapper; first | (rw [if_pos (by decide +kernel)]; kernel_rfl) | (rw [if_neg (by decide +kernel)]; exact ⟨rfl, rfl⟩))
    (fun os started H enc _ => lifted os started H enc)
theorem proved : Rows.PortsOrderSaid := over
#print axioms proved
end Go.Proofs.Ytjigjbcdopmeeaa.portsOrder
