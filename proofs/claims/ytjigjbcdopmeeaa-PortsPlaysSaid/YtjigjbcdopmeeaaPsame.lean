/- ports: Channels, Channel, Clone; the document's New; the law's spoil and Same. -/
import Derived.Test.YtjigjbcdopmeeaaPrtr
import Derived.Test.YtjigjbcdopmeeaaRet
namespace Go.Proofs.Ytjigjbcdopmeeaa.Po
open Go Go.Sl Go.RowKit Go.Proofs Go.Proofs.Ytjigjbcdopmeeaa.T
set_option linter.unusedVariables false
set_option linter.unusedSimpArgs false
set_option maxRecDepth 100000
theorem row_take {W0 : World} {G : List HProp} {b o : Nat} {xs ys : List Value} (h : Row W0 G b o xs) (k : Nat) (hy : xs.take k = ys) : Row W0 G b o ys := fun i v hi => h i v (by
  rw [← hy, List.getElem?_take] at hi
  split at hi
  · exact hi
  · cases hi)
def cz : Cf := ⟨0, 0, 0, 0, 0⟩
section
variable (W0 : World) (Fr : List HProp)
theorem channels_spec {p : Nat} {acs : List AC} : Ctr Try.prog W0 58 [.pointer (some ⟨p, 0, none⟩)] (Po p acs :: Fr) (fun _ : Unit => True) (fun _ => .int .i64 acs.length) (fun _ => Po p acs :: Fr) := by
  refine Ctr.ex Ext.here po_open ?_
  intro x hx
  refine Ctr.imp star_open ?_
  have hln := hx.lens
  dsimp only [CO, List.cons_append, List.nil_append]
  refine Ctr.of_body Try.func58 rfl Try.ntmps58 rfl ?_
  refine CG.seq ?_
  refine CG.region ?_
  refine OG.yield (Yield.assign rfl) rfl ?_
  refine OG.nil ?_
  refine QG.then ?_
  refine CG.seq ?_
  refine CG.region ?_
  refine OG.yield (Yield.move rfl) rfl ?_
  refine OG.yield (Yield.nilCheck rfl) rfl ?_
  refine OG.yield (Yield.fieldAddr fa82_0 rfl) rfl ?_
  refine OG.yield (Yield.load ti80 rfl (by first | exact Cel.of_blk (by repeat (first | exact Ext.here | apply Ext.there)) rfl | exact (hrow (by repeat (first | exact Ext.here | apply Ext.there))) _ _ rfl)) rfl ?_
  refine OG.yield (Yield.len_slice Try.underlying80 rfl rfl) rfl ?_
  refine OG.yield (Yield.assign rfl) rfl ?_
  refine OG.nil ?_
  refine QG.then ?_
  refine CG.ret ?_
  exact QG.ret1 rfl rfl () trivial (by rw [hln]) (Imp.trans (by repeat (first | exact Imp.refl _ | exact Imp.none _ | apply Imp.pull (by repeat (first | exact Ext.here | apply Ext.there)) | apply Imp.trans Imp.drop)) (po_close x hx))
theorem channel_out {p : Nat} {acs : List AC} (n : Int) (hn : n < 0 ∨ (acs.length : Int) ≤ n) : Ctr Try.prog W0 59 [.pointer (some ⟨p, 0, none⟩), .int .i64 n] (Po p acs :: Fr) (fun _ : Unit => True) (fun _ => .tuple #[.agg cz.cells.toArray, .int .i64 2]) (fun _ => Po p acs :: Fr) := by
  refine Ctr.ex Ext.here po_open ?_
  intro x hx
  refine Ctr.imp star_open ?_
  have hln := hx.lens
  dsimp only [CO, List.cons_append, List.nil_append]
  refine Ctr.of_body Try.func59 rfl Try.ntmps59 rfl ?_
  refine CG.seq ?_
  refine CG.region ?_
  refine OG.effd (Eff.alloc ti47) rfl ?_
  rintro b4 -
  refine OG.yield (Yield.assign rfl) rfl ?_
  refine OG.nil ?_
  refine QG.then ?_
  refine CG.seq ?_
  refine CG.region ?_
  refine OG.yield (Yield.move rfl) rfl ?_
  refine OG.yield (Yield.move rfl) rfl ?_
  refine OG.callo call45 rfl ((by repeat (first | exact Imp.refl _ | exact Imp.none _ | apply Imp.pull (by repeat (first | exact Ext.here | apply Ext.there)) | apply Imp.trans Imp.drop))) (at_out W0 _ (p := p) (n := n) (by omega)) rfl ?_
  rintro ⟨⟩ -
  refine OG.yield (Yield.assign rfl) rfl ?_
  refine OG.nil ?_
  refine QG.then ?_
  refine CG.seq ?_
  refine CG.seq ?_
  refine CG.region ?_
  refine OG.yield (Yield.move rfl) rfl ?_
  refine OG.yield (by first | exact Yield.ptr_nil Try.underlying87 rfl rfl | exact Yield.nil_nil Try.underlying87 rfl rfl) rfl ?_
  refine OG.nil ?_
  refine QG.then ?_
  refine CG.cond_t rfl ?_
  refine CG.seq ?_
  refine CG.region ?_
  refine OG.yield (Yield.build0 bu47 ti47) rfl ?_
  refine OG.eff (Eff.storeAll ti47 rfl rfl (by repeat (first | exact Foc.here | apply Foc.there)) rfl (by simp [one]) rfl) rfl ?_
  rintro ⟨⟩ -
  refine OG.yield (Yield.assign rfl) rfl ?_
  refine OG.nil ?_
  refine QG.then ?_
  refine CG.ret ?_
  refine QG.pass_ret ?_
  exact QG.rets [.agg cz.cells.toArray, .int .i64 2] rfl ⟨ResP.agg ti47 rfl rfl (Row.of_blk (b := b4) (by repeat (first | exact Ext.here | apply Ext.there)) rfl), rfl, trivial⟩ () trivial rfl (Imp.trans (by repeat (first | exact Imp.refl _ | exact Imp.none _ | apply Imp.pull (by repeat (first | exact Ext.here | apply Ext.there)) | apply Imp.trans Imp.drop)) (po_close x hx))
theorem channel_in {p n : Nat} {acs : List AC} {ac : AC} (hac : acs[n]? = some ac) : Ctr Try.prog W0 59 [.pointer (some ⟨p, 0, none⟩), .int .i64 n] (Po p acs :: Fr) (fun _ : Unit => True) (fun _ => .tuple #[.agg ac.cf.cells.toArray, .int .i64 0]) (fun _ => Po p acs :: Fr) := by
  refine Ctr.ex Ext.here po_open ?_
  intro x hx
  refine Ctr.imp star_open ?_
  have hln := hx.lens
  obtain ⟨ch, hch, rfl⟩ := hx.get hac
  have hnl : n < x.chs.length := (List.getElem?_eq_some_iff.1 hch).1
  refine Ctr.imp (cp_open hch) ?_
  have hcs : (x.chs.set n ch)[n]? = some ch := by rw [set_self hch]; exact hch
  refine Ctr.pure (fun w hw => shape_chs (cs := x.chs.set n ch) hch (by rw [List.length_set]) (Ext.there Ext.here) w hw) ?_
  rintro ⟨b, o, hxa⟩
  have hback := cp_back (p := p) (G := Fr) hch hx
  unfold CP at hback ⊢
  rw [hxa] at hback ⊢
  dsimp only [List.cons_append, List.nil_append] at hback ⊢
  refine Ctr.of_body Try.func59 rfl Try.ntmps59 rfl ?_
  refine CG.seq ?_
  refine CG.region ?_
  refine OG.effd (Eff.alloc ti47) rfl ?_
  rintro b4 -
  refine OG.yield (Yield.assign rfl) rfl ?_
  refine OG.nil ?_
  refine QG.then ?_
  refine CG.seq ?_
  refine CG.region ?_
  refine OG.yield (Yield.move rfl) rfl ?_
  refine OG.yield (Yield.move rfl) rfl ?_
  refine OG.callo call45 rfl ((by repeat (first | exact Imp.refl _ | exact Imp.none _ | apply Imp.pull (by repeat (first | exact Ext.here | apply Ext.there)) | apply Imp.trans Imp.drop))) (at_in W0 _ (p := p) (b := b) (o := o) (c := x.c) (n := n) hnl) rfl ?_
  rintro ⟨⟩ -
  refine OG.yield (Yield.assign rfl) rfl ?_
  refine OG.nil ?_
  refine QG.then ?_
  refine CG.seq ?_
  refine CG.seq ?_
  refine CG.region ?_
  refine OG.yield (Yield.move rfl) rfl ?_
  refine OG.yield (by first | exact Yield.ptr_nil Try.underlying87 rfl rfl | exact Yield.nil_nil Try.underlying87 rfl rfl) rfl ?_
  refine OG.nil ?_
  refine QG.then ?_
  refine CG.cond_f rfl ?_
  refine CG.skip ?_
  refine QG.then ?_
  refine CG.seq ?_
  refine CG.region ?_
  refine OG.yield (Yield.move rfl) rfl ?_
  refine OG.yield (Yield.nilCheck rfl) rfl ?_
  refine OG.yield (Yield.fieldAddr fa86_0 rfl) rfl ?_
  refine OG.yield (Yield.load_agg (vs := (Chan.abs ch).cf.cells) ti47 rfl (Cf.len _) (row_take ((SlR.of_osl (E := 86) (by repeat (first | exact Ext.here | apply Ext.there))).elem Chan.len hcs) 5 rfl)) rfl ?_
  refine OG.eff (Eff.storeAll ti47 rfl rfl (by repeat (first | exact Foc.here | apply Foc.there)) rfl (Cf.ones _) rfl) rfl ?_
  rintro ⟨⟩ -
  refine OG.yield (Yield.assign rfl) rfl ?_
  refine OG.nil ?_
  refine QG.then ?_
  refine CG.ret ?_
  exact QG.rets [.agg (Chan.abs ch).cf.cells.toArray, .int .i64 0] rfl ⟨ResP.agg ti47 rfl rfl (Row.of_blk (b := b4) (by repeat (first | exact Ext.here | apply Ext.there)) rfl), rfl, trivial⟩ () trivial rfl (Imp.trans (by repeat (first | exact Imp.refl _ | exact Imp.none _ | apply Imp.pull (by repeat (first | exact Ext.here | apply Ext.there)) | apply Imp.trans Imp.drop)) hback)
structure Cw where
  i : Nat
  chs : List Chan
  pl : List Msg
  a : Option Addr
  c : Nat
structure Cw.OK (acs : List AC) (s : Cw) : Prop where
  le : s.i ≤ acs.length
  abs : s.chs.map Chan.abs = acs.take s.i
  mem : ∀ ch ∈ s.chs, ∀ m, m ∈ ch.s.ms ∨ m ∈ ch.r.ms → m ∈ s.pl
set_option maxHeartbeats 2000000 in
theorem clone_spec {p : Nat} {acs : List AC} : Ctr Try.prog W0 40 [.pointer (some ⟨p, 0, none⟩)] (Po p acs :: Fr) (fun _ : Nat => True) (fun u => .pointer (some ⟨u, 0, none⟩)) (fun u => Po u acs :: Po p acs :: Fr) := by
  refine Ctr.pure (ψ := acs.length ≤ 1000 ∧ ∀ a ∈ acs, a.OK) (fun w hw => by obtain ⟨_, _, x, hx, _⟩ := Sat.ext Ext.here hw; exact ⟨hx.len, hx.ok⟩) fun ⟨hal, hao⟩ => ?_
  refine Ctr.of_body Try.func40 rfl Try.ntmps40 rfl ?_
  refine CG.seq ?_
  refine CG.region ?_
  refine OG.yield (Yield.assign rfl) rfl ?_
  refine OG.nil ?_
  refine QG.then ?_
  refine CG.seq ?_
  refine CG.region ?_
  refine OG.yield (Yield.build0 bu82 ti82) rfl ?_
  refine OG.effd (Eff.box rfl) rfl ?_
  rintro b7 -
  refine OG.yield (Yield.assign rfl) rfl ?_
  refine OG.nil ?_
  refine QG.then ?_
  refine CG.ex (A := Po p acs) (by repeat (first | exact Ext.here | apply Ext.there)) po_open ?_
  intro x0 hx0
  refine CG.imp star_open ?_
  have hln0 := hx0.lens
  dsimp only [CO, List.cons_append, List.nil_append]
  refine CG.seq ?_
  refine CG.seq ?_
  refine CG.region ?_
  refine OG.yield (Yield.move rfl) rfl ?_
  refine OG.yield (Yield.nilCheck rfl) rfl ?_
  refine OG.yield (Yield.fieldAddr fa82_0 rfl) rfl ?_
  refine OG.yield (Yield.load ti80 rfl (by first | exact Cel.of_blk (by repeat (first | exact Ext.here | apply Ext.there)) rfl | exact (hrow (by repeat (first | exact Ext.here | apply Ext.there))) _ _ rfl)) rfl ?_
  refine OG.yield (Yield.len_slice Try.underlying80 rfl rfl) rfl ?_
  refine OG.yield (Yield.move rfl) rfl ?_
  refine OG.nil ?_
  refine QG.then ?_
  refine CG.block ?_
  refine CG.loop (fun s : Cw => s.OK acs) (fun s => [(0, .pointer (some ⟨p, 0, none⟩)), (3, .pointer (some ⟨b7, 0, none⟩)), (12, .int .i64 acs.length), (13, .int .i64 s.i)]) (fun s => blk b7 [.slice s.a s.chs.length s.c] 82 :: osl 86 7 s.a s.c s.chs.length ((s.chs.map Chan.cells).flatten) :: Star (s.chs.map Chan.own) :: pool s.pl :: Po p acs :: Fr) (fun s => acs.length - s.i) ⟨0, [], [], none, 0⟩ ⟨Nat.zero_le _, rfl, fun ch h => absurd h List.not_mem_nil⟩ (by rw [← hln0]; exact (by repeat (first | exact Env.sub_nil _ | refine Env.sub_cons rfl ?_))) (Imp.trans pool_nil (Imp.trans star_nil (Imp.trans (osl_nil (E := 86) (sz := 7)) (Imp.trans (Imp.pull (A := blk b7 [.slice none 0 0] 82) (by repeat (first | exact Ext.here | apply Ext.there)) (Imp.refl _)) (Imp.cons (Imp.cons (Imp.cons (Imp.cons (Imp.trans (by repeat (first | exact Imp.refl _ | exact Imp.none _ | apply Imp.pull (by repeat (first | exact Ext.here | apply Ext.there)) | apply Imp.trans Imp.drop)) (po_close x0 hx0)))))))))) ?_
  rintro ⟨i, chs, pl, a, c⟩ ⟨hi, habs, hmem⟩
  dsimp only at hi habs hmem ⊢
  have hcl : chs.length = i := by have := congrArg List.length habs; simp only [List.length_map, List.length_take] at this; omega
  refine CG.seq ?_
  refine CG.region ?_
  refine OG.yield (by first | exact Yield.as (Yield.lss rfl rfl) (bT (by omega)) | exact Yield.as (Yield.lss rfl rfl) (bF (by omega)) | exact Yield.lss rfl rfl) rfl ?_
  refine OG.nil ?_
  refine QG.then ?_
  refine CG.seq ?_
  refine CG.cond rfl (fun hc => ?_) (fun hc => ?_)
  · try replace hc := of_decide_eq_true hc
    have hi' : i < acs.length := by omega
    have hget : acs[i]? = some acs[i] := by simp [hi']
    generalize acs[i] = ac at hget
    refine CG.ex (A := Po p acs) (by repeat (first | exact Ext.here | apply Ext.there)) po_open ?_
    intro x hx
    refine CG.imp star_open ?_
    have hln := hx.lens
    obtain ⟨ch, hch, rfl⟩ := hx.get hget
    have hnl : i < x.chs.length := (List.getElem?_eq_some_iff.1 hch).1
    have hmem2 := hx.mem ch (List.mem_of_getElem? hch)
    have hok := hao _ (List.mem_of_getElem? hget)
    have hrl : ch.r.ms.length ≤ 8 := by have := hok.r; simp only [Chan.abs, End.bs, List.length_map] at this; exact this
    have hsl : ch.s.ms.length ≤ 8 := by have := hok.s; simp only [Chan.abs, End.bs, List.length_map] at this; exact this
    refine CG.imp (cp_open hch) ?_
    have hcs : (x.chs.set i ch)[i]? = some ch := by rw [set_self hch]; exact hch
    refine CG.pure (fun w hw => shape_chs (cs := x.chs.set i ch) hch (by rw [List.length_set]) (Ext.there Ext.here) w hw) ?_
    rintro ⟨b, o, hxa⟩
    have hback := cp_back (p := p) (G := Fr) hch hx
    unfold CP at hback ⊢
    rw [hxa] at hback ⊢
    dsimp only [List.cons_append, List.nil_append] at hback ⊢
    refine CG.skip ?_
    refine QG.then ?_
    refine CG.seq ?_
    refine CG.block ?_
    refine CG.seq ?_
    refine CG.region ?_
    refine OG.yield (Yield.move rfl) rfl ?_
    refine OG.yield (Yield.assign rfl) rfl ?_
    refine OG.nil ?_
    refine QG.then ?_
    refine CG.seq ?_
    refine CG.region ?_
    refine OG.yield (Yield.move rfl) rfl ?_
    refine OG.yield (Yield.nilCheck rfl) rfl ?_
    refine OG.yield (Yield.fieldAddr fa82_0 rfl) rfl ?_
    refine OG.yield (Yield.load ti80 rfl (by first | exact Cel.of_blk (by repeat (first | exact Ext.here | apply Ext.there)) rfl | exact (hrow (by repeat (first | exact Ext.here | apply Ext.there))) _ _ rfl)) rfl ?_
    refine OG.yield (Yield.move rfl) rfl ?_
    refine OG.yield (Yield.index_slice Try.underlying80 ti86 rfl rfl (by omega) (by omega)) rfl ?_
    refine OG.yield (Yield.assign rfl) rfl ?_
    refine OG.nil ?_
    refine QG.then ?_
    refine CG.draw (.look 0 0 (.look 1 0 (.look 2 0 (.look 3 0 (.look 4 2 (.look 5 0 (.look 6 0 (.look 7 0 (.look 8 0 (.look 9 1 (.look 10 1 (.look 11 1 (.look 14 0 (.look 15 0 (.look 16 0 (.eff1 12 false (.look 13 0 (.eff1 17 false (.look 18 1 (.look 19 1 (.eff1 20 false (.eff1 21 false (.look 22 1 (.look 23 1 (.eff1 24 true (.done)))))))))))))))))))))))))) [12, 17, 20, 21, 24] [4] ([osl 86 7 (some ⟨b, o, none⟩) x.c x.chs.length (((x.chs.set i ch).map Chan.cells).flatten)]) ([blk b7 [.slice a chs.length c] 82]) mixed (by kernel_rfl) ((by repeat (first | exact Imp.refl _ | exact Imp.none _ | apply Imp.pull (by repeat (first | exact Ext.here | apply Ext.there)) | apply Imp.trans Imp.drop))) ((by repeat (first | exact Imp.refl _ | exact Imp.none _ | apply Imp.pull (by repeat (first | exact Ext.here | apply Ext.there)) | apply Imp.trans Imp.drop))) ?_
    refine DG.look rfl rfl (Yield.move rfl) rfl ?_
    refine DG.look rfl rfl (Yield.move rfl) rfl ?_
    refine DG.look rfl rfl (Yield.nilCheck rfl) rfl ?_
    refine DG.look rfl rfl (Yield.fieldAddr fa82_0 rfl) rfl ?_
    refine DG.look rfl rfl (Yield.load (v := .slice a chs.length c) ti80 rfl (Cel.of_blk (b := b7) (by repeat (first | exact Ext.here | apply Ext.there)) rfl)) rfl ?_
    refine DG.look rfl rfl (Yield.move rfl) rfl ?_
    refine DG.look rfl rfl (Yield.nilCheck rfl) rfl ?_
    refine DG.look rfl rfl (Yield.fieldAddr fa86_0 rfl) rfl ?_
    refine DG.look rfl rfl (Yield.load_agg (vs := (Chan.abs ch).cf.cells) ti47 rfl (Cf.len _) (row_take ((SlR.of_osl (E := 86) (by repeat (first | exact Ext.here | apply Ext.there))).elem Chan.len hcs) 5 rfl)) rfl ?_
    refine DG.look rfl rfl (Yield.move rfl) rfl ?_
    refine DG.look rfl rfl (Yield.nilCheck rfl) rfl ?_
    refine DG.look rfl rfl (Yield.fieldAddr fa86_1 rfl) rfl ?_
    refine DG.look rfl rfl (Yield.move rfl) rfl ?_
    refine DG.look rfl rfl (Yield.nilCheck rfl) rfl ?_
    refine DG.look rfl rfl (Yield.fieldAddr fa86_2 rfl) rfl ?_
    refine DG.eff1 ?_
    refine Chg.callo rfl rfl call49 rfl (Imp.refl _) (all_spec W0 _ (b := b) (o := o + i * 7 + 5) (x := ch.s) (by exact ((SlR.of_osl (E := 86) (a := some ⟨b, o, none⟩) (by repeat (first | exact Ext.here | apply Ext.there))).elem Chan.len hcs) 5 _ rfl) (by exact SlR.of_osl (E := 49) (by repeat (first | exact Ext.here | apply Ext.there))) (by intro m hm; exact pool_rd (ms := x.pl) (by repeat (first | exact Ext.here | apply Ext.there)) (hmem2 m (.inl hm))) (by omega) (by intro m hm; have := hok.sl m.b (List.mem_map_of_mem hm); omega)) rfl (fun _ => (by repeat (first | exact Imp.refl _ | exact Imp.none _ | apply Imp.pull (by repeat (first | exact Ext.here | apply Ext.there)) | apply Imp.trans Imp.drop))) (fun _ => Imp.refl _) (fun _ => (by repeat (first | exact Imp.refl _ | exact Imp.none _ | apply Imp.pull (by repeat (first | exact Ext.here | apply Ext.there)) | apply Imp.trans Imp.drop))) ?_
    rintro y hy
    refine DG.look rfl rfl (Yield.build (pvs := [(0, y.cell)]) bu84 ti84 rfl (cells := [y.cell]) rfl) rfl ?_
    refine DG.eff1 ?_
    refine Chg.callo rfl rfl call49 rfl (Imp.refl _) (all_spec W0 _ (b := b) (o := o + i * 7 + 6) (x := ch.r) (by exact ((SlR.of_osl (E := 86) (a := some ⟨b, o, none⟩) (by repeat (first | exact Ext.here | apply Ext.there))).elem Chan.len hcs) 6 _ rfl) (by exact SlR.of_osl (E := 49) (by repeat (first | exact Ext.here | apply Ext.there))) (by intro m hm; exact pool_rd (ms := x.pl) (by repeat (first | exact Ext.here | apply Ext.there)) (hmem2 m (.inr hm))) (by omega) (by intro m hm; have := hok.rl m.b (List.mem_map_of_mem hm); omega)) rfl (fun _ => (by repeat (first | exact Imp.refl _ | exact Imp.none _ | apply Imp.pull (by repeat (first | exact Ext.here | apply Ext.there)) | apply Imp.trans Imp.drop))) (fun _ => Imp.refl _) (fun _ => (by repeat (first | exact Imp.refl _ | exact Imp.none _ | apply Imp.pull (by repeat (first | exact Ext.here | apply Ext.there)) | apply Imp.trans Imp.drop))) ?_
    rintro z hz
    refine DG.look rfl rfl (Yield.build (pvs := [(0, z.cell)]) bu84 ti84 rfl (cells := [z.cell]) rfl) rfl ?_
    refine DG.look rfl rfl (Yield.build (pvs := [(0, .agg (Chan.abs ch).cf.cells.toArray), (1, .agg #[y.cell]), (2, .agg #[z.cell])]) bu86 ti86 rfl (cells := Chan.cells { ch with s := y, r := z }) rfl) rfl ?_
    refine DG.eff1 ?_
    refine Chg.eff rfl rfl (Eff.lit [.tmp 41] (vs := [.agg (Chan.cells { ch with s := y, r := z }).toArray]) (cells := Chan.cells { ch with s := y, r := z }) Try.underlying80 ti86 rfl rfl rfl rfl (by decide) (by simp [Value.cells, Chan.cells]) (by simp [Value.cells])) rfl (fun _ => (by repeat (first | exact Imp.refl _ | exact Imp.none _ | apply Imp.pull (by repeat (first | exact Ext.here | apply Ext.there)) | apply Imp.trans Imp.drop))) (fun _ => Imp.refl _) (fun _ => (by repeat (first | exact Imp.refl _ | exact Imp.none _ | apply Imp.pull (by repeat (first | exact Ext.here | apply Ext.there)) | apply Imp.trans Imp.drop))) ?_
    rintro b42 -
    refine DG.eff1 ?_
    refine Chg.eff rfl rfl (Eff.append (a := a) (c := c) (k := 1) (ys := Chan.cells { ch with s := y, r := z }) rfl rfl rfl Try.underlying80 Try.underlying80 ti86 rfl (by decide) (by repeat (first | exact Foc.here | apply Foc.there)) (SlR.of_osl (a := some ⟨b42, 0, none⟩) (by repeat (first | exact Ext.here | apply Ext.there))) (Chan.ones _) (by omega)) rfl (fun _ => (by repeat (first | exact Imp.refl _ | exact Imp.none _ | apply Imp.pull (by repeat (first | exact Ext.here | apply Ext.there)) | apply Imp.trans Imp.drop))) (fun _ => Imp.refl _) (fun _ => (by repeat (first | exact Imp.refl _ | exact Imp.none _ | apply Imp.pull (by repeat (first | exact Ext.here | apply Ext.there)) | apply Imp.trans Imp.drop))) ?_
    rintro ⟨a43, c43⟩ -
    refine DG.look rfl rfl (Yield.nilCheck rfl) rfl ?_
    refine DG.look rfl rfl (Yield.fieldAddr fa82_0 rfl) rfl ?_
    refine DG.eff1 ?_
    refine Chg.eff rfl rfl (Eff.store1 ti80 rfl rfl (by repeat (first | exact Foc.here | apply Foc.there)) rfl (by simp)) rfl (fun _ => (by repeat (first | exact Imp.refl _ | exact Imp.none _ | apply Imp.pull (by repeat (first | exact Ext.here | apply Ext.there)) | apply Imp.trans Imp.drop))) (fun _ => Imp.refl _) (fun _ => (by repeat (first | exact Imp.refl _ | exact Imp.none _ | apply Imp.pull (by repeat (first | exact Ext.here | apply Ext.there)) | apply Imp.trans Imp.drop))) ?_
    rintro ⟨⟩ -
    refine DG.done ?_
    refine QG.block_normal ?_
    refine QG.then ?_
    refine CG.region ?_
    refine OG.yield (Yield.add rfl rfl (w64 (by omega) (by omega))) rfl ?_
    refine OG.yield (Yield.move rfl) rfl ?_
    refine OG.nil ?_
    refine QG.next ⟨i + 1, chs ++ [{ ch with s := y, r := z }], pl ++ (y.ms ++ z.ms), a43, c43⟩ ⟨by simp only; omega, ?_, ?_⟩ (by simp only; omega) (by repeat (first | exact Env.sub_nil _ | refine Env.sub_cons rfl ?_)) ?_
    · obtain ⟨hlt, hq⟩ := List.getElem?_eq_some_iff.1 hget
      dsimp only; rw [List.map_append, habs, List.take_succ_eq_append_getElem hlt, hq]
      simp only [List.map_cons, List.map_nil, Chan.abs, hy, hz]
    · dsimp only
      intro ch2 h2 m hm
      rcases List.mem_append.1 h2 with h2 | h2
      · exact List.mem_append.2 (.inl (hmem ch2 h2 m hm))
      · simp only [List.mem_cons, List.not_mem_nil, or_false] at h2
        subst h2
        rcases hm with hm | hm
        · exact List.mem_append.2 (.inr (List.mem_append.2 (.inl hm)))
        · exact List.mem_append.2 (.inr (List.mem_append.2 (.inr hm)))
    · dsimp only
      rw [List.length_append, List.map_append, List.map_append, List.flatten_append, show ([({ ch with s := y, r := z } : Chan)].map Chan.cells).flatten = Chan.cells { ch with s := y, r := z } by simp]
      refine Imp.pull (by repeat (first | exact Ext.here | apply Ext.there)) (Imp.pull (by repeat (first | exact Ext.here | apply Ext.there)) ?_)
      refine Imp.trans (B := Chan.own { ch with s := y, r := z } :: Star (chs.map Chan.own) :: pool pl :: pool (y.ms ++ z.ms) :: Po p acs :: Fr) ?_ (Imp.trans star_add (Imp.cons pool_join))
      refine Imp.trans (B := [oend y, oend z] ++ (Star (chs.map Chan.own) :: pool pl :: pool (y.ms ++ z.ms) :: Po p acs :: Fr)) ?_ star_close
      refine Imp.pull (by repeat (first | exact Ext.here | apply Ext.there)) (Imp.pull (by repeat (first | exact Ext.here | apply Ext.there)) (Imp.pull (by repeat (first | exact Ext.here | apply Ext.there)) (Imp.pull (by repeat (first | exact Ext.here | apply Ext.there)) ?_)))
      exact Imp.trans (Imp.pull (A := pool y.ms) (by repeat (first | exact Ext.here | apply Ext.there)) (Imp.pull (A := pool z.ms) (by repeat (first | exact Ext.here | apply Ext.there)) (Imp.refl _))) (Imp.trans pool_join (Imp.cons (Imp.trans (by repeat (first | exact Imp.refl _ | exact Imp.none _ | apply Imp.pull (by repeat (first | exact Ext.here | apply Ext.there)) | apply Imp.trans Imp.drop)) hback)))
  · try replace hc := of_decide_eq_false hc
    refine CG.exit ?_
    refine QG.pass_exit ?_
    refine QG.pass_exit ?_
    refine QG.block_exit ?_
    refine QG.then ?_
    refine CG.seq ?_
    refine CG.region ?_
    refine OG.yield (Yield.move rfl) rfl ?_
    refine OG.yield (Yield.assign rfl) rfl ?_
    refine OG.nil ?_
    refine QG.then ?_
    refine CG.ret ?_
    have hie : i = acs.length := by omega
    subst hie
    rw [List.take_length] at habs
    exact QG.ret1 rfl rfl b7 trivial rfl (Imp.trans (by repeat (first | exact Imp.refl _ | exact Imp.none _ | apply Imp.pull (by repeat (first | exact Ext.here | apply Ext.there)) | apply Imp.trans Imp.drop)) (po_close (p := b7) ⟨chs, pl, a, c⟩ ⟨habs, hao, hmem, hal⟩))
theorem ends_nils : ∀ (k : Nat) {G : List HProp}, Imp G (ends (List.replicate k nilE) :: G)
  | 0, G => ends_nil
  | k + 1, G => by
    rw [List.replicate_succ']
    exact Imp.trans (ends_nils k) (Imp.trans (Imp.trans oend_nil (Imp.refl _)) ends_add)
theorem nils_bs : ∀ l : List Cf, (List.replicate l.length nilE).map End.bs = (l.map Cf.ac).map AC.s ∧ (List.replicate l.length nilE).map End.bs = (l.map Cf.ac).map AC.r
  | [] => ⟨rfl, rfl⟩
  | f :: l => by
    obtain ⟨h1, h2⟩ := nils_bs l
    simp only [List.length_cons, List.replicate_succ, List.map_cons, h1, h2]
    constructor
    · rfl
    · rw [← h1, h2]; rfl
theorem nils_ok (l : List Cf) (ca : Option Addr) (cc : Nat) (sa : Option Addr) (sc : Nat) (ra : Option Addr) (rc : Nat) (h : l.length ≤ 1000) : RC.OK ⟨List.replicate l.length nilE, List.replicate l.length nilE, [], ca, cc, sa, sc, ra, rc⟩ (l.map Cf.ac) :=
  ⟨(nils_bs l).1, (nils_bs l).2, fun x hx => by
    rw [List.mem_map] at hx; obtain ⟨f, _, rfl⟩ := hx
    exact ⟨Nat.zero_le _, Nat.zero_le _, fun m hm => absurd hm List.not_mem_nil, fun m hm => absurd hm List.not_mem_nil⟩,
   fun w hw m hm => by
    rcases hw with hw | hw <;> (rw [List.eq_of_mem_replicate hw] at hm; exact absurd hm List.not_mem_nil), by rw [List.length_map]; exact h⟩
theorem rnew_spec {a : Option Addr} {c : Nat} {l : List Cf} (hr : SlR W0 Fr 5 a l.length ((l.map Cf.cells).flatten)) (hl : l.length ≤ 1000) : Ctr Try.prog W0 34 [.slice a l.length c] Fr (fun _ : Nat => True) (fun p => .pointer (some ⟨p, 0, none⟩)) (fun p => Rp p (l.map Cf.ac) :: Fr) := by
  refine Ctr.of_body Try.func34 rfl Try.ntmps34 rfl ?_
  refine CG.seq ?_
  refine CG.region ?_
  refine OG.yield (Yield.assign rfl) rfl ?_
  refine OG.nil ?_
  refine QG.then ?_
  refine CG.seq ?_
  refine CG.region ?_
  refine OG.effd (Eff.lit0 Try.underlying48 ti47 rfl) rfl ?_
  rintro b5 -
  refine OG.yield (Yield.move rfl) rfl ?_
  refine OG.effd (Eff.append (a := some ⟨b5, 0, none⟩) (c := 0) (m := 0) (xs := []) (k := l.length) (ys := (l.map Cf.cells).flatten) rfl rfl rfl Try.underlying48 Try.underlying48 ti47 rfl (by decide) (by repeat (first | exact Foc.here | apply Foc.there)) (hr.imp (by repeat (first | exact Imp.refl _ | exact Imp.none _ | apply Imp.pull (by repeat (first | exact Ext.here | apply Ext.there)) | apply Imp.trans Imp.drop))) (by intro v hv; obtain ⟨x, hx, hvx⟩ := List.mem_flatten.1 hv; obtain ⟨f, _, rfl⟩ := List.mem_map.1 hx; exact Cf.ones f v hvx) (by omega)) rfl ?_
  rintro ⟨a7, c7⟩ -
  rw [Nat.zero_add, List.nil_append]
  refine OG.yield (Yield.build (pvs := [(0, .slice a7 l.length c7)]) bu94 ti94 rfl (cells := [.slice a7 l.length c7, .slice none 0 0, .slice none 0 0]) rfl) rfl ?_
  refine OG.effd (Eff.box rfl) rfl ?_
  rintro b9 -
  refine OG.yield (Yield.assign rfl) rfl ?_
  refine OG.nil ?_
  refine QG.then ?_
  refine CG.seq ?_
  refine CG.seq ?_
  refine CG.region ?_
  refine OG.yield (Yield.assign rfl) rfl ?_
  refine OG.nil ?_
  refine QG.then ?_
  refine CG.block ?_
  refine CG.loop (fun s : Nat × (Option Addr × Nat) × (Option Addr × Nat) => s.1 ≤ l.length) (fun s => [(0, .slice a l.length c), (3, .pointer (some ⟨b9, 0, none⟩)), (4, .int .i64 s.1)]) (fun s => blk b9 [.slice a7 l.length c7, .slice s.2.1.1 s.1 s.2.1.2, .slice s.2.2.1 s.1 s.2.2.2] 94 :: osl 47 5 a7 c7 l.length ((l.map Cf.cells).flatten) :: osl 65 1 s.2.1.1 s.2.1.2 s.1 (List.replicate s.1 (.slice none 0 0)) :: osl 65 1 s.2.2.1 s.2.2.2 s.1 (List.replicate s.1 (.slice none 0 0)) :: Fr) (fun s => l.length - s.1) (0, (none, 0), (none, 0)) (Nat.zero_le _) (by repeat (first | exact Env.sub_nil _ | refine Env.sub_cons rfl ?_)) (Imp.trans (osl_nil (E := 65) (sz := 1)) (Imp.trans (osl_nil (E := 65) (sz := 1)) (by repeat (first | exact Imp.refl _ | exact Imp.none _ | apply Imp.pull (by repeat (first | exact Ext.here | apply Ext.there)) | apply Imp.trans Imp.drop)))) ?_
  rintro ⟨i, ⟨sa, sc⟩, ⟨ra, rc⟩⟩ (hi : i ≤ l.length)
  dsimp only
  refine CG.seq ?_
  refine CG.seq ?_
  refine CG.region ?_
  refine OG.yield (Yield.move rfl) rfl ?_
  refine OG.yield (Yield.move rfl) rfl ?_
  refine OG.yield (Yield.len_slice Try.underlying48 rfl rfl) rfl ?_
  refine OG.yield (by first | exact Yield.as (Yield.lss rfl rfl) (bT (by omega)) | exact Yield.as (Yield.lss rfl rfl) (bF (by omega)) | exact Yield.lss rfl rfl) rfl ?_
  refine OG.nil ?_
  refine QG.then ?_
  refine CG.cond rfl (fun hc => ?_) (fun hc => ?_)
  · try replace hc := of_decide_eq_true hc
    refine CG.skip ?_
    refine QG.then ?_
    refine CG.seq ?_
    refine CG.block ?_
    refine CG.seq ?_
    refine CG.region ?_
    refine OG.yield (Yield.move rfl) rfl ?_
    refine OG.yield (Yield.move rfl) rfl ?_
    refine OG.yield (Yield.nilCheck rfl) rfl ?_
    refine OG.yield (Yield.fieldAddr fa94_1 rfl) rfl ?_
    refine OG.yield (Yield.load (v := .slice sa i sc) ti69 rfl (Cel.of_blk (b := b9) (by repeat (first | exact Ext.here | apply Ext.there)) rfl)) rfl ?_
    refine OG.effd (Eff.lit1 Try.underlying69 ti65 rfl rfl rfl) rfl ?_
    rintro b21 -
    refine OG.effd (Eff.append (a := sa) (c := sc) (m := i) (xs := List.replicate i (.slice none 0 0)) (k := 1) (ys := [.slice none 0 0]) rfl rfl rfl Try.underlying69 Try.underlying69 ti65 rfl (by decide) (Foc.there (Foc.there (Foc.there Foc.here))) (SlR.of_osl (a := some ⟨b21, 0, none⟩) (by repeat (first | exact Ext.here | apply Ext.there))) (by simp [one]) (by omega)) rfl ?_
    rintro ⟨a22, c22⟩ -
    refine OG.yield (Yield.nilCheck rfl) rfl ?_
    refine OG.yield (Yield.fieldAddr fa94_1 rfl) rfl ?_
    refine OG.eff (Eff.store1 ti69 rfl rfl (by repeat (first | exact Foc.here | apply Foc.there)) rfl (by simp)) rfl ?_
    rintro ⟨⟩ -
    refine OG.nil ?_
    refine QG.then ?_
    refine CG.region ?_
    refine OG.yield (Yield.move rfl) rfl ?_
    refine OG.yield (Yield.move rfl) rfl ?_
    refine OG.yield (Yield.nilCheck rfl) rfl ?_
    refine OG.yield (Yield.fieldAddr fa94_2 rfl) rfl ?_
    refine OG.yield (Yield.load (v := .slice ra i rc) ti69 rfl (Cel.of_blk (b := b9) (by repeat (first | exact Ext.here | apply Ext.there)) rfl)) rfl ?_
    refine OG.effd (Eff.lit1 Try.underlying69 ti65 rfl rfl rfl) rfl ?_
    rintro b30 -
    refine OG.effd (Eff.append (a := ra) (c := rc) (m := i) (xs := List.replicate i (.slice none 0 0)) (k := 1) (ys := [.slice none 0 0]) rfl rfl rfl Try.underlying69 Try.underlying69 ti65 rfl (by decide) (Foc.there (Foc.there (Foc.there (Foc.there (Foc.there Foc.here))))) (SlR.of_osl (a := some ⟨b30, 0, none⟩) (by repeat (first | exact Ext.here | apply Ext.there))) (by simp [one]) (by omega)) rfl ?_
    rintro ⟨a31, c31⟩ -
    refine OG.yield (Yield.nilCheck rfl) rfl ?_
    refine OG.yield (Yield.fieldAddr fa94_2 rfl) rfl ?_
    refine OG.eff (Eff.store1 ti69 rfl rfl (by repeat (first | exact Foc.here | apply Foc.there)) rfl (by simp)) rfl ?_
    rintro ⟨⟩ -
    refine OG.nil ?_
    refine QG.block_normal ?_
    refine QG.then ?_
    refine CG.region ?_
    refine OG.yield (Yield.move rfl) rfl ?_
    refine OG.yield (Yield.add rfl rfl (w64 (by omega) (by omega))) rfl ?_
    refine OG.yield (Yield.assign rfl) rfl ?_
    refine OG.nil ?_
    refine QG.next (i + 1, (a22, c22), (a31, c31)) (show i + 1 ≤ l.length by omega) (show l.length - (i + 1) < l.length - i by omega) (by repeat (first | exact Env.sub_nil _ | refine Env.sub_cons rfl ?_)) ?_
    dsimp only
    rw [List.replicate_succ' (n := i)]
    exact (by repeat (first | exact Imp.refl _ | exact Imp.none _ | apply Imp.pull (by repeat (first | exact Ext.here | apply Ext.there)) | apply Imp.trans Imp.drop))
  · try replace hc := of_decide_eq_false hc
    refine CG.exit ?_
    refine QG.pass_exit ?_
    refine QG.pass_exit ?_
    refine QG.block_exit ?_
    refine QG.then ?_
    refine CG.seq ?_
    refine CG.region ?_
    refine OG.yield (Yield.move rfl) rfl ?_
    refine OG.yield (Yield.assign rfl) rfl ?_
    refine OG.nil ?_
    refine QG.then ?_
    refine CG.ret ?_
    have hil : i = l.length := by omega
    subst hil
    have hcl := rp_close0 (r := b9) (acs := l.map Cf.ac) (G := Fr) ⟨List.replicate l.length nilE, List.replicate l.length nilE, [], a7, c7, sa, sc, ra, rc⟩ (nils_ok l a7 c7 sa sc ra rc hl)
    rw [show (l.map Cf.ac).map AC.cf = l from fit_new l] at hcl
    dsimp only [RO, RH, RL, List.cons_append, List.nil_append] at hcl
    simp only [List.length_replicate, List.map_replicate] at hcl
    refine QG.ret1 rfl rfl b9 trivial rfl (Imp.trans ?_ hcl)
    have hen := fun G => ends_nils l.length (G := G)
    exact Imp.trans pool_nil (Imp.trans (hen _) (Imp.trans (hen _) (by repeat (first | exact Imp.refl _ | exact Imp.none _ | apply Imp.pull (by repeat (first | exact Ext.here | apply Ext.there)) | apply Imp.trans Imp.drop))))
/-- Messages of the same places and lengths. -/
abbrev Alike (ms ns : List Msg) : Prop := ms.map Msg.cell = ns.map Msg.cell
theorem spoil_spec {y : End} (hn : y.ms.length ≤ 2 ^ 60) (hm : ∀ m ∈ y.ms, m.b.length ≤ 2 ^ 60) : Ctr Try.prog W0 36 [y.cell] (oend y :: pool y.ms :: Fr) (fun _ : Unit => True) (fun _ => .tuple #[]) (fun _ => Fr) := by
  refine Ctr.of_body Try.func36 rfl Try.ntmps36 rfl ?_
  refine CG.seq ?_
  refine CG.region ?_
  refine OG.yield (Yield.assign rfl) rfl ?_
  refine OG.nil ?_
  refine QG.then ?_
  refine CG.block ?_
  refine CG.loop (fun s : Nat × List Msg => s.1 ≤ y.ms.length ∧ s.2.length = y.ms.length ∧ (∀ j, s.1 ≤ j → s.2[j]? = y.ms[j]?)) (fun s => [(0, y.cell), (2, .int .i64 s.1)]) (fun s => oend y :: pool s.2 :: Fr) (fun s => y.ms.length - s.1) (0, y.ms) ⟨Nat.zero_le _, rfl, fun _ _ => rfl⟩ (by repeat (first | exact Env.sub_nil _ | refine Env.sub_cons rfl ?_)) (Imp.refl _) ?_
  rintro ⟨i, ns⟩ ⟨hi, hl, hns⟩
  dsimp only at hi hl hns ⊢
  refine CG.seq ?_
  refine CG.seq ?_
  refine CG.region ?_
  refine OG.yield (Yield.move rfl) rfl ?_
  refine OG.yield (Yield.move rfl) rfl ?_
  refine OG.yield (Yield.len_slice (a := y.a) (m := y.ms.length) (c := y.c) Try.underlying65 rfl rfl) rfl ?_
  refine OG.yield (by first | exact Yield.as (Yield.lss rfl rfl) (bT (by omega)) | exact Yield.as (Yield.lss rfl rfl) (bF (by omega)) | exact Yield.lss rfl rfl) rfl ?_
  refine OG.nil ?_
  refine QG.then ?_
  refine CG.cond rfl (fun hc => ?_) (fun hc => ?_)
  · try replace hc := of_decide_eq_true hc
    have hi' : i < y.ms.length := by omega
    have hget : y.ms[i]? = some y.ms[i] := by simp [hi']
    have hml := hm y.ms[i] (List.getElem_mem hi')
    generalize y.ms[i] = m at hget hml
    have hgn : ns[i]? = some m := by rw [hns i (Nat.le_refl _), hget]
    refine CG.pure (fun w hw => SlR.shape (SlR.of_osl (W0 := W0) (E := 49) (sz := 1) (a := y.a) (c := y.c) (m := y.ms.length) (xs := y.ms.map Msg.cell) (by repeat (first | exact Ext.here | apply Ext.there))) (by intro q; have := congrArg List.length q; simp only [List.length_map, List.length_nil] at this; omega) w hw) ?_
    rintro ⟨by_, oy, hya⟩
    have hycell : y.cell = .slice (some ⟨by_, oy, none⟩) y.ms.length y.c := by unfold End.cell; rw [hya]
    have hrow : ∀ {G R : List HProp}, Ext G (oend y) R → Cel W0 G ⟨by_, oy + i, none⟩ m.cell := fun x => SlR.cel (by rw [← hya]; exact SlR.of_osl (E := 49) x) (by rw [List.getElem?_map, hget]; rfl)
    refine CG.imp (G' := m.own :: Star ((ns.map Msg.own).eraseIdx i) :: oend y :: Fr) (Imp.trans (Imp.pull (A := pool ns) (by repeat (first | exact Ext.here | apply Ext.there)) (Imp.pull (A := oend y) (by repeat (first | exact Ext.here | apply Ext.there)) (Imp.refl _))) (star_take (by rw [List.getElem?_map, hgn]; rfl))) ?_
    refine CG.skip ?_
    refine QG.then ?_
    refine CG.seq ?_
    refine CG.block ?_
    refine CG.seq ?_
    refine CG.region ?_
    refine OG.yield (Yield.assign rfl) rfl ?_
    refine OG.nil ?_
    refine QG.then ?_
    refine CG.block ?_
    refine CG.loop (fun s : Nat × List UInt8 => s.1 ≤ m.b.length ∧ s.2.length = m.b.length) (fun s => [(0, y.cell), (2, .int .i64 i), (3, .int .i64 s.1)]) (fun s => osl 5 1 m.a m.c m.b.length (bytesV s.2) :: Star ((ns.map Msg.own).eraseIdx i) :: oend y :: Fr) (fun s => m.b.length - s.1) (0, m.b) ⟨Nat.zero_le _, rfl⟩ (by repeat (first | exact Env.sub_nil _ | refine Env.sub_cons rfl ?_)) (Imp.refl _) ?_
    rintro ⟨k, xs⟩ ⟨hk, hxl⟩
    dsimp only at hk hxl ⊢
    rw [hycell]
    refine CG.seq ?_
    refine CG.seq ?_
    refine CG.region ?_
    refine OG.yield (Yield.move rfl) rfl ?_
    refine OG.yield (Yield.move rfl) rfl ?_
    refine OG.yield (Yield.move rfl) rfl ?_
    refine OG.yield (Yield.index_slice (b := by_) (o := oy) (m := y.ms.length) (c := y.c) Try.underlying65 ti49 rfl rfl (by omega) (by omega)) rfl ?_
    refine OG.yield (Yield.load (v := m.cell) ti49 rfl (by rw [show oy + (i : Int).toNat * 1 = oy + i by omega]; exact hrow (by repeat (first | exact Ext.here | apply Ext.there)))) rfl ?_
    refine OG.yield (Yield.len_slice (a := m.a) (m := m.b.length) (c := m.c) Try.underlying49 rfl rfl) rfl ?_
    refine OG.yield (by first | exact Yield.as (Yield.lss rfl rfl) (bT (by omega)) | exact Yield.as (Yield.lss rfl rfl) (bF (by omega)) | exact Yield.lss rfl rfl) rfl ?_
    refine OG.nil ?_
    refine QG.then ?_
    refine CG.cond rfl (fun hc => ?_) (fun hc => ?_)
    · try replace hc := of_decide_eq_true hc
      have hk' : k < xs.length := by omega
      have hgx : xs[k]? = some xs[k] := by simp [hk']
      generalize xs[k] = v at hgx
      refine CG.pure (fun w hw => SlR.shape (SlR.of_osl (W0 := W0) (E := 5) (sz := 1) (a := m.a) (c := m.c) (m := m.b.length) (xs := bytesV xs) (by repeat (first | exact Ext.here | apply Ext.there))) (by intro q; have := congrArg List.length q; rw [bytesV_length] at this; simp only [List.length_nil] at this; omega) w hw) ?_
      rintro ⟨bm, om, hma⟩
      have hmcell : m.cell = .slice (some ⟨bm, om, none⟩) m.b.length m.c := by unfold Msg.cell; rw [hma]
      rw [hma]
      refine CG.skip ?_
      refine QG.then ?_
      refine CG.seq ?_
      refine CG.block ?_
      refine CG.region ?_
      refine OG.yield (Yield.move rfl) rfl ?_
      refine OG.yield (Yield.move rfl) rfl ?_
      refine OG.yield (Yield.index_slice (b := by_) (o := oy) (m := y.ms.length) (c := y.c) Try.underlying65 ti49 rfl rfl (by omega) (by omega)) rfl ?_
      refine OG.yield (Yield.load (v := .slice (some ⟨bm, om, none⟩) m.b.length m.c) ti49 rfl (by rw [show oy + (i : Int).toNat * 1 = oy + i by omega, ← hmcell]; exact hrow (by repeat (first | exact Ext.here | apply Ext.there)))) rfl ?_
      refine OG.yield (Yield.move rfl) rfl ?_
      refine OG.yield (Yield.index_slice Try.underlying49 ti5 rfl rfl (by omega) (by omega)) rfl ?_
      refine OG.yield (Yield.load ti5 rfl (v := byteV v) (by simpa using (SlR.of_osl (W0 := W0) (E := 5) (by repeat (first | exact Ext.here | apply Ext.there))).cel (bytesV_get hgx))) rfl ?_
      refine OG.yield (Yield.add rfl rfl (wrap_u8_add v 1)) rfl ?_
      refine OG.yield (Yield.index_slice Try.underlying49 ti5 rfl rfl (by omega) (by omega)) rfl ?_
      refine OG.eff (Eff.storeElem (i := k) ti5 (by simp; rfl) rfl (by repeat (first | exact Foc.here | apply Foc.there)) rfl (by omega)) rfl ?_
      rintro ⟨⟩ -
      rw [show Value.int IntKind.u8 ((v + 1).toNat : Int) = byteV (v + 1) from rfl, bytesV_set]
      refine OG.nil ?_
      refine QG.block_normal ?_
      refine QG.then ?_
      refine CG.region ?_
      refine OG.yield (Yield.move rfl) rfl ?_
      refine OG.yield (Yield.add rfl rfl (w64 (by omega) (by omega))) rfl ?_
      refine OG.yield (Yield.assign rfl) rfl ?_
      refine OG.nil ?_
      exact QG.next (k + 1, xs.set k (v + 1)) ⟨by simp only; omega, by simpa using hxl⟩ (by simp only; omega) (by repeat (first | exact Env.sub_nil _ | refine Env.sub_cons rfl ?_)) (by repeat (first | exact Imp.refl _ | exact Imp.none _ | apply Imp.pull (by repeat (first | exact Ext.here | apply Ext.there)) | apply Imp.trans Imp.drop))
    · try replace hc := of_decide_eq_false hc
      refine CG.exit ?_
      refine QG.pass_exit ?_
      refine QG.pass_exit ?_
      refine QG.block_exit ?_
      refine QG.block_normal ?_
      refine QG.then ?_
      refine CG.region ?_
      refine OG.yield (Yield.move rfl) rfl ?_
      refine OG.yield (Yield.add rfl rfl (w64 (by omega) (by omega))) rfl ?_
      refine OG.yield (Yield.assign rfl) rfl ?_
      refine OG.nil ?_
      refine QG.next (i + 1, ns.set i ⟨m.a, m.c, xs⟩) ⟨by simp only; omega, by rw [List.length_set]; exact hl, fun j hj => by dsimp only at hj ⊢; rw [List.getElem?_set_ne (by omega)]; exact hns j (by omega)⟩ (by simp only; omega) (by repeat (first | exact Env.sub_nil _ | refine Env.sub_cons rfl ?_)) ?_
      dsimp only
      have hsp := star_put (L := ns.map Msg.own) (G := oend y :: Fr) (i := i) (A := m.own) (B := Msg.own ⟨m.a, m.c, xs⟩) (by rw [List.getElem?_map, hgn]; rfl)
      rw [← List.map_set (f := Msg.own), show Msg.own ⟨m.a, m.c, xs⟩ = osl 5 1 m.a m.c m.b.length (bytesV xs) by show osl _ 1 m.a m.c xs.length (bytesV xs) = _; rw [hxl]] at hsp
      exact Imp.trans hsp (by repeat (first | exact Imp.refl _ | exact Imp.none _ | apply Imp.pull (by repeat (first | exact Ext.here | apply Ext.there)) | apply Imp.trans Imp.drop))
  · try replace hc := of_decide_eq_false hc
    refine CG.exit ?_
    refine QG.pass_exit ?_
    refine QG.pass_exit ?_
    refine QG.block_exit ?_
    exact QG.end0 rfl () trivial rfl (by repeat (first | exact Imp.refl _ | exact Imp.none _ | apply Imp.pull (by repeat (first | exact Ext.here | apply Ext.there)) | apply Imp.trans Imp.drop))
end
end Go.Proofs.Ytjigjbcdopmeeaa.Po
