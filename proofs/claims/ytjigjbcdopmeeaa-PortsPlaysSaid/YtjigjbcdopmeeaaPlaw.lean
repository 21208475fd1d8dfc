/- ports.New, and what the ports laws share. -/
import Derived.Test.YtjigjbcdopmeeaaPcarry
import Derived.Test.YtjigjbcdopmeeaaRows
namespace Go.Proofs.Ytjigjbcdopmeeaa.Po
open Go Go.Sl Go.RowKit Go.Proofs Go.Proofs.Ytjigjbcdopmeeaa.T
set_option linter.unusedVariables false
set_option linter.unusedSimpArgs false
set_option maxRecDepth 100000
structure Cf where
  Kind : Int
  From : Int
  To : Int
  Size : Int
  Depth : Int
def Cf.cells (o : Cf) : List Value := [.int .i64 o.Kind, .int .i64 o.From, .int .i64 o.To, .int .i64 o.Size, .int .i64 o.Depth]
structure Cf.OK (W : World) (o : Cf) : Prop where
  mk ::
  Kind : (Lit.int .i64 o.Kind).wf = true
  From : (Lit.int .i64 o.From).wf = true
  To : (Lit.int .i64 o.To).wf = true
  Size : (Lit.int .i64 o.Size).wf = true
  Depth : (Lit.int .i64 o.Depth).wf = true
theorem Cf.opn (W : World) : Opn Try.prog W 47 (fun cs => ∃ o : Cf, cs = o.cells ∧ o.OK W) := (Opn.of_fields Try.underlying47 (by kernel_rfl) (by kernel_rfl) (.cons (s := 1) (Opn.int Try.underlying3) (.cons (s := 1) (Opn.int Try.underlying3) (.cons (s := 1) (Opn.int Try.underlying3) (.cons (s := 1) (Opn.int Try.underlying3) (.cons (s := 1) (Opn.int Try.underlying3) .nil)))))).mono fun cs h => by
  obtain ⟨_, _, rfl, _, ⟨xKind, rfl, wKind⟩, ⟨_, _, rfl, _, ⟨xFrom, rfl, wFrom⟩, ⟨_, _, rfl, _, ⟨xTo, rfl, wTo⟩, ⟨_, _, rfl, _, ⟨xSize, rfl, wSize⟩, ⟨_, _, rfl, _, ⟨xDepth, rfl, wDepth⟩, rfl⟩⟩⟩⟩⟩ := h
  exact ⟨⟨xKind, xFrom, xTo, xSize, xDepth⟩, rfl, ⟨wKind, wFrom, wTo, wSize, wDepth⟩⟩
theorem Cf.len (o : Cf) : o.cells.length = 5 := rfl
theorem Cf.ones (o : Cf) : ∀ v ∈ o.cells, one v = true := by simp [Cf.cells, one]
theorem Cf.list (W : World) : Opn Try.prog W 48 (fun cs => ∃ a c, ∃ xs : List Cf, cs = [.slice a xs.length c] ∧ xs.length ≤ c ∧ (∀ x ∈ xs, Cf.OK W x) ∧ SlAt W 5 a xs.length ((xs.map Cf.cells).flatten) ∧ xs.length * 40 ≤ reachBytes) :=
  Opn.recs (sz := 5) (by' := 40) Try.underlying48 (by kernel_rfl) (by decide) (by kernel_rfl) (Cf.opn W)
structure POp where
  Kind : Int
  Part : Int
  Channel : Int
  Ba : Option Go.Addr
  Bc : Nat
  B : List UInt8
def POp.cells (o : POp) : List Value := [.int .i64 o.Kind, .int .i64 o.Part, .int .i64 o.Channel, .slice o.Ba o.B.length o.Bc]
structure POp.OK (W : World) (o : POp) : Prop where
  mk ::
  Kind : (Lit.int .i64 o.Kind).wf = true
  Part : (Lit.int .i64 o.Part).wf = true
  Channel : (Lit.int .i64 o.Channel).wf = true
  Bc : o.B.length ≤ o.Bc
  B : SlAt W 1 o.Ba o.B.length (bytesV o.B)
  Bm : o.B.length ≤ reachBytes
theorem POp.opn (W : World) : Opn Try.prog W 51 (fun cs => ∃ o : POp, cs = o.cells ∧ o.OK W) := (Opn.of_fields Try.underlying51 (by kernel_rfl) (by kernel_rfl) (.cons (s := 1) (Opn.int Try.underlying3) (.cons (s := 1) (Opn.int Try.underlying3) (.cons (s := 1) (Opn.int Try.underlying3) (.cons (s := 1) (Opn.bytes Try.underlying49 Try.underlying5 (by kernel_rfl) (by kernel_rfl)) .nil))))).mono fun cs h => by
  obtain ⟨_, _, rfl, _, ⟨xKind, rfl, wKind⟩, ⟨_, _, rfl, _, ⟨xPart, rfl, wPart⟩, ⟨_, _, rfl, _, ⟨xChannel, rfl, wChannel⟩, ⟨_, _, rfl, _, ⟨xBa, xBc, xB, rfl, wBc, wB, wBm⟩, rfl⟩⟩⟩⟩ := h
  exact ⟨⟨xKind, xPart, xChannel, xBa, xBc, xB⟩, rfl, ⟨wKind, wPart, wChannel, wBc, wB, wBm⟩⟩
theorem POp.len (o : POp) : o.cells.length = 4 := rfl
theorem POp.ones (o : POp) : ∀ v ∈ o.cells, one v = true := by simp [POp.cells, one]
theorem POp.list (W : World) : Opn Try.prog W 43 (fun cs => ∃ a c, ∃ xs : List POp, cs = [.slice a xs.length c] ∧ xs.length ≤ c ∧ (∀ x ∈ xs, POp.OK W x) ∧ SlAt W 4 a xs.length ((xs.map POp.cells).flatten) ∧ xs.length * 48 ≤ reachBytes) :=
  Opn.recs (sz := 4) (by' := 48) Try.underlying43 (by kernel_rfl) (by decide) (by kernel_rfl) (POp.opn W)
def fresh (f : Cf) : Chan := ⟨f.Kind, f.From, f.To, f.Size, f.Depth, nilE, nilE⟩
def Cf.ac (f : Cf) : AC := ⟨f.Kind, f.From, f.To, f.Size, f.Depth, [], []⟩
theorem star_fresh : ∀ (l : List Cf) {G : List HProp}, Imp G (Star ((l.map fresh).map Chan.own) :: G)
  | [], G => star_nil
  | f :: l, G => by
    have h1 : Imp G ((fresh f).own :: G) := Imp.trans oend_nil (Imp.trans oend_nil (star_close (D := [oend nilE, oend nilE])))
    refine Imp.trans (star_fresh l) (Imp.trans (B := (fresh f).own :: Star ((l.map fresh).map Chan.own) :: G) ?_ ?_)
    · exact Imp.trans oend_nil (Imp.trans oend_nil (star_close (D := [oend nilE, oend nilE])))
    · exact Imp.trans (Imp.cons star_open) (star_close (D := (fresh f).own :: (l.map fresh).map Chan.own))
theorem fresh_ok (l : List Cf) (a : Option Addr) (c : Nat) (h : l.length ≤ 1000) : PC.OK ⟨l.map fresh, [], a, c⟩ (l.map Cf.ac) :=
  ⟨by dsimp only; rw [List.map_map]; rfl, fun x hx => by
    rw [List.mem_map] at hx; obtain ⟨f, _, rfl⟩ := hx
    exact ⟨Nat.zero_le _, Nat.zero_le _, fun m hm => absurd hm List.not_mem_nil, fun m hm => absurd hm List.not_mem_nil⟩,
   fun ch hch m hm => by
    rw [List.mem_map] at hch; obtain ⟨f, _, rfl⟩ := hch
    rcases hm with hm | hm <;> exact absurd hm List.not_mem_nil, by rw [List.length_map]; exact h⟩
section
variable (W0 : World) (Fr : List HProp)
theorem new_spec {a : Option Addr} {c : Nat} {l : List Cf} (hr : SlR W0 Fr 5 a l.length ((l.map Cf.cells).flatten)) (hl : l.length ≤ 1000) : Ctr Try.prog W0 22 [.slice a l.length c] Fr (fun _ : Nat => True) (fun p => .pointer (some ⟨p, 0, none⟩)) (fun p => Po p (l.map Cf.ac) :: Fr) := by
  refine Ctr.of_body Try.func22 rfl Try.ntmps22 rfl ?_
  refine CG.seq ?_
  refine CG.region ?_
  refine OG.yield (Yield.assign rfl) rfl ?_
  refine OG.nil ?_
  refine QG.then ?_
  refine CG.seq ?_
  refine CG.region ?_
  refine OG.yield (Yield.build0 bu82 ti82) rfl ?_
  refine OG.effd (Eff.box rfl) rfl ?_
  rintro b7 -
  refine OG.yield (Yield.assign rfl) rfl ?_
  refine OG.nil ?_
  refine QG.then ?_
  refine CG.seq ?_
  refine CG.seq ?_
  refine CG.region ?_
  refine OG.yield (Yield.move rfl) rfl ?_
  refine OG.yield (Yield.len_slice Try.underlying48 rfl rfl) rfl ?_
  refine OG.yield (Yield.move rfl) rfl ?_
  refine OG.nil ?_
  refine QG.then ?_
  refine CG.block ?_
  refine CG.loop (fun s : Nat × Option Addr × Nat => s.1 ≤ l.length) (fun s => [(3, .pointer (some ⟨b7, 0, none⟩)), (8, .slice a l.length c), (9, .int .i64 l.length), (10, .int .i64 s.1)]) (fun s => blk b7 [.slice s.2.1 ((l.take s.1).map fresh).length s.2.2] 82 :: osl 86 7 s.2.1 s.2.2 ((l.take s.1).map fresh).length ((((l.take s.1).map fresh).map Chan.cells).flatten) :: Fr) (fun s => l.length - s.1) (0, none, 0) (Nat.zero_le _) (by repeat (first | exact Env.sub_nil _ | refine Env.sub_cons rfl ?_)) (Imp.trans (osl_nil (E := 86) (sz := 7)) (by repeat (first | exact Imp.refl _ | exact Imp.none _ | apply Imp.pull (by repeat (first | exact Ext.here | apply Ext.there)) | apply Imp.trans Imp.drop))) ?_
  rintro ⟨i, a7, c7⟩ (hi : i ≤ l.length)
  dsimp only
  refine CG.seq ?_
  refine CG.region ?_
  refine OG.yield (by first | exact Yield.as (Yield.lss rfl rfl) (bT (by omega)) | exact Yield.as (Yield.lss rfl rfl) (bF (by omega)) | exact Yield.lss rfl rfl) rfl ?_
  refine OG.nil ?_
  refine QG.then ?_
  refine CG.seq ?_
  refine CG.cond rfl (fun hc => ?_) (fun hc => ?_)
  · try replace hc := of_decide_eq_true hc
    have hi' : i < l.length := by omega
    have hget : l[i]? = some l[i] := by simp [hi']
    generalize l[i] = f at hget
    have hln : ((l.take i).map fresh).length = i := by rw [List.length_map, List.length_take]; omega
    have hts : (l.take (i + 1)).map fresh = (l.take i).map fresh ++ [fresh f] := by obtain ⟨hlt, rfl⟩ := List.getElem?_eq_some_iff.1 hget; rw [List.take_succ_eq_append_getElem hlt, List.map_append]; rfl
    refine CG.pure (fun w hw => (hr.imp (by repeat (first | exact Imp.refl _ | exact Imp.none _ | apply Imp.pull (by repeat (first | exact Ext.here | apply Ext.there)) | apply Imp.trans Imp.drop))).elem_shape Cf.len (by decide) hi' w hw) ?_
    rintro ⟨b, o, rfl⟩
    refine CG.skip ?_
    refine QG.then ?_
    refine CG.seq ?_
    refine CG.block ?_
    refine CG.seq ?_
    refine CG.region ?_
    refine OG.yield (Yield.index_slice Try.underlying48 ti47 rfl rfl (by omega) (by omega)) rfl ?_
    refine OG.yield (Yield.load_agg (vs := f.cells) ti47 rfl (Cf.len f) ((hr.imp (by repeat (first | exact Imp.refl _ | exact Imp.none _ | apply Imp.pull (by repeat (first | exact Ext.here | apply Ext.there)) | apply Imp.trans Imp.drop))).elem Cf.len hget)) rfl ?_
    refine OG.effd (Eff.alloc ti47) rfl ?_
    rintro b5 -
    refine OG.eff (Eff.storeAll ti47 rfl rfl (by repeat (first | exact Foc.here | apply Foc.there)) (Cf.len f) (Cf.ones f) rfl) rfl ?_
    rintro ⟨⟩ -
    refine OG.nil ?_
    refine QG.then ?_
    refine CG.draw (.look 0 0 (.look 1 0 (.look 2 0 (.look 3 0 (.look 4 2 (.look 5 1 (.look 6 1 (.eff1 7 false (.eff1 8 false (.look 9 1 (.look 10 1 (.eff1 11 true (.done))))))))))))) [7, 8, 11] [4] ([]) ([blk b7 [.slice a7 ((l.take i).map fresh).length c7] 82]) mixed (by kernel_rfl) (Imp.none _) ((by repeat (first | exact Imp.refl _ | exact Imp.none _ | apply Imp.pull (by repeat (first | exact Ext.here | apply Ext.there)) | apply Imp.trans Imp.drop))) ?_
    refine DG.look rfl rfl (Yield.move rfl) rfl ?_
    refine DG.look rfl rfl (Yield.move rfl) rfl ?_
    refine DG.look rfl rfl (Yield.nilCheck rfl) rfl ?_
    refine DG.look rfl rfl (Yield.fieldAddr fa82_0 rfl) rfl ?_
    refine DG.look rfl rfl (Yield.load ti80 rfl (by first | exact Cel.of_blk (by repeat (first | exact Ext.here | apply Ext.there)) rfl | exact (hrow (by repeat (first | exact Ext.here | apply Ext.there))) _ _ rfl)) rfl ?_
    refine DG.look rfl rfl (Yield.load_agg (vs := f.cells) ti47 rfl (Cf.len f) (Row.of_blk (b := b5) (by repeat (first | exact Ext.here | apply Ext.there)) rfl)) rfl ?_
    refine DG.look rfl rfl (Yield.build (pvs := [(0, .agg f.cells.toArray)]) bu86 ti86 rfl (cells := (fresh f).cells) rfl) rfl ?_
    refine DG.eff1 ?_
    refine Chg.eff rfl rfl (Eff.lit [.tmp 20] (vs := [.agg (fresh f).cells.toArray]) (cells := (fresh f).cells) Try.underlying80 ti86 rfl rfl rfl rfl (by decide) (by simp [Value.cells, Chan.cells]) (by simp [Value.cells])) rfl (fun _ => (by repeat (first | exact Imp.refl _ | exact Imp.none _ | apply Imp.pull (by repeat (first | exact Ext.here | apply Ext.there)) | apply Imp.trans Imp.drop))) (fun _ => Imp.refl _) (fun _ => (by repeat (first | exact Imp.refl _ | exact Imp.none _ | apply Imp.pull (by repeat (first | exact Ext.here | apply Ext.there)) | apply Imp.trans Imp.drop))) ?_
    rintro b21 -
    refine DG.eff1 ?_
    refine Chg.eff rfl rfl (Eff.append (a := a7) (c := c7) (k := 1) (ys := (fresh f).cells) rfl rfl rfl Try.underlying80 Try.underlying80 ti86 rfl (by decide) (by repeat (first | exact Foc.here | apply Foc.there)) (SlR.of_osl (a := some ⟨b21, 0, none⟩) (by repeat (first | exact Ext.here | apply Ext.there))) (Chan.ones _) (by omega)) rfl (fun _ => (by repeat (first | exact Imp.refl _ | exact Imp.none _ | apply Imp.pull (by repeat (first | exact Ext.here | apply Ext.there)) | apply Imp.trans Imp.drop))) (fun _ => Imp.refl _) (fun _ => (by repeat (first | exact Imp.refl _ | exact Imp.none _ | apply Imp.pull (by repeat (first | exact Ext.here | apply Ext.there)) | apply Imp.trans Imp.drop))) ?_
    rintro ⟨a22, c22⟩ -
    refine DG.look rfl rfl (Yield.nilCheck rfl) rfl ?_
    refine DG.look rfl rfl (Yield.fieldAddr fa82_0 rfl) rfl ?_
    refine DG.eff1 ?_
    refine Chg.eff rfl rfl (Eff.store1 ti80 rfl rfl (by repeat (first | exact Foc.here | apply Foc.there)) rfl (by simp)) rfl (fun _ => (by repeat (first | exact Imp.refl _ | exact Imp.none _ | apply Imp.pull (by repeat (first | exact Ext.here | apply Ext.there)) | apply Imp.trans Imp.drop))) (fun _ => Imp.refl _) (fun _ => (by repeat (first | exact Imp.refl _ | exact Imp.none _ | apply Imp.pull (by repeat (first | exact Ext.here | apply Ext.there)) | apply Imp.trans Imp.drop))) ?_
    rintro ⟨⟩ -
    refine DG.done ?_
    refine QG.block_normal ?_
    refine QG.then ?_
    refine CG.region ?_
    refine OG.yield (Yield.add rfl rfl (w64 (by omega) (by omega))) rfl ?_
    refine OG.yield (Yield.move rfl) rfl ?_
    refine OG.nil ?_
    refine QG.next (i + 1, a22, c22) (show i + 1 ≤ l.length by omega) (show l.length - (i + 1) < l.length - i by omega) (by repeat (first | exact Env.sub_nil _ | refine Env.sub_cons rfl ?_)) ?_
    dsimp only
    rw [hts, List.length_append, List.map_append, List.flatten_append]
    rw [show ([fresh f].map Chan.cells).flatten = (fresh f).cells by simp]
    exact (by repeat (first | exact Imp.refl _ | exact Imp.none _ | apply Imp.pull (by repeat (first | exact Ext.here | apply Ext.there)) | apply Imp.trans Imp.drop))
  · try replace hc := of_decide_eq_false hc
    refine CG.exit ?_
    refine QG.pass_exit ?_
    refine QG.pass_exit ?_
    refine QG.block_exit ?_
    refine QG.then ?_
    refine CG.seq ?_
    refine CG.region ?_
    refine OG.yield (Yield.move rfl) rfl ?_
    refine OG.yield (Yield.assign rfl) rfl ?_
    refine OG.nil ?_
    refine QG.then ?_
    refine CG.ret ?_
    have hil : i = l.length := by omega
    subst hil
    rw [List.take_length]
    exact QG.ret1 rfl rfl b7 trivial rfl (Imp.trans (Imp.pull (by repeat (first | exact Ext.here | apply Ext.there)) (Imp.pull (by repeat (first | exact Ext.here | apply Ext.there)) (Imp.trans (B := Star ((l.map fresh).map Chan.own) :: pool [] :: Fr) (Imp.trans (by repeat (first | exact Imp.refl _ | exact Imp.none _ | apply Imp.pull (by repeat (first | exact Ext.here | apply Ext.there)) | apply Imp.trans Imp.drop)) (Imp.trans pool_nil (star_fresh l))) (Imp.refl _)))) (po_close ⟨l.map fresh, [], a7, c7⟩ (fresh_ok l a7 c7 hl)))
theorem sameInts_spec {a a2 : Option Addr} {c c2 : Nat} {xs : List Int} (h1 : SlR W0 Fr 1 a xs.length (oint xs)) (h2 : SlR W0 Fr 1 a2 xs.length (oint xs)) (hb : xs.length < 2 ^ 60) : Ctr Try.prog W0 38 [.slice a xs.length c, .slice a2 xs.length c2] Fr (fun _ : Unit => True) (fun _ => .bool true) (fun _ => Fr) := by
  have hol : (oint xs).length = xs.length := by simp [oint]
  refine Ctr.of_body Try.func38 rfl Try.ntmps38 rfl ?_
  refine CG.seq ?_
  refine CG.region ?_
  refine OG.yield (Yield.assign rfl) rfl ?_
  refine OG.nil ?_
  refine QG.then ?_
  refine CG.seq ?_
  refine CG.seq ?_
  refine CG.region ?_
  refine OG.yield (Yield.move rfl) rfl ?_
  refine OG.yield (Yield.len_slice Try.underlying29 rfl rfl) rfl ?_
  refine OG.yield (Yield.move rfl) rfl ?_
  refine OG.yield (Yield.len_slice Try.underlying29 rfl rfl) rfl ?_
  refine OG.yield (by first | exact Yield.as (Yield.neq rfl rfl) (bT (by omega)) | exact Yield.as (Yield.neq rfl rfl) (bF (by omega)) | exact Yield.neq rfl rfl) rfl ?_
  refine OG.nil ?_
  refine QG.then ?_
  refine CG.cond_f rfl ?_
  refine CG.skip ?_
  refine QG.then ?_
  refine CG.seq ?_
  refine CG.seq ?_
  refine CG.region ?_
  refine OG.yield (Yield.assign rfl) rfl ?_
  refine OG.nil ?_
  refine QG.then ?_
  refine CG.block ?_
  refine CG.loop (fun i : Nat => i ≤ xs.length) (fun i => [(0, .slice a xs.length c), (1, .slice a2 xs.length c2), (5, .int .i64 i)]) (fun _ => Fr) (fun i => xs.length - i) 0 (Nat.zero_le _) (by repeat (first | exact Env.sub_nil _ | refine Env.sub_cons rfl ?_)) (Imp.refl _) ?_
  intro i hi
  refine CG.seq ?_
  refine CG.seq ?_
  refine CG.region ?_
  refine OG.yield (Yield.move rfl) rfl ?_
  refine OG.yield (Yield.move rfl) rfl ?_
  refine OG.yield (Yield.len_slice Try.underlying29 rfl rfl) rfl ?_
  refine OG.yield (by first | exact Yield.as (Yield.lss rfl rfl) (bT (by omega)) | exact Yield.as (Yield.lss rfl rfl) (bF (by omega)) | exact Yield.lss rfl rfl) rfl ?_
  refine OG.nil ?_
  refine QG.then ?_
  refine CG.cond rfl (fun hc => ?_) (fun hc => ?_)
  · try replace hc := of_decide_eq_true hc
    have hi' : i < xs.length := by omega
    have hget : (oint xs)[i]? = some (.int .i64 xs[i]) := by simp [oint, hi']
    generalize xs[i] = x at hget
    refine CG.pure (fun w hw => SlR.shape h1 (by intro h; rw [h] at hol; simp only [List.length_nil] at hol; omega) w hw) ?_
    rintro ⟨b, o, rfl⟩
    refine CG.pure (fun w hw => SlR.shape h2 (by intro h; rw [h] at hol; simp only [List.length_nil] at hol; omega) w hw) ?_
    rintro ⟨b2, o2, rfl⟩
    refine CG.skip ?_
    refine QG.then ?_
    refine CG.seq ?_
    refine CG.block ?_
    refine CG.seq ?_
    refine CG.draw (.look 0 1 (.look 1 1 (.look 2 1 (.look 3 1 (.look 4 1 (.look 5 1 (.look 6 1 (.look 7 1 (.look 8 1 (.done)))))))))) [] [] ([]) ([]) mixed (by kernel_rfl) (Imp.none _) (Imp.none _) ?_
    refine DG.look rfl rfl (Yield.move rfl) rfl ?_
    refine DG.look rfl rfl (Yield.move rfl) rfl ?_
    refine DG.look rfl rfl (Yield.index_slice Try.underlying29 ti3 rfl rfl (by omega) (by omega)) rfl ?_
    refine DG.look rfl rfl (Yield.load (v := .int .i64 x) ti3 rfl (by rw [show o + (i : Int).toNat * 1 = o + i by omega]; exact h1.cel hget)) rfl ?_
    refine DG.look rfl rfl (Yield.move rfl) rfl ?_
    refine DG.look rfl rfl (Yield.move rfl) rfl ?_
    refine DG.look rfl rfl (Yield.index_slice Try.underlying29 ti3 rfl rfl (by omega) (by omega)) rfl ?_
    refine DG.look rfl rfl (Yield.load (v := .int .i64 x) ti3 rfl (by rw [show o2 + (i : Int).toNat * 1 = o2 + i by omega]; exact h2.cel hget)) rfl ?_
    refine DG.look rfl rfl (by first | exact Yield.as (Yield.neq rfl rfl) (bT (by omega)) | exact Yield.as (Yield.neq rfl rfl) (bF (by omega)) | exact Yield.neq rfl rfl) rfl ?_
    refine DG.done ?_
    refine QG.then ?_
    refine CG.cond_f rfl ?_
    refine CG.skip ?_
    refine QG.block_normal ?_
    refine QG.then ?_
    refine CG.region ?_
    refine OG.yield (Yield.move rfl) rfl ?_
    refine OG.yield (Yield.add rfl rfl (w64 (by omega) (by omega))) rfl ?_
    refine OG.yield (Yield.assign rfl) rfl ?_
    refine OG.nil ?_
    exact QG.next (i + 1) (show i + 1 ≤ xs.length by omega) (show xs.length - (i + 1) < xs.length - i by omega) (by repeat (first | exact Env.sub_nil _ | refine Env.sub_cons rfl ?_)) (by repeat (first | exact Imp.refl _ | exact Imp.none _ | apply Imp.pull (by repeat (first | exact Ext.here | apply Ext.there)) | apply Imp.trans Imp.drop))
  · try replace hc := of_decide_eq_false hc
    refine CG.exit ?_
    refine QG.pass_exit ?_
    refine QG.pass_exit ?_
    refine QG.block_exit ?_
    refine QG.then ?_
    refine CG.seq ?_
    refine CG.region ?_
    refine OG.yield (Yield.assign rfl) rfl ?_
    refine OG.nil ?_
    refine QG.then ?_
    refine CG.ret ?_
    exact QG.ret1 rfl rfl () trivial rfl (by repeat (first | exact Imp.refl _ | exact Imp.none _ | apply Imp.pull (by repeat (first | exact Ext.here | apply Ext.there)) | apply Imp.trans Imp.drop))
def wf0 : Cf := ⟨2, 0, 1, 4, 2⟩
theorem works_spec : Ctr Try.prog W0 21 [] Fr (fun _ : Unit => True) (fun _ => .bool true) (fun _ => Fr) := by
  refine Ctr.of_body Try.func21 rfl Try.ntmps21 rfl ?_
  refine CG.seq ?_
  refine CG.region ?_
  refine OG.yield (Yield.assign rfl) rfl ?_
  refine OG.nil ?_
  refine QG.then ?_
  refine CG.seq ?_
  refine CG.region ?_
  refine OG.yield (Yield.build bu47 ti47 rfl (cells := [_, _, _, _, _]) rfl) rfl ?_
  refine OG.effd (Eff.lit [.tmp 7] (vs := [.agg wf0.cells.toArray]) (cells := wf0.cells) Try.underlying48 ti47 rfl rfl rfl rfl (by decide) (by simp [Value.cells, Cf.cells]) (by simp [Value.cells])) rfl ?_
  rintro b8 -
  refine OG.callo call22 rfl (Imp.refl _) (new_spec W0 _ (l := [wf0]) (by exact SlR.of_osl (a := some ⟨b8, 0, none⟩) (by repeat (first | exact Ext.here | apply Ext.there))) (by decide)) rfl ?_
  rintro p -
  rw [show [wf0].map Cf.ac = [(⟨2, 0, 1, 4, 2, [], []⟩ : AC)] from rfl]
  refine OG.yield (Yield.assign rfl) rfl ?_
  refine OG.nil ?_
  refine QG.then ?_
  refine CG.seq ?_
  refine CG.seq ?_
  refine CG.region ?_
  refine OG.yield (Yield.move rfl) rfl ?_
  refine OG.yield (by first | exact Yield.ptr_nil Try.underlying44 rfl rfl | exact Yield.nil_nil Try.underlying44 rfl rfl) rfl ?_
  refine OG.yield (Yield.move rfl) rfl ?_
  refine OG.guard_yes rfl rfl rfl (by decide) ?_
  refine OG.yield (Yield.move rfl) rfl ?_
  refine OG.guard_yes rfl rfl rfl (by decide) ?_
  refine OG.effd (Eff.lit [(.const (.int .u8 97)), (.const (.int .u8 98))] Try.underlying49 ti5 rfl rfl rfl rfl (by decide) (by simp [Value.cells]) (by simp [Value.cells]; rfl)) rfl ?_
  rintro b14 -
  refine OG.guard_yes rfl rfl rfl (by decide) ?_
  refine OG.effd (Eff.convBytes (b := b14) Try.underlying49 Try.underlying5 rfl (by repeat (first | exact Foc.here | apply Foc.there))) rfl ?_
  rintro ⟨⟩ -
  refine OG.guard_yes rfl rfl rfl (by decide) ?_
  refine OG.callo call23 rfl ((by repeat (first | exact Imp.refl _ | exact Imp.none _ | apply Imp.pull (by repeat (first | exact Ext.here | apply Ext.there)) | apply Imp.trans Imp.drop))) (send_in W0 _ (n := 0) (ac := ⟨2, 0, 1, 4, 2, [], []⟩) 0 (bs := [97, 98]) (by exact SlR.of_osl_eq (a := some ⟨b14, 0, none⟩) (by repeat (first | exact Ext.here | apply Ext.there)) rfl rfl) (by decide) rfl) rfl ?_
  rintro ⟨⟩ -
  rw [show sendR ⟨2, 0, 1, 4, 2, [], []⟩ 0 [97, 98] = (0, ⟨2, 0, 1, 4, 2, [[97, 98]], []⟩) from rfl]
  dsimp only [List.set_cons_zero]
  refine OG.guard_yes rfl rfl rfl (by decide) ?_
  refine OG.yield (by first | exact Yield.as (Yield.neq rfl rfl) (bT (by omega)) | exact Yield.as (Yield.neq rfl rfl) (bF (by omega)) | exact Yield.neq rfl rfl) rfl ?_
  refine OG.yield (by first | exact Yield.pick_t rfl rfl | exact Yield.pick_f rfl rfl | exact Yield.pick rfl (fun _ => rfl) (fun _ => rfl)) rfl ?_
  refine OG.yield (Yield.move rfl) rfl ?_
  refine OG.guard_yes rfl rfl rfl (by decide) ?_
  refine OG.yield (Yield.move rfl) rfl ?_
  refine OG.guard_yes rfl rfl rfl (by decide) ?_
  refine OG.effd (Eff.lit1 Try.underlying49 ti5 rfl rfl rfl) rfl ?_
  rintro b21 -
  refine OG.guard_yes rfl rfl rfl (by decide) ?_
  refine OG.effd (Eff.convBytes (b := b21) Try.underlying49 Try.underlying5 rfl (by repeat (first | exact Foc.here | apply Foc.there))) rfl ?_
  rintro ⟨⟩ -
  refine OG.guard_yes rfl rfl rfl (by decide) ?_
  refine OG.callo call23 rfl ((by repeat (first | exact Imp.refl _ | exact Imp.none _ | apply Imp.pull (by repeat (first | exact Ext.here | apply Ext.there)) | apply Imp.trans Imp.drop))) (send_in W0 _ (n := 0) (ac := ⟨2, 0, 1, 4, 2, [[97, 98]], []⟩) 0 (bs := [99]) (by exact SlR.of_osl_eq (a := some ⟨b21, 0, none⟩) (by repeat (first | exact Ext.here | apply Ext.there)) rfl rfl) (by decide) rfl) rfl ?_
  rintro ⟨⟩ -
  rw [show sendR ⟨2, 0, 1, 4, 2, [[97, 98]], []⟩ 0 [99] = (0, ⟨2, 0, 1, 4, 2, [[97, 98], [99]], []⟩) from rfl]
  dsimp only [List.set_cons_zero]
  refine OG.guard_yes rfl rfl rfl (by decide) ?_
  refine OG.yield (by first | exact Yield.as (Yield.neq rfl rfl) (bT (by omega)) | exact Yield.as (Yield.neq rfl rfl) (bF (by omega)) | exact Yield.neq rfl rfl) rfl ?_
  refine OG.yield (by first | exact Yield.pick_t rfl rfl | exact Yield.pick_f rfl rfl | exact Yield.pick rfl (fun _ => rfl) (fun _ => rfl)) rfl ?_
  refine OG.yield (Yield.move rfl) rfl ?_
  refine OG.guard_yes rfl rfl rfl (by decide) ?_
  refine OG.yield (Yield.move rfl) rfl ?_
  refine OG.guard_yes rfl rfl rfl (by decide) ?_
  refine OG.effd (Eff.lit1 Try.underlying49 ti5 rfl rfl rfl) rfl ?_
  rintro b28 -
  refine OG.guard_yes rfl rfl rfl (by decide) ?_
  refine OG.effd (Eff.convBytes (b := b28) Try.underlying49 Try.underlying5 rfl (by repeat (first | exact Foc.here | apply Foc.there))) rfl ?_
  rintro ⟨⟩ -
  refine OG.guard_yes rfl rfl rfl (by decide) ?_
  refine OG.callo call23 rfl ((by repeat (first | exact Imp.refl _ | exact Imp.none _ | apply Imp.pull (by repeat (first | exact Ext.here | apply Ext.there)) | apply Imp.trans Imp.drop))) (send_in W0 _ (n := 0) (ac := ⟨2, 0, 1, 4, 2, [[97, 98], [99]], []⟩) 0 (bs := [100]) (by exact SlR.of_osl_eq (a := some ⟨b28, 0, none⟩) (by repeat (first | exact Ext.here | apply Ext.there)) rfl rfl) (by decide) rfl) rfl ?_
  rintro ⟨⟩ -
  rw [show sendR ⟨2, 0, 1, 4, 2, [[97, 98], [99]], []⟩ 0 [100] = (4, ⟨2, 0, 1, 4, 2, [[97, 98], [99]], []⟩) from rfl]
  dsimp only [List.set_cons_zero]
  refine OG.guard_yes rfl rfl rfl (by decide) ?_
  refine OG.yield (by first | exact Yield.as (Yield.neq rfl rfl) (bT (by omega)) | exact Yield.as (Yield.neq rfl rfl) (bF (by omega)) | exact Yield.neq rfl rfl) rfl ?_
  refine OG.yield (by first | exact Yield.pick_t rfl rfl | exact Yield.pick_f rfl rfl | exact Yield.pick rfl (fun _ => rfl) (fun _ => rfl)) rfl ?_
  refine OG.nil ?_
  refine QG.then ?_
  refine CG.cond_f rfl ?_
  refine CG.skip ?_
  refine QG.then ?_
  refine CG.seq ?_
  refine CG.region ?_
  refine OG.yield (Yield.move rfl) rfl ?_
  refine OG.callo call25 rfl ((by repeat (first | exact Imp.refl _ | exact Imp.none _ | apply Imp.pull (by repeat (first | exact Ext.here | apply Ext.there)) | apply Imp.trans Imp.drop))) (recv_bad W0 _ (n := 0) (ac := ⟨2, 0, 1, 4, 2, [[97, 98], [99]], []⟩) 1 rfl (by decide)) rfl ?_
  rintro ⟨⟩ -
  rw [show recvE ⟨2, 0, 1, 4, 2, [[97, 98], [99]], []⟩ 1 = 110 by decide]
  refine OG.yield (Yield.move rfl) rfl ?_
  refine OG.yield (Yield.extract rfl rfl) rfl ?_
  refine OG.yield (Yield.extract rfl rfl) rfl ?_
  refine OG.yield (Yield.assign rfl) rfl ?_
  refine OG.yield (Yield.assign rfl) rfl ?_
  refine OG.nil ?_
  refine QG.then ?_
  refine CG.seq ?_
  refine CG.region ?_
  refine OG.yield (Yield.move rfl) rfl ?_
  refine OG.callo call24 rfl ((by repeat (first | exact Imp.refl _ | exact Imp.none _ | apply Imp.pull (by repeat (first | exact Ext.here | apply Ext.there)) | apply Imp.trans Imp.drop))) (transfer_spec W0 _ (acs := [⟨2, 0, 1, 4, 2, [[97, 98], [99]], []⟩])) rfl ?_
  rintro ⟨a4, c4⟩ -
  rw [show wentI [⟨2, 0, 1, 4, 2, [[97, 98], [99]], []⟩] [(⟨2, 0, 1, 4, 2, [[97, 98], [99]], []⟩ : AC)].length = [0] by decide]
  rw [show [(⟨2, 0, 1, 4, 2, [[97, 98], [99]], []⟩ : AC)].map AC.tr = [⟨2, 0, 1, 4, 2, [], [[97, 98], [99]]⟩] from rfl]
  refine OG.yield (Yield.assign rfl) rfl ?_
  refine OG.nil ?_
  refine QG.then ?_
  refine CG.seq ?_
  refine CG.region ?_
  refine OG.yield (Yield.move rfl) rfl ?_
  refine OG.callo call25 rfl ((by repeat (first | exact Imp.refl _ | exact Imp.none _ | apply Imp.pull (by repeat (first | exact Ext.here | apply Ext.there)) | apply Imp.trans Imp.drop))) (recv_ok W0 _ (n := 0) (ac := ⟨2, 0, 1, 4, 2, [], [[97, 98], [99]]⟩) 1 rfl rfl rfl) rfl ?_
  rintro bz -
  rw [if_pos rfl]
  dsimp only [List.set_cons_zero]
  refine OG.yield (Yield.move rfl) rfl ?_
  refine OG.yield (Yield.extract rfl rfl) rfl ?_
  refine OG.yield (Yield.extract rfl rfl) rfl ?_
  refine OG.yield (Yield.assign rfl) rfl ?_
  refine OG.yield (Yield.assign rfl) rfl ?_
  refine OG.nil ?_
  refine QG.then ?_
  refine CG.seq ?_
  refine CG.region ?_
  refine OG.yield (Yield.move rfl) rfl ?_
  refine OG.yield (by first | exact Yield.as (Yield.eql rfl rfl) (bT (by omega)) | exact Yield.as (Yield.eql rfl rfl) (bF (by omega)) | exact Yield.eql rfl rfl) rfl ?_
  refine OG.yield (Yield.move rfl) rfl ?_
  refine OG.guard_yes rfl rfl rfl (by decide) ?_
  refine OG.yield (Yield.move rfl) rfl ?_
  refine OG.guard_yes rfl rfl rfl (by decide) ?_
  refine OG.effd (Eff.lit1 Try.underlying29 ti3 rfl rfl rfl) rfl ?_
  rintro b49 -
  refine OG.guard_yes rfl rfl rfl (by decide) ?_
  refine OG.callo call38 rfl (Imp.refl _) (sameInts_spec W0 _ (xs := [0]) (by exact SlR.of_osl (E := 3) (a := a4) (c := c4) (by repeat (first | exact Ext.here | apply Ext.there))) (by exact SlR.of_osl (a := some ⟨b49, 0, none⟩) (by repeat (first | exact Ext.here | apply Ext.there))) (by decide)) rfl ?_
  rintro ⟨⟩ -
  refine OG.yield (by first | exact Yield.pick_t rfl rfl | exact Yield.pick_f rfl rfl | exact Yield.pick rfl (fun _ => rfl) (fun _ => rfl)) rfl ?_
  refine OG.yield (Yield.move rfl) rfl ?_
  refine OG.guard_yes rfl rfl rfl (by decide) ?_
  refine OG.yield (Yield.move rfl) rfl ?_
  refine OG.guard_yes rfl rfl rfl (by decide) ?_
  refine OG.yield (Yield.toStr (bs := [97, 98]) Try.underlying49 Try.underlying9 Try.underlying5 rfl (SlR.of_osl (E := 5) (a := some ⟨bz, 0, none⟩) (by repeat (first | exact Ext.here | apply Ext.there)))) rfl ?_
  refine OG.guard_yes rfl rfl rfl (by decide) ?_
  refine OG.yield (Yield.as (Yield.str_eql rfl rfl) (v' := .bool true) (by rw [show ({ data := #[97, 98] } : ByteArray) = strOf [97, 98] from rfl]; simp)) rfl ?_
  refine OG.yield (by first | exact Yield.pick_t rfl rfl | exact Yield.pick_f rfl rfl | exact Yield.pick rfl (fun _ => rfl) (fun _ => rfl)) rfl ?_
  refine OG.yield (Yield.move rfl) rfl ?_
  refine OG.guard_yes rfl rfl rfl (by decide) ?_
  refine OG.yield (Yield.move rfl) rfl ?_
  refine OG.guard_yes rfl rfl rfl (by decide) ?_
  refine OG.yield (by first | exact Yield.as (Yield.eql rfl rfl) (bT (by omega)) | exact Yield.as (Yield.eql rfl rfl) (bF (by omega)) | exact Yield.eql rfl rfl) rfl ?_
  refine OG.yield (by first | exact Yield.pick_t rfl rfl | exact Yield.pick_f rfl rfl | exact Yield.pick rfl (fun _ => rfl) (fun _ => rfl)) rfl ?_
  refine OG.yield (Yield.move rfl) rfl ?_
  refine OG.guard_yes rfl rfl rfl (by decide) ?_
  refine OG.yield (Yield.move rfl) rfl ?_
  refine OG.guard_yes rfl rfl rfl (by decide) ?_
  refine OG.callo call23 rfl ((by repeat (first | exact Imp.refl _ | exact Imp.none _ | apply Imp.pull (by repeat (first | exact Ext.here | apply Ext.there)) | apply Imp.trans Imp.drop))) (send_in W0 _ (n := 0) (ac := ⟨2, 0, 1, 4, 2, [], [[99]]⟩) 1 (a := none) (c := 0) (bs := []) (SlR.nil) (by decide) rfl) rfl ?_
  rintro ⟨⟩ -
  rw [show sendR ⟨2, 0, 1, 4, 2, [], [[99]]⟩ 1 [] = (210, ⟨2, 0, 1, 4, 2, [], [[99]]⟩) from rfl]
  dsimp only [List.set_cons_zero]
  refine OG.guard_yes rfl rfl rfl (by decide) ?_
  refine OG.yield (by first | exact Yield.as (Yield.eql rfl rfl) (bT (by omega)) | exact Yield.as (Yield.eql rfl rfl) (bF (by omega)) | exact Yield.eql rfl rfl) rfl ?_
  refine OG.yield (by first | exact Yield.pick_t rfl rfl | exact Yield.pick_f rfl rfl | exact Yield.pick rfl (fun _ => rfl) (fun _ => rfl)) rfl ?_
  refine OG.yield (Yield.move rfl) rfl ?_
  refine OG.guard_yes rfl rfl rfl (by decide) ?_
  refine OG.yield (Yield.move rfl) rfl ?_
  refine OG.guard_yes rfl rfl rfl (by decide) ?_
  refine OG.effd (Eff.lit [(.const (.int .u8 97)), (.const (.int .u8 98)), (.const (.int .u8 99)), (.const (.int .u8 100)), (.const (.int .u8 101))] Try.underlying49 ti5 rfl rfl rfl rfl (by decide) (by simp [Value.cells]) (by simp [Value.cells]; rfl)) rfl ?_
  rintro b68 -
  refine OG.guard_yes rfl rfl rfl (by decide) ?_
  refine OG.effd (Eff.convBytes (b := b68) Try.underlying49 Try.underlying5 rfl (by repeat (first | exact Foc.here | apply Foc.there))) rfl ?_
  rintro ⟨⟩ -
  refine OG.guard_yes rfl rfl rfl (by decide) ?_
  refine OG.callo call23 rfl ((by repeat (first | exact Imp.refl _ | exact Imp.none _ | apply Imp.pull (by repeat (first | exact Ext.here | apply Ext.there)) | apply Imp.trans Imp.drop))) (send_in W0 _ (n := 0) (ac := ⟨2, 0, 1, 4, 2, [], [[99]]⟩) 0 (bs := [97, 98, 99, 100, 101]) (by exact SlR.of_osl_eq (a := some ⟨b68, 0, none⟩) (by repeat (first | exact Ext.here | apply Ext.there)) rfl rfl) (by decide) rfl) rfl ?_
  rintro ⟨⟩ -
  rw [show sendR ⟨2, 0, 1, 4, 2, [], [[99]]⟩ 0 [97, 98, 99, 100, 101] = (9, ⟨2, 0, 1, 4, 2, [], [[99]]⟩) from rfl]
  dsimp only [List.set_cons_zero]
  refine OG.guard_yes rfl rfl rfl (by decide) ?_
  refine OG.yield (by first | exact Yield.as (Yield.eql rfl rfl) (bT (by omega)) | exact Yield.as (Yield.eql rfl rfl) (bF (by omega)) | exact Yield.eql rfl rfl) rfl ?_
  refine OG.yield (by first | exact Yield.pick_t rfl rfl | exact Yield.pick_f rfl rfl | exact Yield.pick rfl (fun _ => rfl) (fun _ => rfl)) rfl ?_
  refine OG.yield (Yield.assign rfl) rfl ?_
  refine OG.nil ?_
  refine QG.then ?_
  refine CG.ret ?_
  exact QG.ret1 rfl rfl () trivial rfl (by repeat (first | exact Imp.refl _ | exact Imp.none _ | apply Imp.pull (by repeat (first | exact Ext.here | apply Ext.there)) | apply Imp.trans Imp.drop))
end
end Go.Proofs.Ytjigjbcdopmeeaa.Po
