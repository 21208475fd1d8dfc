/- The document's ports: channels with two lists of ends, each a list of messages: what each function does. -/
import Derived.Test.YtjigjbcdopmeeaaPapart
namespace Go.Proofs.Ytjigjbcdopmeeaa.Po
open Go Go.Sl Go.RowKit Go.Proofs Go.Proofs.Ytjigjbcdopmeeaa.T
set_option linter.unusedVariables false
set_option linter.unusedSimpArgs false
set_option maxRecDepth 100000
structure RC where
  xs : List End
  ys : List End
  pl : List Msg
  ca : Option Addr
  cc : Nat
  sa : Option Addr
  sc : Nat
  ra : Option Addr
  rc : Nat
abbrev RH (r m : Nat) (x : RC) : HProp := blk r [.slice x.ca m x.cc, .slice x.sa x.xs.length x.sc, .slice x.ra x.ys.length x.rc] 94
abbrev RL (l : List Cf) (x : RC) : HProp := osl 47 5 x.ca x.cc l.length ((l.map Cf.cells).flatten)
abbrev RO (r : Nat) (l : List Cf) (x : RC) : List HProp :=
  [RH r l.length x, RL l x, osl 65 1 x.sa x.sc x.xs.length (x.xs.map End.cell), osl 65 1 x.ra x.rc x.ys.length (x.ys.map End.cell), ends x.xs, ends x.ys, pool x.pl]
structure RC.OK (x : RC) (acs : List AC) : Prop where
  sb : x.xs.map End.bs = acs.map AC.s
  rb : x.ys.map End.bs = acs.map AC.r
  ok : ∀ a ∈ acs, a.OK
  mem : ∀ y, y ∈ x.xs ∨ y ∈ x.ys → ∀ m ∈ y.ms, m ∈ x.pl
  len : acs.length ≤ 1000
/-- At block r lie the document's ports. -/
def Rp (r : Nat) (acs : List AC) : HProp := fun h => ∃ x : RC, x.OK acs ∧ Star (RO r (acs.map AC.cf) x) h
theorem rp_open0 {r : Nat} {acs : List AC} (y : Heaplet) (h : Rp r acs y) : ∃ x : RC, x.OK acs ∧ Star (RO r (acs.map AC.cf) x) y := h
theorem rp_close0 {r : Nat} {acs : List AC} {G : List HProp} (x : RC) (hx : x.OK acs) : Imp (RO r (acs.map AC.cf) x ++ G) (Rp r acs :: G) :=
  Imp.trans star_close (Imp.head fun y hy => ⟨x, hx, hy⟩)
theorem RC.OK.lx {x : RC} {acs : List AC} (h : x.OK acs) : x.xs.length = acs.length := by have := congrArg List.length h.sb; simpa using this
theorem RC.OK.ly {x : RC} {acs : List AC} (h : x.OK acs) : x.ys.length = acs.length := by have := congrArg List.length h.rb; simpa using this
theorem RC.OK.gx {x : RC} {acs : List AC} (h : x.OK acs) {n : Nat} {ac : AC} (ha : acs[n]? = some ac) : ∃ y z, x.xs[n]? = some y ∧ x.ys[n]? = some z ∧ y.bs = ac.s ∧ z.bs = ac.r := by
  have h1 := congrArg (fun l => l[n]?) h.sb
  have h2 := congrArg (fun l => l[n]?) h.rb
  simp only [List.getElem?_map, ha, Option.map_some] at h1 h2
  cases hx : x.xs[n]? with
  | none => rw [hx] at h1; cases h1
  | some y => cases hy : x.ys[n]? with
    | none => rw [hy] at h2; cases h2
    | some z => rw [hx] at h1; rw [hy] at h2; exact ⟨y, z, rfl, rfl, by simpa using h1, by simpa using h2⟩
theorem map_set_eq {α β : Type} {f : α → β} {l : List α} {g : List β} (h : l.map f = g) (n : Nat) (a : α) {b : β} (e : f a = b) : (l.set n a).map f = g.set n b := by rw [List.map_set, h, e]
theorem RC.OK.set {x : RC} {acs : List AC} (h : x.OK acs) {n : Nat} {y z : End} {ac : AC} {ms : List Msg} (hok : ac.OK) (hy : y.bs = ac.s) (hz : z.bs = ac.r) (hm : ∀ m, m ∈ y.ms ∨ m ∈ z.ms → m ∈ ms ++ x.pl) : RC.OK ⟨x.xs.set n y, x.ys.set n z, ms ++ x.pl, x.ca, x.cc, x.sa, x.sc, x.ra, x.rc⟩ (acs.set n ac) := by
  refine ⟨?_, ?_, fun a ha => ?_, fun w hw m hwm => ?_, by rw [List.length_set]; exact h.len⟩
  · rw [List.map_set (f := AC.s)]; exact map_set_eq h.sb n y hy
  · rw [List.map_set (f := AC.r)]; exact map_set_eq h.rb n z hz
  · rcases List.mem_or_eq_of_mem_set ha with ha | rfl
    · exact h.ok a ha
    · exact hok
  · rcases hw with hw | hw
    · rcases List.mem_or_eq_of_mem_set hw with hw | rfl
      · exact List.mem_append.2 (.inr (h.mem w (.inl hw) m hwm))
      · exact hm m (.inl hwm)
    · rcases List.mem_or_eq_of_mem_set hw with hw | rfl
      · exact List.mem_append.2 (.inr (h.mem w (.inr hw) m hwm))
      · exact hm m (.inr hwm)
/-- The document's ports laid open at a channel. -/
abbrev RP (r : Nat) (l : List Cf) (x : RC) (n : Nat) (y z : End) : List HProp :=
  [RH r l.length x, RL l x, osl 65 1 x.sa x.sc x.xs.length ((x.xs.set n y).map End.cell), osl 65 1 x.ra x.rc x.ys.length ((x.ys.set n z).map End.cell),
   oend y, oend z, Star ((x.xs.map oend).eraseIdx n), Star ((x.ys.map oend).eraseIdx n)]
theorem rp_open {r n : Nat} {l : List Cf} {x : RC} {y z : End} {G : List HProp} (hy : x.xs[n]? = some y) (hz : x.ys[n]? = some z) : Imp (RO r l x ++ G) (RP r l x n y z ++ (pool x.pl :: G)) := by
  dsimp only [RO, RP, List.cons_append, List.nil_append]
  rw [set_self hy, set_self hz]
  refine Imp.cons (Imp.cons (Imp.cons (Imp.cons ?_)))
  refine Imp.trans (star_take (i := n) (A := oend y) (by rw [List.getElem?_map, hy]; rfl)) (Imp.cons ?_)
  refine Imp.trans (B := ends x.ys :: Star ((x.xs.map oend).eraseIdx n) :: pool x.pl :: G) (fun _ s => Sep.swap s) ?_
  exact Imp.trans (star_take (i := n) (A := oend z) (by rw [List.getElem?_map, hz]; rfl)) (Imp.cons (fun _ s => Sep.swap s))
theorem rp_shut {r n : Nat} {l : List Cf} {x : RC} {y0 z0 y z : End} {ms : List Msg} {G : List HProp} (hy : x.xs[n]? = some y0) (hz : x.ys[n]? = some z0) :
    Imp (RP r l x n y z ++ (pool ms :: pool x.pl :: G)) (RO r l ⟨x.xs.set n y, x.ys.set n z, ms ++ x.pl, x.ca, x.cc, x.sa, x.sc, x.ra, x.rc⟩ ++ G) := by
  dsimp only [RO, RP, RH, RL, List.cons_append, List.nil_append]
  rw [List.length_set, List.length_set]
  refine Imp.cons (Imp.cons (Imp.cons (Imp.cons ?_)))
  refine Imp.trans (B := oend y :: Star ((x.xs.map oend).eraseIdx n) :: oend z :: Star ((x.ys.map oend).eraseIdx n) :: pool ms :: pool x.pl :: G) (by repeat (first | exact Imp.refl _ | exact Imp.none _ | apply Imp.pull (by repeat (first | exact Ext.here | apply Ext.there)) | apply Imp.trans Imp.drop)) ?_
  refine Imp.trans (star_put (L := x.xs.map oend) (i := n) (A := oend y0) (B := oend y) (by rw [List.getElem?_map, hy]; rfl)) ?_
  rw [← List.map_set]
  refine Imp.cons ?_
  refine Imp.trans (star_put (L := x.ys.map oend) (i := n) (A := oend z0) (B := oend z) (by rw [List.getElem?_map, hz]; rfl)) ?_
  rw [← List.map_set]
  exact Imp.cons pool_join
theorem rp_close {r n : Nat} {acs : List AC} {x : RC} {y0 z0 y z : End} {ac ac' : AC} {ms : List Msg} {G : List HProp} (hy : x.xs[n]? = some y0) (hz : x.ys[n]? = some z0) (hx : x.OK acs) (hac : acs[n]? = some ac) (hcf : ac'.cf = ac.cf)
    (hok : ac'.OK) (h1 : y.bs = ac'.s) (h2 : z.bs = ac'.r) (hm : ∀ m, m ∈ y.ms ∨ m ∈ z.ms → m ∈ ms ++ x.pl) : Imp (RP r (acs.map AC.cf) x n y z ++ (pool ms :: pool x.pl :: G)) (Rp r (acs.set n ac') :: G) := by
  refine Imp.trans (rp_shut hy hz) ?_
  have e : acs.map AC.cf = (acs.set n ac').map AC.cf := by
    rw [List.map_set (f := AC.cf), hcf, set_self (by rw [List.getElem?_map, hac]; rfl)]
  rw [e]
  exact rp_close0 _ (hx.set hok h1 h2 hm)
theorem rp_back {r n : Nat} {acs : List AC} {x : RC} {y z : End} {ac : AC} {G : List HProp} (hy : x.xs[n]? = some y) (hz : x.ys[n]? = some z) (hx : x.OK acs) (hac : acs[n]? = some ac) : Imp (RP r (acs.map AC.cf) x n y z ++ (pool x.pl :: G)) (Rp r acs :: G) := by
  obtain ⟨y', z', e1, e2, e3, e4⟩ := hx.gx hac
  rw [hy] at e1; rw [hz] at e2; cases e1; cases e2
  refine Imp.trans (B := RP r (acs.map AC.cf) x n y z ++ (pool [] :: pool x.pl :: G)) ?_ ?_
  · exact Imp.trans (Imp.trans pool_nil (B := pool [] :: (RP r (acs.map AC.cf) x n y z ++ (pool x.pl :: G))) (Imp.refl _)) (Imp.perm (List.perm_middle (a := pool []) (l₁ := RP r (acs.map AC.cf) x n y z) (l₂ := pool x.pl :: G)).symm)
  · have := rp_close (r := r) (ms := []) (G := G) hy hz hx hac rfl (hx.ok _ (List.mem_of_getElem? hac)) e3 e4 (fun m hm => by
      rcases hm with hm | hm
      · exact hx.mem y (.inl (List.mem_of_getElem? hy)) m hm
      · exact hx.mem z (.inr (List.mem_of_getElem? hz)) m hm)
    rw [set_self hac] at this; exact this
section
variable (W0 : World) (Fr : List HProp)
theorem has_spec {r m cc : Nat} {ca : Option Addr} (n : Int) (h0 : Cel W0 Fr ⟨r, 0, none⟩ (.slice ca m cc)) : Ctr Try.prog W0 55 [.pointer (some ⟨r, 0, none⟩), .int .i64 n] Fr (fun _ : Unit => True) (fun _ => .bool (decide (0 ≤ n ∧ n < m))) (fun _ => Fr) := by
  refine Ctr.of_body Try.func55 rfl Try.ntmps55 rfl ?_
  refine CG.seq ?_
  refine CG.region ?_
  refine OG.yield (Yield.assign rfl) rfl ?_
  refine OG.nil ?_
  refine QG.then ?_
  refine CG.seq ?_
  rcases (show n < 0 ∨ 0 ≤ n by omega) with hh | hh
  · skip
    refine CG.region ?_
    refine OG.yield (Yield.move rfl) rfl ?_
    refine OG.yield (by first | exact Yield.as (Yield.geq rfl rfl) (bT (by omega)) | exact Yield.as (Yield.geq rfl rfl) (bF (by omega)) | exact Yield.geq rfl rfl) rfl ?_
    refine OG.yield (Yield.move rfl) rfl ?_
    refine OG.guard_no rfl rfl rfl rfl rfl (by decide) (by decide) ?_
    refine OG.guard_no rfl rfl rfl rfl rfl (by decide) (by decide) ?_
    refine OG.guard_no rfl rfl rfl rfl rfl (by decide) (by decide) ?_
    refine OG.guard_no rfl rfl rfl rfl rfl (by decide) (by decide) ?_
    refine OG.guard_no rfl rfl rfl rfl rfl (by decide) (by decide) ?_
    refine OG.guard_no rfl rfl rfl rfl rfl (by decide) (by decide) ?_
    refine OG.guard_no rfl rfl rfl rfl rfl (by decide) (by decide) ?_
    refine OG.yield (by first | exact Yield.pick_t rfl rfl | exact Yield.pick_f rfl rfl | exact Yield.pick rfl (fun _ => rfl) (fun _ => rfl)) rfl ?_
    refine OG.yield (Yield.assign rfl) rfl ?_
    refine OG.nil ?_
    refine QG.then ?_
    refine CG.ret ?_
    exact QG.ret1 rfl rfl () trivial (by rw [decide_eq_false (by omega)]) (Imp.refl _)
  · skip
    refine CG.region ?_
    refine OG.yield (Yield.move rfl) rfl ?_
    refine OG.yield (by first | exact Yield.as (Yield.geq rfl rfl) (bT (by omega)) | exact Yield.as (Yield.geq rfl rfl) (bF (by omega)) | exact Yield.geq rfl rfl) rfl ?_
    refine OG.yield (Yield.move rfl) rfl ?_
    refine OG.guard_yes rfl rfl rfl (by decide) ?_
    refine OG.yield (Yield.move rfl) rfl ?_
    refine OG.guard_yes rfl rfl rfl (by decide) ?_
    refine OG.yield (Yield.move rfl) rfl ?_
    refine OG.guard_yes rfl rfl rfl (by decide) ?_
    refine OG.yield (Yield.nilCheck rfl) rfl ?_
    refine OG.guard_yes rfl rfl rfl (by decide) ?_
    refine OG.yield (Yield.fieldAddr fa94_0 rfl) rfl ?_
    refine OG.guard_yes rfl rfl rfl (by decide) ?_
    refine OG.yield (Yield.load ti48 rfl h0) rfl ?_
    refine OG.guard_yes rfl rfl rfl (by decide) ?_
    refine OG.yield (Yield.len_slice (a := ca) (m := m) (c := cc) Try.underlying48 rfl rfl) rfl ?_
    refine OG.guard_yes rfl rfl rfl (by decide) ?_
    refine OG.yield (Yield.lss rfl rfl) rfl ?_
    refine OG.yield (by first | exact Yield.pick_t rfl rfl | exact Yield.pick_f rfl rfl | exact Yield.pick rfl (fun _ => rfl) (fun _ => rfl)) rfl ?_
    refine OG.yield (Yield.assign rfl) rfl ?_
    refine OG.nil ?_
    refine QG.then ?_
    refine CG.ret ?_
    exact QG.ret1 rfl rfl () trivial (by rw [show decide (0 ≤ n ∧ n < (m : Int)) = decide (n < (m : Int)) by simp [hh]]) (Imp.refl _)
theorem rsize_spec {r n c : Nat} {a : Option Addr} {l : List Cf} {f : Cf} (h0 : Cel W0 Fr ⟨r, 0, none⟩ (.slice a l.length c)) (hl : SlR W0 Fr 5 a l.length ((l.map Cf.cells).flatten)) (hn : l[n]? = some f) :
    Ctr Try.prog W0 56 [.pointer (some ⟨r, 0, none⟩), .int .i64 n] Fr (fun _ : Unit => True) (fun _ => .int .i64 (max 0 (min f.Size 64))) (fun _ => Fr) := by
  have hi : n < l.length := (List.getElem?_eq_some_iff.1 hn).1
  refine Ctr.pure (fun w hw => hl.elem_shape Cf.len (by decide) hi w hw) ?_
  rintro ⟨b, o, rfl⟩
  refine Ctr.of_body Try.func56 rfl Try.ntmps56 rfl ?_
  refine CG.seq ?_
  refine CG.region ?_
  refine OG.yield (Yield.assign rfl) rfl ?_
  refine OG.nil ?_
  refine QG.then ?_
  refine CG.seq ?_
  refine CG.region ?_
  refine OG.yield (Yield.move rfl) rfl ?_
  refine OG.yield (Yield.nilCheck rfl) rfl ?_
  refine OG.yield (Yield.fieldAddr fa94_0 rfl) rfl ?_
  refine OG.yield (Yield.load ti48 rfl h0) rfl ?_
  refine OG.yield (Yield.move rfl) rfl ?_
  refine OG.yield (Yield.index_slice Try.underlying48 ti47 rfl rfl (by omega) (by omega)) rfl ?_
  refine OG.yield (Yield.fieldAddr fa47_3 rfl) rfl ?_
  refine OG.yield (Yield.load (v := .int .i64 f.Size) ti3 rfl ((hl.elem Cf.len hn) 3 _ rfl)) rfl ?_
  refine OG.yield (Yield.min2 rfl rfl) rfl ?_
  refine OG.yield (Yield.max2 rfl rfl) rfl ?_
  refine OG.yield (Yield.assign rfl) rfl ?_
  refine OG.nil ?_
  refine QG.then ?_
  refine CG.ret ?_
  exact QG.ret1 rfl rfl () trivial rfl (Imp.refl _)
theorem rdepth_spec {r n c : Nat} {a : Option Addr} {l : List Cf} {f : Cf} (h0 : Cel W0 Fr ⟨r, 0, none⟩ (.slice a l.length c)) (hl : SlR W0 Fr 5 a l.length ((l.map Cf.cells).flatten)) (hn : l[n]? = some f) :
    Ctr Try.prog W0 57 [.pointer (some ⟨r, 0, none⟩), .int .i64 n] Fr (fun _ : Unit => True) (fun _ => .int .i64 (dep f.Kind f.Depth)) (fun _ => Fr) := by
  have hi : n < l.length := (List.getElem?_eq_some_iff.1 hn).1
  refine Ctr.pure (fun w hw => hl.elem_shape Cf.len (by decide) hi w hw) ?_
  rintro ⟨b, o, rfl⟩
  refine Ctr.of_body Try.func57 rfl Try.ntmps57 rfl ?_
  refine CG.seq ?_
  refine CG.region ?_
  refine OG.yield (Yield.assign rfl) rfl ?_
  refine OG.nil ?_
  refine QG.then ?_
  refine CG.seq ?_
  refine CG.seq ?_
  rcases (show f.Kind = 2 ∨ f.Kind ≠ 2 by omega) with hk | hk
  · skip
    refine CG.region ?_
    refine OG.yield (Yield.move rfl) rfl ?_
    refine OG.yield (Yield.nilCheck rfl) rfl ?_
    refine OG.yield (Yield.fieldAddr fa94_0 rfl) rfl ?_
    refine OG.yield (Yield.load ti48 rfl h0) rfl ?_
    refine OG.yield (Yield.move rfl) rfl ?_
    refine OG.yield (Yield.index_slice Try.underlying48 ti47 rfl rfl (by omega) (by omega)) rfl ?_
    refine OG.yield (Yield.fieldAddr fa47_0 rfl) rfl ?_
    refine OG.yield (Yield.load (v := .int .i64 f.Kind) ti3 rfl ((hl.elem Cf.len hn) 0 _ rfl)) rfl ?_
    refine OG.yield (by first | exact Yield.as (Yield.neq rfl rfl) (bT (by omega)) | exact Yield.as (Yield.neq rfl rfl) (bF (by omega)) | exact Yield.neq rfl rfl) rfl ?_
    refine OG.nil ?_
    refine QG.then ?_
    refine CG.cond_f rfl ?_
    refine CG.skip ?_
    refine QG.then ?_
    refine CG.seq ?_
    refine CG.region ?_
    refine OG.yield (Yield.move rfl) rfl ?_
    refine OG.yield (Yield.nilCheck rfl) rfl ?_
    refine OG.yield (Yield.fieldAddr fa94_0 rfl) rfl ?_
    refine OG.yield (Yield.load ti48 rfl h0) rfl ?_
    refine OG.yield (Yield.move rfl) rfl ?_
    refine OG.yield (Yield.index_slice Try.underlying48 ti47 rfl rfl (by omega) (by omega)) rfl ?_
    refine OG.yield (Yield.fieldAddr fa47_4 rfl) rfl ?_
    refine OG.yield (Yield.load (v := .int .i64 f.Depth) ti3 rfl ((hl.elem Cf.len hn) 4 _ rfl)) rfl ?_
    refine OG.yield (Yield.min2 rfl rfl) rfl ?_
    refine OG.yield (Yield.max2 rfl rfl) rfl ?_
    refine OG.yield (Yield.assign rfl) rfl ?_
    refine OG.nil ?_
    refine QG.then ?_
    refine CG.ret ?_
    exact QG.ret1 rfl rfl () trivial (by unfold dep; rw [if_pos hk]) (Imp.refl _)
  · skip
    refine CG.region ?_
    refine OG.yield (Yield.move rfl) rfl ?_
    refine OG.yield (Yield.nilCheck rfl) rfl ?_
    refine OG.yield (Yield.fieldAddr fa94_0 rfl) rfl ?_
    refine OG.yield (Yield.load ti48 rfl h0) rfl ?_
    refine OG.yield (Yield.move rfl) rfl ?_
    refine OG.yield (Yield.index_slice Try.underlying48 ti47 rfl rfl (by omega) (by omega)) rfl ?_
    refine OG.yield (Yield.fieldAddr fa47_0 rfl) rfl ?_
    refine OG.yield (Yield.load (v := .int .i64 f.Kind) ti3 rfl ((hl.elem Cf.len hn) 0 _ rfl)) rfl ?_
    refine OG.yield (by first | exact Yield.as (Yield.neq rfl rfl) (bT (by omega)) | exact Yield.as (Yield.neq rfl rfl) (bF (by omega)) | exact Yield.neq rfl rfl) rfl ?_
    refine OG.nil ?_
    refine QG.then ?_
    refine CG.cond_t rfl ?_
    refine CG.seq ?_
    refine CG.region ?_
    refine OG.yield (Yield.assign rfl) rfl ?_
    refine OG.nil ?_
    refine QG.then ?_
    refine CG.ret ?_
    refine QG.pass_ret ?_
    exact QG.ret1 rfl rfl () trivial (by unfold dep; rw [if_neg hk]) (Imp.refl _)
theorem copies_spec {x : End} (hs : SlR W0 Fr 1 x.a x.ms.length (x.ms.map Msg.cell)) (hm : ∀ m ∈ x.ms, RdB W0 Fr m.a m.c m.b) (hl : x.ms.length ≤ 1000) (hbl : ∀ m ∈ x.ms, m.b.length ≤ 2 ^ 40) :
    Ctr Try.prog W0 61 [x.cell] Fr (fun y : End => y.bs = x.bs) (fun y => y.cell) (fun y => oend y :: pool y.ms :: Fr) := by
  refine Ctr.of_body Try.func61 rfl Try.ntmps61 rfl ?_
  refine CG.seq ?_
  refine CG.region ?_
  refine OG.yield (Yield.assign rfl) rfl ?_
  refine OG.nil ?_
  refine QG.then ?_
  refine CG.seq ?_
  refine CG.region ?_
  refine OG.yield (Yield.assign rfl) rfl ?_
  refine OG.nil ?_
  refine QG.then ?_
  refine CG.seq ?_
  refine CG.seq ?_
  refine CG.region ?_
  refine OG.yield (Yield.assign rfl) rfl ?_
  refine OG.nil ?_
  refine QG.then ?_
  refine CG.block ?_
  refine CG.loop (fun s : Nat × End => s.1 ≤ x.ms.length ∧ s.2.bs = (x.ms.take s.1).map Msg.b) (fun s => [(0, x.cell), (3, s.2.cell), (4, .int .i64 s.1)]) (fun s => oend s.2 :: pool s.2.ms :: Fr) (fun s => x.ms.length - s.1) (0, ⟨none, 0, []⟩) ⟨Nat.zero_le _, rfl⟩ (by repeat (first | exact Env.sub_nil _ | refine Env.sub_cons rfl ?_)) (Imp.trans pool_nil (osl_nil (E := 49) (sz := 1))) ?_
  rintro ⟨i, y⟩ ⟨hi, hy⟩
  dsimp only at hi hy ⊢
  have hyl : y.ms.length = i := by have := congrArg List.length hy; unfold End.bs at this; simp only [List.length_map, List.length_take] at this; omega
  refine CG.seq ?_
  refine CG.seq ?_
  refine CG.region ?_
  refine OG.yield (Yield.move rfl) rfl ?_
  refine OG.yield (Yield.move rfl) rfl ?_
  refine OG.yield (Yield.len_slice (a := x.a) (m := x.ms.length) (c := x.c) Try.underlying65 rfl rfl) rfl ?_
  refine OG.yield (by first | exact Yield.as (Yield.lss rfl rfl) (bT (by omega)) | exact Yield.as (Yield.lss rfl rfl) (bF (by omega)) | exact Yield.lss rfl rfl) rfl ?_
  refine OG.nil ?_
  refine QG.then ?_
  refine CG.cond rfl (fun hc => ?_) (fun hc => ?_)
  · try replace hc := of_decide_eq_true hc
    have hi' : i < x.ms.length := by omega
    have hget : x.ms[i]? = some x.ms[i] := by simp [hi']
    have hmm := hm x.ms[i] (List.getElem_mem hi')
    have hml := hbl x.ms[i] (List.getElem_mem hi')
    generalize x.ms[i] = m at hget hmm hml
    refine CG.pure (fun w hw => SlR.shape (hs.imp (by repeat (first | exact Imp.refl _ | exact Imp.none _ | apply Imp.pull (by repeat (first | exact Ext.here | apply Ext.there)) | apply Imp.trans Imp.drop))) (by intro h; have := congrArg List.length h; simp only [List.length_map, List.length_nil] at this; omega) w hw) ?_
    rintro ⟨bx, ox, hxa⟩
    refine CG.skip ?_
    refine QG.then ?_
    refine CG.seq ?_
    refine CG.block ?_
    refine CG.region ?_
    refine OG.yield (Yield.move rfl) rfl ?_
    refine OG.effd (Eff.lit0 Try.underlying49 ti5 rfl) rfl ?_
    rintro b12 -
    refine OG.yield (Yield.move rfl) rfl ?_
    refine OG.yield (Yield.move rfl) rfl ?_
    refine OG.yield (Yield.index_slice (b := bx) (o := ox) (m := x.ms.length) (c := x.c) Try.underlying65 ti49 (by unfold End.cell; rw [hxa]; rfl) rfl (by omega) (by omega)) rfl ?_
    refine OG.yield (Yield.load (v := m.cell) ti49 rfl (by rw [show ox + (i : Int).toNat * 1 = ox + i by omega]; exact SlR.cel (by rw [← hxa]; exact hs.imp (by repeat (first | exact Imp.refl _ | exact Imp.none _ | apply Imp.pull (by repeat (first | exact Ext.here | apply Ext.there)) | apply Imp.trans Imp.drop))) (by rw [List.getElem?_map, hget]; rfl))) rfl ?_
    refine OG.effd (Eff.appendB (bs := []) (ys := m.b) rfl rfl rfl Try.underlying49 Try.underlying49 ti5 (by decide) (by repeat (first | exact Foc.here | apply Foc.there)) (hmm.imp (by repeat (first | exact Imp.refl _ | exact Imp.none _ | apply Imp.pull (by repeat (first | exact Ext.here | apply Ext.there)) | apply Imp.trans Imp.drop))).slR (by simp only [List.length_nil]; omega)) rfl ?_
    rintro ⟨a17, c17⟩ -
    rw [List.nil_append]
    refine OG.effd (Eff.lit1 Try.underlying65 ti49 rfl rfl rfl) rfl ?_
    rintro b18 -
    refine OG.effd (Eff.append (a := y.a) (c := y.c) (k := 1) (ys := [Msg.cell ⟨a17, c17, m.b⟩]) rfl rfl rfl Try.underlying65 Try.underlying65 ti49 rfl (by decide) (by repeat (first | exact Foc.here | apply Foc.there)) (SlR.of_osl (a := some ⟨b18, 0, none⟩) (by repeat (first | exact Ext.here | apply Ext.there))) (by simp [one, Msg.cell]) (by omega)) rfl ?_
    rintro ⟨a19, c19⟩ -
    refine OG.yield (Yield.assign rfl) rfl ?_
    refine OG.nil ?_
    refine QG.block_normal ?_
    refine QG.then ?_
    refine CG.region ?_
    refine OG.yield (Yield.move rfl) rfl ?_
    refine OG.yield (Yield.add rfl rfl (w64 (by omega) (by omega))) rfl ?_
    refine OG.yield (Yield.assign rfl) rfl ?_
    refine OG.nil ?_
    refine QG.next (i + 1, ⟨a19, c19, y.ms ++ [⟨a17, c17, m.b⟩]⟩) ⟨by simp only; omega, ?_⟩ (by simp only; omega) ?_ ?_
    · obtain ⟨hlt, rfl⟩ := List.getElem?_eq_some_iff.1 hget
      unfold End.bs at hy ⊢
      rw [List.map_append, hy, List.take_succ_eq_append_getElem hlt, List.map_append]; rfl
    · unfold End.cell; dsimp only; rw [List.length_append]; exact (by repeat (first | exact Env.sub_nil _ | refine Env.sub_cons rfl ?_))
    · dsimp only; rw [oend_snoc]
      exact Imp.trans (Imp.pull (by repeat (first | exact Ext.here | apply Ext.there)) (Imp.pull (A := Msg.own ⟨a17, c17, m.b⟩) (by repeat (first | exact Ext.here | apply Ext.there)) (Imp.pull (A := pool y.ms) (by repeat (first | exact Ext.here | apply Ext.there)) (by repeat (first | exact Imp.refl _ | exact Imp.none _ | apply Imp.pull (by repeat (first | exact Ext.here | apply Ext.there)) | apply Imp.trans Imp.drop))))) (Imp.cons pool_add)
  · try replace hc := of_decide_eq_false hc
    refine CG.exit ?_
    refine QG.pass_exit ?_
    refine QG.pass_exit ?_
    refine QG.block_exit ?_
    refine QG.then ?_
    refine CG.seq ?_
    refine CG.region ?_
    refine OG.yield (Yield.move rfl) rfl ?_
    refine OG.yield (Yield.assign rfl) rfl ?_
    refine OG.nil ?_
    refine QG.then ?_
    refine CG.ret ?_
    have : i = x.ms.length := by omega
    subst this
    rw [List.take_length] at hy
    exact QG.ret1 rfl rfl y hy rfl (by repeat (first | exact Imp.refl _ | exact Imp.none _ | apply Imp.pull (by repeat (first | exact Ext.here | apply Ext.there)) | apply Imp.trans Imp.drop))
end
end Go.Proofs.Ytjigjbcdopmeeaa.Po
