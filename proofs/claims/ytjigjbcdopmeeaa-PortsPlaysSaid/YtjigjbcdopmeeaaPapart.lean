/- PortsApart: what one partition does changes nothing at any end of a channel of which it is no end: the law returns true and changes nothing that was there. -/
import Derived.Test.YtjigjbcdopmeeaaPorder
namespace Go.Proofs.Ytjigjbcdopmeeaa.Po
open Go Go.Sl Go.RowKit Go.Proofs Go.Proofs.Ytjigjbcdopmeeaa.T
set_option linter.unusedVariables false
set_option linter.unusedSimpArgs false
set_option maxRecDepth 100000
def AC.cf (a : AC) : Cf := ⟨a.kind, a.from_, a.to, a.size, a.depth⟩
abbrev Fit (l : List Cf) (acs : List AC) : Prop := acs.map AC.cf = l
theorem fit_new (l : List Cf) : Fit l (l.map Cf.ac) := by unfold Fit; rw [List.map_map]; exact (List.map_congr_left fun _ _ => rfl).trans (List.map_id l)
theorem Fit.set {l : List Cf} {acs : List AC} (h : Fit l acs) {n : Nat} {ac ac' : AC} (hg : acs[n]? = some ac) (e : ac'.cf = ac.cf) : Fit l (acs.set n ac') := by
  have := congrArg (List.map AC.cf) (set_self hg)
  unfold Fit at h ⊢
  rw [List.map_set] at this ⊢
  rw [e, this, h]
theorem Fit.tr {l : List Cf} {acs : List AC} (h : Fit l acs) : Fit l (acs.map AC.tr) := by
  unfold Fit at h ⊢; rw [List.map_map, ← h]; exact List.map_congr_left fun _ _ => rfl
theorem Fit.len {l : List Cf} {acs : List AC} (h : Fit l acs) : acs.length = l.length := by rw [← h, List.length_map]
theorem Fit.get {l : List Cf} {acs : List AC} (h : Fit l acs) {n : Nat} {ac : AC} (hg : acs[n]? = some ac) : l[n]? = some ac.cf := by rw [← h, List.getElem?_map, hg]; rfl
theorem send_cf (ac : AC) (p : Int) (b : B) : (sendR ac p b).2.cf = ac.cf := by unfold sendR; split; rfl; split; rfl; split; rfl; split <;> rfl
theorem send_r (ac : AC) (p : Int) (b : B) : (sendR ac p b).2.r = ac.r := by unfold sendR; split; rfl; split; rfl; split; rfl; split <;> rfl
/-- What an act may change. -/
def Near (k c p : Int) (acs acs' : List AC) : Prop := ∀ (n : Nat) (ac : AC), acs[n]? = some ac → ∃ ac', acs'[n]? = some ac' ∧ (ac'.s = ac.s ∨ (k = 0 ∧ (n : Int) = c ∧ ac.from_ = p)) ∧ (ac'.r = ac.r ∨ (k = 1 ∧ (n : Int) = c ∧ ac.to = p))
theorem near_refl (k c p : Int) (acs : List AC) : Near k c p acs acs := fun n ac h => ⟨ac, h, .inl rfl, .inl rfl⟩
theorem near_set {k c p : Int} {acs : List AC} {m : Nat} {a a' : AC} (hg : acs[m]? = some a) (h : (a'.s = a.s ∨ (k = 0 ∧ (m : Int) = c ∧ a.from_ = p)) ∧ (a'.r = a.r ∨ (k = 1 ∧ (m : Int) = c ∧ a.to = p))) : Near k c p acs (acs.set m a') := by
  intro n ac hn
  by_cases e : m = n
  · subst e
    rw [hg] at hn; cases hn
    exact ⟨a', List.getElem?_set_self (List.getElem?_eq_some_iff.1 hg).1, h⟩
  · exact ⟨ac, by rw [List.getElem?_set_ne e]; exact hn, .inl rfl, .inl rfl⟩
theorem near_send {acs : List AC} {m : Nat} {a : AC} (hg : acs[m]? = some a) (p : Int) (b : B) : Near 0 m p acs (acs.set m (sendR a p b).2) := by
  refine near_set hg ⟨?_, .inl (send_r a p b)⟩
  by_cases e : a.from_ = p
  · exact .inr ⟨rfl, rfl, e⟩
  · refine .inl ?_; unfold sendR; rw [if_pos e]
theorem recv_cases (acs : List AC) (c p : Int) : (c < 0 ∨ (acs.length : Int) ≤ c) ∨ (∃ (m : Nat) (am : AC), c = m ∧ acs[m]? = some am ∧ recvE am p ≠ 0) ∨ (∃ (m : Nat) (am : AC) (x : B) (rest : List B), c = m ∧ acs[m]? = some am ∧ am.to = p ∧ am.r = x :: rest) := by
  by_cases h : c < 0 ∨ (acs.length : Int) ≤ c
  · exact .inl h
  · have hc : c = (c.toNat : Int) := by omega
    have hl : c.toNat < acs.length := by omega
    have hg : acs[c.toNat]? = some acs[c.toNat] := by simp [hl]
    generalize acs[c.toNat] = am at hg
    by_cases hto : am.to = p
    · cases hr : am.r with
      | nil => exact .inr (.inl ⟨c.toNat, am, hc, hg, by unfold recvE; rw [if_neg (by simp [hto]), if_pos hr]; decide⟩)
      | cons x rest => exact .inr (.inr ⟨c.toNat, am, x, rest, hc, hg, hto, hr⟩)
    · exact .inr (.inl ⟨c.toNat, am, hc, hg, by unfold recvE; rw [if_pos hto]; decide⟩)
abbrev ends (xs : List End) : HProp := Star (xs.map oend)
theorem ends_nil {G : List HProp} : Imp G (ends [] :: G) := star_nil
theorem ends_add {G : List HProp} {y : End} {xs : List End} : Imp (oend y :: ends xs :: G) (ends (xs ++ [y]) :: G) := by
  have h := star_add (L := xs.map oend) (A := oend y) (G := G)
  unfold ends; rw [List.map_append]; exact h
theorem ends_rd {W0 : World} {G R : List HProp} {xs : List End} (x : Ext G (ends xs) R) {y : End} (h : y ∈ xs) : SlR W0 G 1 y.a y.ms.length (y.ms.map Msg.cell) := by
  obtain ⟨i, hi⟩ := List.getElem?_of_mem (List.mem_map_of_mem (f := oend) h)
  exact SlR.imp (SlR.of_osl (E := 49) (c := y.c) (G := oend y :: Star ((xs.map oend).eraseIdx i) :: R) Ext.here) (Imp.trans x.1 (star_take hi))
end Go.Proofs.Ytjigjbcdopmeeaa.Po
namespace Go.Proofs.Ytjigjbcdopmeeaa.portsApart
open Go Go.Sl Go.RowKit Go.Proofs Go.Proofs.Ytjigjbcdopmeeaa.T Go.Proofs.Ytjigjbcdopmeeaa.Po
set_option linter.unusedVariables false
set_option linter.unusedSimpArgs false
set_option maxRecDepth 100000
structure Wa where
  j : Nat
  xs : List Po.End
  ms : List Msg
  a : Option Addr
  c : Nat
def Was (acs : List AC) (j : Nat) (xs : List Po.End) : Prop := ∀ (n : Nat) (ac : AC), n < j → acs[n]? = some ac → ∃ y1 y2, xs[2 * n]? = some y1 ∧ xs[2 * n + 1]? = some y2 ∧ y1.bs = ac.s ∧ y2.bs = ac.r
theorem Was.add {acs : List AC} {j : Nat} {xs : List Po.End} (h : Was acs j xs) (hl : xs.length = 2 * j) {ac : AC} (hg : acs[j]? = some ac) {y1 y2 : Po.End} (h1 : y1.bs = ac.s) (h2 : y2.bs = ac.r) : Was acs (j + 1) ((xs ++ [y1]) ++ [y2]) := by
  intro n a hn ha
  rcases Nat.lt_or_ge n j with hlt | hge
  · obtain ⟨z1, z2, e1, e2, e3, e4⟩ := h n a hlt ha
    exact ⟨z1, z2, by rw [List.append_assoc, List.getElem?_append_left (by omega)]; exact e1, by rw [List.append_assoc, List.getElem?_append_left (by omega)]; exact e2, e3, e4⟩
  · obtain rfl : n = j := by omega
    rw [hg] at ha; cases ha
    exact ⟨y1, y2, by rw [List.append_assoc, List.getElem?_append_right (by omega), show 2 * n - xs.length = 0 by omega]; rfl, by rw [List.append_assoc, List.getElem?_append_right (by omega), show 2 * n + 1 - xs.length = 1 by omega]; rfl, h1, h2⟩
structure Wa.OK (acs : List AC) (s : Wa) : Prop where
  len : s.xs.length = 2 * s.j
  was : Was acs s.j s.xs
  mem : ∀ y ∈ s.xs, ∀ m ∈ y.ms, m ∈ s.ms
  small : ∀ y ∈ s.xs, y.ms.length < 2 ^ 60
abbrev Wa.G (s : Wa) : List HProp := [osl 65 1 s.a s.c s.xs.length (s.xs.map Po.End.cell), ends s.xs, pool s.ms]
set_option maxHeartbeats 8000000 in
theorem walk (W : World) {a0 a1 : Option Addr} {c0 c1 : Nat} {l : List Cf} {ops : List POp} (hls : SlAt W 5 a0 l.length ((l.map Cf.cells).flatten)) (hops : SlAt W 4 a1 ops.length ((ops.map POp.cells).flatten)) (hok : ∀ o ∈ ops, o.OK W) :
    Ctr Try.prog W 10 [.slice a0 l.length c0, .slice a1 ops.length c1] [old W] (fun _ : Unit => True) (fun _ => .bool true) (fun _ => [old W]) := by
  refine Ctr.of_body Try.func10 rfl Try.ntmps10 rfl ?_
  refine CG.seq ?_
  refine CG.region ?_
  refine OG.yield (Yield.assign rfl) rfl ?_
  refine OG.nil ?_
  refine QG.then ?_
  refine CG.seq ?_
  refine CG.seq ?_
  refine CG.region ?_
  refine OG.callo call21 rfl (Imp.refl _) (works_spec W _) rfl ?_
  rintro ⟨⟩ -
  refine OG.yield (Yield.not rfl) rfl ?_
  refine OG.nil ?_
  refine QG.then ?_
  refine CG.cond_f rfl ?_
  refine CG.skip ?_
  refine QG.then ?_
  refine CG.seq ?_
  refine CG.seq ?_
  rcases (show l.length ≤ 20 ∨ 20 < l.length by omega) with hl | hl
  · skip
    refine CG.region ?_
    refine OG.yield (Yield.move rfl) rfl ?_
    refine OG.yield (Yield.len_slice Try.underlying48 rfl rfl) rfl ?_
    refine OG.yield (by first | exact Yield.as (Yield.gtr rfl rfl) (bT (by omega)) | exact Yield.as (Yield.gtr rfl rfl) (bF (by omega)) | exact Yield.gtr rfl rfl) rfl ?_
    refine OG.nil ?_
    refine QG.then ?_
    refine CG.cond_f rfl ?_
    refine CG.skip ?_
    refine QG.then ?_
    refine CG.seq ?_
    refine CG.region ?_
    refine OG.effd (Eff.lit0 Try.underlying48 ti47 rfl) rfl ?_
    rintro b18 -
    refine OG.yield (Yield.move rfl) rfl ?_
    refine OG.effd (Eff.append0 (k := l.length) (ys := (l.map Cf.cells).flatten) rfl rfl rfl Try.underlying48 Try.underlying48 ti47 rfl (by decide) (by repeat (first | exact Foc.here | apply Foc.there)) (hls.old (by repeat (first | exact Ext.here | apply Ext.there))) (by intro v hv; obtain ⟨x, hx, hvx⟩ := List.mem_flatten.1 hv; obtain ⟨f, _, rfl⟩ := List.mem_map.1 hx; exact Cf.ones f v hvx) (by omega)) rfl ?_
    rintro ⟨a20, c20⟩ -
    refine OG.callo call22 rfl ((by repeat (first | exact Imp.refl _ | exact Imp.none _ | apply Imp.pull (by repeat (first | exact Ext.here | apply Ext.there)) | apply Imp.trans Imp.drop))) (new_spec W _ (l := l) (by exact SlR.of_osl (E := 47) (a := a20) (c := c20) (by repeat (first | exact Ext.here | apply Ext.there))) (by omega)) rfl ?_
    rintro p -
    refine OG.yield (Yield.assign rfl) rfl ?_
    refine OG.nil ?_
    refine QG.then ?_
    refine CG.seq ?_
    refine CG.seq ?_
    refine CG.region ?_
    refine OG.yield (Yield.move rfl) rfl ?_
    refine OG.yield (by first | exact Yield.ptr_nil Try.underlying44 rfl rfl | exact Yield.nil_nil Try.underlying44 rfl rfl) rfl ?_
    refine OG.nil ?_
    refine QG.then ?_
    refine CG.cond_f rfl ?_
    refine CG.skip ?_
    refine QG.then ?_
    refine CG.cut (fun _ : Unit => True) (fun _ => []) (fun _ => [old W]) ?_ ?_
    · skip
      refine CG.seq ?_
      refine CG.region ?_
      refine OG.yield (Yield.assign rfl) rfl ?_
      refine OG.nil ?_
      refine QG.then ?_
      refine CG.block ?_
      refine CG.loop (fun x : Nat × List AC => Fit l x.2 ∧ x.1 ≤ ops.length ∧ x.1 ≤ 100) (fun x => [(0, .slice a0 l.length c0), (1, .slice a1 ops.length c1), (5, .pointer (some ⟨p, 0, none⟩)), (6, .int .i64 x.1)]) (fun x => [Po p x.2, old W]) (fun x => ops.length - x.1) (0, l.map Cf.ac) ⟨fit_new l, Nat.zero_le _, Nat.zero_le _⟩ (by repeat (first | exact Env.sub_nil _ | refine Env.sub_cons rfl ?_)) (by repeat (first | exact Imp.refl _ | exact Imp.none _ | apply Imp.pull (by repeat (first | exact Ext.here | apply Ext.there)) | apply Imp.trans Imp.drop)) ?_
      rintro ⟨i, acs⟩ ⟨hfit, im, im2⟩
      dsimp only at hfit im im2 ⊢
      have hln := hfit.len
      refine CG.pure (φ := ∀ a ∈ acs, a.OK) (fun w hw => by obtain ⟨_, _, x, hx, _⟩ := Sat.ext (A := Po p acs) (G := [Po p acs, old W]) Ext.here hw; exact hx.ok) ?_
      intro hao
      refine CG.seq ?_
      refine CG.seq ?_
      rcases loop_head (i) (ops.length) 100 with hh | hh | hh
      · skip
        refine CG.region ?_
        refine OG.yield (Yield.move rfl) rfl ?_
        refine OG.yield (Yield.move rfl) rfl ?_
        refine OG.yield (Yield.len_slice Try.underlying43 rfl rfl) rfl ?_
        refine OG.yield (by first | exact Yield.as (Yield.lss rfl rfl) (bT (by omega)) | exact Yield.as (Yield.lss rfl rfl) (bF (by omega)) | exact Yield.lss rfl rfl) rfl ?_
        refine OG.yield (Yield.move rfl) rfl ?_
        refine OG.guard_yes rfl rfl rfl (by decide) ?_
        refine OG.yield (Yield.move rfl) rfl ?_
        refine OG.guard_yes rfl rfl rfl (by decide) ?_
        refine OG.yield (by first | exact Yield.as (Yield.lss rfl rfl) (bT (by omega)) | exact Yield.as (Yield.lss rfl rfl) (bF (by omega)) | exact Yield.lss rfl rfl) rfl ?_
        refine OG.yield (by first | exact Yield.pick_t rfl rfl | exact Yield.pick_f rfl rfl | exact Yield.pick rfl (fun _ => rfl) (fun _ => rfl)) rfl ?_
        refine OG.nil ?_
        refine QG.then ?_
        refine CG.cond_t rfl ?_
        refine CG.skip ?_
        refine QG.then ?_
        obtain ⟨h1, h2⟩ := hh
        have hget : ops[i]? = some ops[i] := by simp [h1]
        have hko := hok ops[i] (List.getElem_mem h1)
        generalize ops[i] = op at hget hko
        refine CG.pure (fun w hw => (hops.old (G := [Po p acs, old W]) (by repeat (first | exact Ext.here | apply Ext.there))).elem_shape POp.len (by decide) h1 w hw) ?_
        rintro ⟨b, o, rfl⟩
        obtain ⟨Kind, Part, Chn, Ba, Bc, Bs⟩ := op
        have hBc := hko.Bc
        have hB := hko.B
        have hBm := hko.Bm
        dsimp only at hBc hB hBm
        clear hko
        unfold reachBytes at hBm
        have hrow : ∀ {G R : List HProp}, Ext G (old W) R → Row W G b (o + i * 4) (POp.cells ⟨Kind, Part, Chn, Ba, Bc, Bs⟩) := fun x => (hops.old x).elem POp.len hget
        refine CG.cut (fun x : Nat × List AC => Fit l x.2 ∧ x.1 = i) (fun x => [(0, .slice a0 l.length c0), (1, .slice (some ⟨b, o, none⟩) ops.length c1), (5, .pointer (some ⟨p, 0, none⟩)), (6, .int .i64 i)]) (fun x => [Po p x.2, old W]) ?_ ?_
        · skip
          refine CG.block ?_
          refine CG.seq ?_
          refine CG.region ?_
          refine OG.yield (Yield.move rfl) rfl ?_
          refine OG.yield (Yield.move rfl) rfl ?_
          refine OG.yield (Yield.index_slice Try.underlying43 ti51 rfl rfl (by omega) (by omega)) rfl ?_
          refine OG.yield (Yield.load_agg (vs := POp.cells ⟨Kind, Part, Chn, Ba, Bc, Bs⟩) ti51 rfl rfl (hrow (by repeat (first | exact Ext.here | apply Ext.there)))) rfl ?_
          refine OG.effd (Eff.alloc ti51) rfl ?_
          rintro b7 -
          refine OG.eff (Eff.storeAll ti51 rfl rfl (by repeat (first | exact Foc.here | apply Foc.there)) (POp.len ⟨Kind, Part, Chn, Ba, Bc, Bs⟩) (POp.ones ⟨Kind, Part, Chn, Ba, Bc, Bs⟩) rfl) rfl ?_
          rintro ⟨⟩ -
          refine OG.nil ?_
          refine QG.then ?_
          refine CG.seq ?_
          refine CG.region ?_
          refine OG.yield (Yield.assign rfl) rfl ?_
          refine OG.nil ?_
          refine QG.then ?_
          refine CG.seq ?_
          refine CG.seq ?_
          refine CG.region ?_
          refine OG.yield (Yield.assign rfl) rfl ?_
          refine OG.nil ?_
          refine QG.then ?_
          refine CG.block ?_
          refine CG.loop (fun s : Wa => s.OK acs ∧ s.j ≤ l.length) (fun s => [(0, .slice a0 l.length c0), (1, .slice (some ⟨b, o, none⟩) ops.length c1), (5, .pointer (some ⟨p, 0, none⟩)), (6, .int .i64 i), (7, .pointer (some ⟨b7, 0, none⟩)), (8, .slice s.a s.xs.length s.c), (9, .int .i64 s.j)]) (fun s => blk b7 (POp.cells ⟨Kind, Part, Chn, Ba, Bc, Bs⟩) 51 :: (s.G ++ [Po p acs, old W])) (fun s => l.length - s.j) ⟨0, [], [], none, 0⟩ ⟨⟨rfl, fun n ac h => absurd h (Nat.not_lt_zero _), fun y h => absurd h List.not_mem_nil, fun y h => absurd h List.not_mem_nil⟩, Nat.zero_le _⟩ (by repeat (first | exact Env.sub_nil _ | refine Env.sub_cons rfl ?_)) (Imp.trans pool_nil (Imp.trans ends_nil (Imp.trans (osl_nil (E := 65) (sz := 1)) (by repeat (first | exact Imp.refl _ | exact Imp.none _ | apply Imp.pull (by repeat (first | exact Ext.here | apply Ext.there)) | apply Imp.trans Imp.drop))))) ?_
          rintro ⟨j, xs, ms, aw, cw⟩ ⟨⟨hxl, hwas, hmem, hsm⟩, hj⟩
          dsimp only at hxl hwas hmem hsm hj ⊢
          dsimp only [Wa.G, List.cons_append, List.nil_append]
          refine CG.seq ?_
          refine CG.seq ?_
          refine CG.region ?_
          refine OG.yield (Yield.move rfl) rfl ?_
          refine OG.yield (Yield.move rfl) rfl ?_
          refine OG.yield (Yield.len_slice Try.underlying48 rfl rfl) rfl ?_
          refine OG.yield (by first | exact Yield.as (Yield.lss rfl rfl) (bT (by omega)) | exact Yield.as (Yield.lss rfl rfl) (bF (by omega)) | exact Yield.lss rfl rfl) rfl ?_
          refine OG.nil ?_
          refine QG.then ?_
          refine CG.cond rfl (fun hc => ?_) (fun hc => ?_)
          · try replace hc := of_decide_eq_true hc
            have hj1 : j < l.length := by omega
            have hga : acs[j]? = some acs[j] := by simp [hln, hj1]
            generalize acs[j] = ac at hga
            refine CG.skip ?_
            refine QG.then ?_
            refine CG.seq ?_
            refine CG.block ?_
            refine CG.region ?_
            refine OG.yield (Yield.move rfl) rfl ?_
            refine OG.yield (Yield.move rfl) rfl ?_
            refine OG.yield (Yield.move rfl) rfl ?_
            refine OG.callo call32 rfl ((by repeat (first | exact Imp.refl _ | exact Imp.none _ | apply Imp.pull (by repeat (first | exact Ext.here | apply Ext.there)) | apply Imp.trans Imp.drop))) (held_in W _ (n := j) (ac := ac) true hga) rfl ?_
            rintro y1 hy1
            rw [if_pos rfl] at hy1
            refine OG.yield (Yield.move rfl) rfl ?_
            refine OG.yield (Yield.move rfl) rfl ?_
            refine OG.callo call32 rfl ((by repeat (first | exact Imp.refl _ | exact Imp.none _ | apply Imp.pull (by repeat (first | exact Ext.here | apply Ext.there)) | apply Imp.trans Imp.drop))) (held_in W _ (n := j) (ac := ac) false hga) rfl ?_
            rintro y2 hy2
            rw [if_neg (by decide)] at hy2
            refine OG.effd (Eff.lit [.tmp 47, .tmp 50] (vs := [y1.cell, y2.cell]) (cells := [y1.cell, y2.cell]) Try.underlying69 ti65 rfl rfl rfl rfl (by decide) (by simp [Value.cells, Po.End.cell]) (by simp [Value.cells, Po.End.cell])) rfl ?_
            rintro b51 -
            refine OG.effd (Eff.append (a := aw) (c := cw) (m := xs.length) (xs := xs.map Po.End.cell) (k := 2) (ys := [y1.cell, y2.cell]) rfl rfl rfl Try.underlying69 Try.underlying69 ti65 rfl (by decide) (by repeat (first | exact Foc.here | apply Foc.there)) (SlR.of_osl (a := some ⟨b51, 0, none⟩) (by repeat (first | exact Ext.here | apply Ext.there))) (by simp [one, Po.End.cell]) (by omega)) rfl ?_
            rintro ⟨a52, c52⟩ -
            refine OG.yield (Yield.assign rfl) rfl ?_
            refine OG.nil ?_
            refine QG.block_normal ?_
            refine QG.then ?_
            refine CG.region ?_
            refine OG.yield (Yield.move rfl) rfl ?_
            refine OG.yield (Yield.add rfl rfl (w64 (by omega) (by omega))) rfl ?_
            refine OG.yield (Yield.assign rfl) rfl ?_
            refine OG.nil ?_
            have hy1l : y1.ms.length = ac.s.length := by have := congrArg List.length hy1; simpa [Po.End.bs] using this
            have hy2l : y2.ms.length = ac.r.length := by have := congrArg List.length hy2; simpa [Po.End.bs] using this
            have hao1 := hao ac (List.mem_of_getElem? hga)
            have h8s := hao1.s
            have h8r := hao1.r
            refine QG.next ⟨j + 1, (xs ++ [y1]) ++ [y2], (ms ++ y1.ms) ++ y2.ms, a52, c52⟩ ⟨⟨?_, hwas.add hxl hga hy1 hy2, ?_, ?_⟩, ?_⟩ ?_ ?_ ?_
            · simp only [List.length_append, List.length_cons, List.length_nil]; omega
            · intro y hy m hm
              simp only [List.mem_append, List.mem_cons, List.not_mem_nil, or_false] at hy ⊢
              rcases hy with (hy | rfl) | rfl
              · exact .inl (.inl (hmem y hy m hm))
              · exact .inl (.inr hm)
              · exact .inr hm
            · intro y hy
              simp only [List.mem_append, List.mem_cons, List.not_mem_nil, or_false] at hy
              rcases hy with (hy | rfl) | rfl
              · exact hsm y hy
              · omega
              · omega
            · simp only; omega
            · simp only; omega
            · dsimp only; rw [List.length_append, List.length_append]; exact (by repeat (first | exact Env.sub_nil _ | refine Env.sub_cons rfl ?_))
            · dsimp only [Wa.G, List.cons_append, List.nil_append]
              rw [show osl 65 1 a52 c52 ((xs ++ [y1]) ++ [y2]).length (((xs ++ [y1]) ++ [y2]).map Po.End.cell) = osl 65 1 a52 c52 (xs.length + 2) (xs.map Po.End.cell ++ [y1.cell, y2.cell]) by rw [List.length_append, List.length_append, List.map_append, List.map_append, List.append_assoc]; rfl]
              exact Imp.trans (Imp.pull (A := oend y1) (by repeat (first | exact Ext.here | apply Ext.there)) (Imp.pull (A := ends xs) (by repeat (first | exact Ext.here | apply Ext.there)) (Imp.refl _))) (Imp.trans ends_add (Imp.trans (Imp.pull (A := oend y2) (by repeat (first | exact Ext.here | apply Ext.there)) (Imp.pull (A := ends (xs ++ [y1])) (by repeat (first | exact Ext.here | apply Ext.there)) (Imp.refl _))) (Imp.trans ends_add (Imp.trans (Imp.pull (A := pool ms) (by repeat (first | exact Ext.here | apply Ext.there)) (Imp.pull (A := pool y1.ms) (by repeat (first | exact Ext.here | apply Ext.there)) (Imp.refl _))) (Imp.trans pool_join (Imp.trans (Imp.pull (A := pool (ms ++ y1.ms)) (by repeat (first | exact Ext.here | apply Ext.there)) (Imp.pull (A := pool y2.ms) (by repeat (first | exact Ext.here | apply Ext.there)) (Imp.refl _))) (Imp.trans pool_join (by repeat (first | exact Imp.refl _ | exact Imp.none _ | apply Imp.pull (by repeat (first | exact Ext.here | apply Ext.there)) | apply Imp.trans Imp.drop)))))))))
          · try replace hc := of_decide_eq_false hc
            have hje : j = l.length := by omega
            refine CG.exit ?_
            refine QG.pass_exit ?_
            refine QG.pass_exit ?_
            refine QG.block_exit ?_
            refine QG.then ?_
            refine CG.cut (fun acs' : List AC => Fit l acs' ∧ Near Kind Chn Part acs acs') (fun _ => [(0, .slice a0 l.length c0), (1, .slice (some ⟨b, o, none⟩) ops.length c1), (5, .pointer (some ⟨p, 0, none⟩)), (6, .int .i64 i), (7, .pointer (some ⟨b7, 0, none⟩)), (8, .slice aw xs.length cw)]) (fun acs' => blk b7 (POp.cells ⟨Kind, Part, Chn, Ba, Bc, Bs⟩) 51 :: osl 65 1 aw cw xs.length (xs.map Po.End.cell) :: ends xs :: pool ms :: [Po p acs', old W]) ?_ ?_
            · skip
              refine CG.seq ?_
              refine CG.region ?_
              refine OG.yield (Yield.fieldAddr fa51_0 rfl) rfl ?_
              refine OG.yield (Yield.load (v := .int .i64 Kind) ti3 rfl (Cel.of_blk (b := b7) (by repeat (first | exact Ext.here | apply Ext.there)) rfl)) rfl ?_
              refine OG.nil ?_
              refine QG.then ?_
              refine CG.block ?_
              refine CG.seq ?_
              refine CG.region ?_
              refine OG.yield (Yield.eql rfl rfl) rfl ?_
              refine OG.yield (Yield.assign rfl) rfl ?_
              refine OG.nil ?_
              refine QG.then ?_
              refine CG.cond rfl (fun hc => ?_) (fun hc => ?_)
              · try replace hc := of_decide_eq_true hc
                rcases (show (Chn < 0 ∨ (acs.length : Int) ≤ Chn) ∨ ∃ m : Nat, Chn = m ∧ m < acs.length from if h : Chn < 0 ∨ (acs.length : Int) ≤ Chn then .inl h else .inr ⟨Chn.toNat, by omega, by omega⟩) with hh | ⟨m, rfl, hm⟩
                · skip
                  refine CG.draw (.look 0 0 (.look 1 0 (.look 2 0 (.look 3 0 (.look 4 0 (.look 6 0 (.look 7 0 (.eff1 5 false (.eff1 8 false (.eff1 9 false (.done))))))))))) [5, 8, 9] [] ([blk b7 (POp.cells ⟨Kind, Part, Chn, Ba, Bc, Bs⟩) 51]) ([]) mixed (by kernel_rfl) (by repeat (first | exact Imp.refl _ | exact Imp.none _ | apply Imp.pull (by repeat (first | exact Ext.here | apply Ext.there)) | apply Imp.trans Imp.drop)) (Imp.none _) ?_
                  refine DG.look rfl rfl (Yield.move rfl) rfl ?_
                  refine DG.look rfl rfl (Yield.fieldAddr fa51_1 rfl) rfl ?_
                  refine DG.look rfl rfl (Yield.load (v := .int .i64 Part) ti3 rfl (Cel.of_blk (b := b7) (by repeat (first | exact Ext.here | apply Ext.there)) rfl)) rfl ?_
                  refine DG.look rfl rfl (Yield.fieldAddr fa51_2 rfl) rfl ?_
                  refine DG.look rfl rfl (Yield.load (v := .int .i64 Chn) ti3 rfl (Cel.of_blk (b := b7) (by repeat (first | exact Ext.here | apply Ext.there)) rfl)) rfl ?_
                  refine DG.look rfl rfl (Yield.fieldAddr fa51_3 rfl) rfl ?_
                  refine DG.look rfl rfl (Yield.load (v := .slice Ba Bs.length Bc) ti49 rfl (Cel.of_blk (b := b7) (by repeat (first | exact Ext.here | apply Ext.there)) rfl)) rfl ?_
                  refine DG.eff1 ?_
                  refine Chg.eff rfl rfl (Eff.lit0 Try.underlying49 ti5 rfl) rfl (fun _ => (by repeat (first | exact Imp.refl _ | exact Imp.none _ | apply Imp.pull (by repeat (first | exact Ext.here | apply Ext.there)) | apply Imp.trans Imp.drop))) (fun _ => Imp.refl _) (fun _ => (by repeat (first | exact Imp.refl _ | exact Imp.none _ | apply Imp.pull (by repeat (first | exact Ext.here | apply Ext.there)) | apply Imp.trans Imp.drop))) ?_
                  rintro b64 -
                  refine DG.eff1 ?_
                  refine Chg.eff rfl rfl (Eff.appendB0 (ys := Bs) rfl rfl rfl Try.underlying49 Try.underlying49 ti5 (by decide) (by repeat (first | exact Foc.here | apply Foc.there)) (hB.old (by repeat (first | exact Ext.here | apply Ext.there))) (by omega)) rfl (fun _ => (by repeat (first | exact Imp.refl _ | exact Imp.none _ | apply Imp.pull (by repeat (first | exact Ext.here | apply Ext.there)) | apply Imp.trans Imp.drop))) (fun _ => Imp.refl _) (fun _ => (by repeat (first | exact Imp.refl _ | exact Imp.none _ | apply Imp.pull (by repeat (first | exact Ext.here | apply Ext.there)) | apply Imp.trans Imp.drop))) ?_
                  rintro ⟨a67, c67⟩ -
                  refine DG.eff1 ?_
                  refine Chg.callo rfl rfl call23 rfl ((by repeat (first | exact Imp.refl _ | exact Imp.none _ | apply Imp.pull (by repeat (first | exact Ext.here | apply Ext.there)) | apply Imp.trans Imp.drop))) (send_out W _ Part Chn (a := a67) (m := Bs.length) hh) rfl (fun _ => (by repeat (first | exact Imp.refl _ | exact Imp.none _ | apply Imp.pull (by repeat (first | exact Ext.here | apply Ext.there)) | apply Imp.trans Imp.drop))) (fun _ => Imp.refl _) (fun _ => (by repeat (first | exact Imp.refl _ | exact Imp.none _ | apply Imp.pull (by repeat (first | exact Ext.here | apply Ext.there)) | apply Imp.trans Imp.drop))) ?_
                  rintro ⟨⟩ -
                  refine DG.done ?_
                  refine QG.block_normal ?_
                  exact QG.mid acs ⟨hfit, near_refl _ _ _ _⟩ (by repeat (first | exact Env.sub_nil _ | refine Env.sub_cons rfl ?_)) (by repeat (first | exact Imp.refl _ | exact Imp.none _ | apply Imp.pull (by repeat (first | exact Ext.here | apply Ext.there)) | apply Imp.trans Imp.drop))
                · skip
                  have hgm : acs[m]? = some acs[m] := by simp [hm]
                  generalize acs[m] = am at hgm
                  refine CG.draw (.look 0 0 (.look 1 0 (.look 2 0 (.look 3 0 (.look 4 0 (.look 6 0 (.look 7 0 (.eff1 5 false (.eff1 8 false (.eff1 9 false (.done))))))))))) [5, 8, 9] [] ([blk b7 (POp.cells ⟨Kind, Part, (m : Int), Ba, Bc, Bs⟩) 51]) ([]) mixed (by kernel_rfl) (by repeat (first | exact Imp.refl _ | exact Imp.none _ | apply Imp.pull (by repeat (first | exact Ext.here | apply Ext.there)) | apply Imp.trans Imp.drop)) (Imp.none _) ?_
                  refine DG.look rfl rfl (Yield.move rfl) rfl ?_
                  refine DG.look rfl rfl (Yield.fieldAddr fa51_1 rfl) rfl ?_
                  refine DG.look rfl rfl (Yield.load (v := .int .i64 Part) ti3 rfl (Cel.of_blk (b := b7) (by repeat (first | exact Ext.here | apply Ext.there)) rfl)) rfl ?_
                  refine DG.look rfl rfl (Yield.fieldAddr fa51_2 rfl) rfl ?_
                  refine DG.look rfl rfl (Yield.load (v := .int .i64 (m : Int)) ti3 rfl (Cel.of_blk (b := b7) (by repeat (first | exact Ext.here | apply Ext.there)) rfl)) rfl ?_
                  refine DG.look rfl rfl (Yield.fieldAddr fa51_3 rfl) rfl ?_
                  refine DG.look rfl rfl (Yield.load (v := .slice Ba Bs.length Bc) ti49 rfl (Cel.of_blk (b := b7) (by repeat (first | exact Ext.here | apply Ext.there)) rfl)) rfl ?_
                  refine DG.eff1 ?_
                  refine Chg.eff rfl rfl (Eff.lit0 Try.underlying49 ti5 rfl) rfl (fun _ => (by repeat (first | exact Imp.refl _ | exact Imp.none _ | apply Imp.pull (by repeat (first | exact Ext.here | apply Ext.there)) | apply Imp.trans Imp.drop))) (fun _ => Imp.refl _) (fun _ => (by repeat (first | exact Imp.refl _ | exact Imp.none _ | apply Imp.pull (by repeat (first | exact Ext.here | apply Ext.there)) | apply Imp.trans Imp.drop))) ?_
                  rintro b64 -
                  refine DG.eff1 ?_
                  refine Chg.eff rfl rfl (Eff.appendB0 (ys := Bs) rfl rfl rfl Try.underlying49 Try.underlying49 ti5 (by decide) (by repeat (first | exact Foc.here | apply Foc.there)) (hB.old (by repeat (first | exact Ext.here | apply Ext.there))) (by omega)) rfl (fun _ => (by repeat (first | exact Imp.refl _ | exact Imp.none _ | apply Imp.pull (by repeat (first | exact Ext.here | apply Ext.there)) | apply Imp.trans Imp.drop))) (fun _ => Imp.refl _) (fun _ => (by repeat (first | exact Imp.refl _ | exact Imp.none _ | apply Imp.pull (by repeat (first | exact Ext.here | apply Ext.there)) | apply Imp.trans Imp.drop))) ?_
                  rintro ⟨a67, c67⟩ -
                  refine DG.eff1 ?_
                  refine Chg.callo rfl rfl call23 rfl ((by repeat (first | exact Imp.refl _ | exact Imp.none _ | apply Imp.pull (by repeat (first | exact Ext.here | apply Ext.there)) | apply Imp.trans Imp.drop))) (send_in W _ (n := m) (ac := am) Part (bs := Bs) (by exact SlR.of_osl (E := 5) (a := a67) (c := c67) (by repeat (first | exact Ext.here | apply Ext.there))) (by omega) hgm) rfl (fun _ => (by repeat (first | exact Imp.refl _ | exact Imp.none _ | apply Imp.pull (by repeat (first | exact Ext.here | apply Ext.there)) | apply Imp.trans Imp.drop))) (fun _ => Imp.refl _) (fun _ => (by repeat (first | exact Imp.refl _ | exact Imp.none _ | apply Imp.pull (by repeat (first | exact Ext.here | apply Ext.there)) | apply Imp.trans Imp.drop))) ?_
                  rintro ⟨⟩ -
                  refine DG.done ?_
                  refine QG.block_normal ?_
                  exact QG.mid (acs.set m (sendR am Part Bs).2) ⟨hfit.set hgm (send_cf _ _ _), by rw [hc]; exact near_send hgm Part Bs⟩ (by repeat (first | exact Env.sub_nil _ | refine Env.sub_cons rfl ?_)) (by repeat (first | exact Imp.refl _ | exact Imp.none _ | apply Imp.pull (by repeat (first | exact Ext.here | apply Ext.there)) | apply Imp.trans Imp.drop))
              · try replace hc := of_decide_eq_false hc
                refine CG.seq ?_
                refine CG.region ?_
                refine OG.yield (Yield.eql rfl rfl) rfl ?_
                refine OG.yield (Yield.assign rfl) rfl ?_
                refine OG.nil ?_
                refine QG.then ?_
                refine CG.cond rfl (fun hc => ?_) (fun hc => ?_)
                · try replace hc := of_decide_eq_true hc
                  rcases recv_cases acs Chn Part with hh | ⟨m, am, rfl, hgm, hne⟩ | ⟨m, am, x, rest, rfl, hgm, hto, hr⟩
                  · skip
                    refine CG.region ?_
                    refine OG.yield (Yield.move rfl) rfl ?_
                    refine OG.yield (Yield.fieldAddr fa51_1 rfl) rfl ?_
                    refine OG.yield (Yield.load (v := .int .i64 Part) ti3 rfl (Cel.of_blk (b := b7) (by repeat (first | exact Ext.here | apply Ext.there)) rfl)) rfl ?_
                    refine OG.yield (Yield.fieldAddr fa51_2 rfl) rfl ?_
                    refine OG.yield (Yield.load (v := .int .i64 Chn) ti3 rfl (Cel.of_blk (b := b7) (by repeat (first | exact Ext.here | apply Ext.there)) rfl)) rfl ?_
                    refine OG.callo call25 rfl ((by repeat (first | exact Imp.refl _ | exact Imp.none _ | apply Imp.pull (by repeat (first | exact Ext.here | apply Ext.there)) | apply Imp.trans Imp.drop))) (recv_out W _ Part Chn hh) rfl ?_
                    rintro ⟨⟩ -
                    refine OG.nil ?_
                    refine QG.block_normal ?_
                    exact QG.mid acs ⟨hfit, near_refl _ _ _ _⟩ (by repeat (first | exact Env.sub_nil _ | refine Env.sub_cons rfl ?_)) (by repeat (first | exact Imp.refl _ | exact Imp.none _ | apply Imp.pull (by repeat (first | exact Ext.here | apply Ext.there)) | apply Imp.trans Imp.drop))
                  · skip
                    refine CG.region ?_
                    refine OG.yield (Yield.move rfl) rfl ?_
                    refine OG.yield (Yield.fieldAddr fa51_1 rfl) rfl ?_
                    refine OG.yield (Yield.load (v := .int .i64 Part) ti3 rfl (Cel.of_blk (b := b7) (by repeat (first | exact Ext.here | apply Ext.there)) rfl)) rfl ?_
                    refine OG.yield (Yield.fieldAddr fa51_2 rfl) rfl ?_
                    refine OG.yield (Yield.load (v := .int .i64 (m : Int)) ti3 rfl (Cel.of_blk (b := b7) (by repeat (first | exact Ext.here | apply Ext.there)) rfl)) rfl ?_
                    refine OG.callo call25 rfl ((by repeat (first | exact Imp.refl _ | exact Imp.none _ | apply Imp.pull (by repeat (first | exact Ext.here | apply Ext.there)) | apply Imp.trans Imp.drop))) (recv_bad W _ (n := m) (ac := am) Part hgm hne) rfl ?_
                    rintro ⟨⟩ -
                    refine OG.nil ?_
                    refine QG.block_normal ?_
                    exact QG.mid acs ⟨hfit, near_refl _ _ _ _⟩ (by repeat (first | exact Env.sub_nil _ | refine Env.sub_cons rfl ?_)) (by repeat (first | exact Imp.refl _ | exact Imp.none _ | apply Imp.pull (by repeat (first | exact Ext.here | apply Ext.there)) | apply Imp.trans Imp.drop))
                  · skip
                    refine CG.region ?_
                    refine OG.yield (Yield.move rfl) rfl ?_
                    refine OG.yield (Yield.fieldAddr fa51_1 rfl) rfl ?_
                    refine OG.yield (Yield.load (v := .int .i64 Part) ti3 rfl (Cel.of_blk (b := b7) (by repeat (first | exact Ext.here | apply Ext.there)) rfl)) rfl ?_
                    refine OG.yield (Yield.fieldAddr fa51_2 rfl) rfl ?_
                    refine OG.yield (Yield.load (v := .int .i64 (m : Int)) ti3 rfl (Cel.of_blk (b := b7) (by repeat (first | exact Ext.here | apply Ext.there)) rfl)) rfl ?_
                    refine OG.callo call25 rfl ((by repeat (first | exact Imp.refl _ | exact Imp.none _ | apply Imp.pull (by repeat (first | exact Ext.here | apply Ext.there)) | apply Imp.trans Imp.drop))) (recv_ok W _ (n := m) (ac := am) Part (m := x) (rest := rest) hgm hto hr) rfl ?_
                    rintro z76 -
                    refine OG.nil ?_
                    refine QG.block_normal ?_
                    exact QG.mid (acs.set m (if am.kind = 2 then { am with r := rest } else am)) ⟨hfit.set hgm (by split <;> rfl), near_set hgm ⟨.inl (by split <;> rfl), .inr ⟨hc, rfl, hto⟩⟩⟩ (by repeat (first | exact Env.sub_nil _ | refine Env.sub_cons rfl ?_)) (by repeat (first | exact Imp.refl _ | exact Imp.none _ | apply Imp.pull (by repeat (first | exact Ext.here | apply Ext.there)) | apply Imp.trans Imp.drop))
                · try replace hc := of_decide_eq_false hc
                  refine CG.seq ?_
                  refine CG.region ?_
                  refine OG.yield (Yield.move rfl) rfl ?_
                  refine OG.callo call24 rfl ((by repeat (first | exact Imp.refl _ | exact Imp.none _ | apply Imp.pull (by repeat (first | exact Ext.here | apply Ext.there)) | apply Imp.trans Imp.drop))) (transfer_spec W _ (acs := acs)) rfl ?_
                  rintro ⟨a56, c56⟩ -
                  refine OG.nil ?_
                  refine QG.then ?_
                  refine CG.exit ?_
                  refine QG.block_out (by decide) ?_
                  refine QG.pass_exit ?_
                  refine QG.block_exit ?_
                  exact QG.mid (i, acs.map AC.tr) ⟨hfit.tr, rfl⟩ (by repeat (first | exact Env.sub_nil _ | refine Env.sub_cons rfl ?_)) (by repeat (first | exact Imp.refl _ | exact Imp.none _ | apply Imp.pull (by repeat (first | exact Ext.here | apply Ext.there)) | apply Imp.trans Imp.drop))
            rintro acs' ⟨hfit', hnear⟩
            clear hrow hB
            refine CG.seq ?_
            refine CG.region ?_
            refine OG.yield (Yield.assign rfl) rfl ?_
            refine OG.nil ?_
            refine QG.then ?_
            refine CG.block ?_
            refine CG.loop (fun k : Nat => k ≤ l.length) (fun k => [(0, .slice a0 l.length c0), (1, .slice (some ⟨b, o, none⟩) ops.length c1), (5, .pointer (some ⟨p, 0, none⟩)), (6, .int .i64 i), (7, .pointer (some ⟨b7, 0, none⟩)), (8, .slice aw xs.length cw), (10, .int .i64 k)]) (fun _ => blk b7 (POp.cells ⟨Kind, Part, Chn, Ba, Bc, Bs⟩) 51 :: osl 65 1 aw cw xs.length (xs.map Po.End.cell) :: ends xs :: pool ms :: [Po p acs', old W]) (fun k => l.length - k) 0 (Nat.zero_le _) (by repeat (first | exact Env.sub_nil _ | refine Env.sub_cons rfl ?_)) (by repeat (first | exact Imp.refl _ | exact Imp.none _ | apply Imp.pull (by repeat (first | exact Ext.here | apply Ext.there)) | apply Imp.trans Imp.drop)) ?_
            intro k hk
            refine CG.seq ?_
            refine CG.seq ?_
            refine CG.region ?_
            refine OG.yield (Yield.move rfl) rfl ?_
            refine OG.yield (Yield.move rfl) rfl ?_
            refine OG.yield (Yield.len_slice Try.underlying48 rfl rfl) rfl ?_
            refine OG.yield (by first | exact Yield.as (Yield.lss rfl rfl) (bT (by omega)) | exact Yield.as (Yield.lss rfl rfl) (bF (by omega)) | exact Yield.lss rfl rfl) rfl ?_
            refine OG.nil ?_
            refine QG.then ?_
            refine CG.cond rfl (fun hc => ?_) (fun hc => ?_)
            · try replace hc := of_decide_eq_true hc
              have hk1 : k < l.length := by omega
              have hga : acs[k]? = some acs[k] := by simp [hln, hk1]
              generalize acs[k] = ac at hga
              obtain ⟨ac', hga', hs', hr'⟩ := hnear k ac hga
              obtain ⟨y1, y2, hx1, hx2, hb1, hb2⟩ := hwas k ac (by omega) hga
              have hfl := hfit.get hga
              have hm1 := List.mem_of_getElem? hx1
              have hm2 := List.mem_of_getElem? hx2
              refine CG.pure (fun w hw => SlR.elem_shape (SlAt.old hls (by repeat (first | exact Ext.here | apply Ext.there))) Cf.len (by decide) hk1 w hw) ?_
              rintro ⟨b0, o0, rfl⟩
              refine CG.pure (fun w hw => SlR.shape (SlR.of_osl (E := 65) (a := aw) (c := cw) (by repeat (first | exact Ext.here | apply Ext.there))) (by intro h; rw [List.map_eq_nil_iff] at h; rw [h] at hx1; cases hx1) w hw) ?_
              rintro ⟨bw, ow, rfl⟩
              have hrl : ∀ {G R : List HProp}, Ext G (old W) R → Row W G b0 (o0 + k * 5) (Cf.cells ac.cf) := fun x => (hls.old x).elem Cf.len hfl
              refine CG.skip ?_
              refine QG.then ?_
              refine CG.seq ?_
              refine CG.block ?_
              refine CG.cut (fun s : Bool => s = true ↔ (Kind = 0 ∧ (k : Int) = Chn ∧ ac.from_ = Part)) (fun s => [(0, .slice (some ⟨b0, o0, none⟩) l.length c0), (1, .slice (some ⟨b, o, none⟩) ops.length c1), (5, .pointer (some ⟨p, 0, none⟩)), (6, .int .i64 i), (7, .pointer (some ⟨b7, 0, none⟩)), (8, .slice (some ⟨bw, ow, none⟩) xs.length cw), (10, .int .i64 k), (11, .bool s)]) (fun _ => blk b7 (POp.cells ⟨Kind, Part, Chn, Ba, Bc, Bs⟩) 51 :: osl 65 1 (some ⟨bw, ow, none⟩) cw xs.length (xs.map Po.End.cell) :: ends xs :: pool ms :: [Po p acs', old W]) ?_ ?_
              · skip
                rcases (show Kind ≠ 0 ∨ (Kind = 0 ∧ (k : Int) ≠ Chn) ∨ (Kind = 0 ∧ (k : Int) = Chn ∧ ac.from_ ≠ Part) ∨ (Kind = 0 ∧ (k : Int) = Chn ∧ ac.from_ = Part) by omega) with hk2 | hk2 | hk2 | hk2
                · skip
                  refine CG.draw (.look 0 1 (.look 1 1 (.look 2 1 (.look 3 1 (.look 4 1 (.look 5 1 (.look 6 1 (.look 7 1 (.look 8 1 (.look 9 1 (.look 10 1 (.look 11 1 (.look 12 1 (.look 13 1 (.look 14 1 (.look 15 1 (.look 16 1 (.look 17 1 (.look 18 1 (.look 19 1 (.done))))))))))))))))))))) [] [] ([]) ([]) mixed (by kernel_rfl) (Imp.none _) (Imp.none _) ?_
                  refine DG.look rfl rfl (Yield.fieldAddr fa51_0 rfl) rfl ?_
                  refine DG.look rfl rfl (Yield.load (v := .int .i64 Kind) ti3 rfl (Cel.of_blk (b := b7) (by repeat (first | exact Ext.here | apply Ext.there)) rfl)) rfl ?_
                  refine DG.look rfl rfl (by first | exact Yield.as (Yield.eql rfl rfl) (bT (by omega)) | exact Yield.as (Yield.eql rfl rfl) (bF (by omega)) | exact Yield.eql rfl rfl) rfl ?_
                  refine DG.look rfl rfl (Yield.move rfl) rfl ?_
                  refine DG.pass rfl rfl rfl ?_
                  refine DG.pass rfl rfl rfl ?_
                  refine DG.pass rfl rfl rfl ?_
                  refine DG.pass rfl rfl rfl ?_
                  refine DG.look rfl rfl (by first | exact Yield.pick_t rfl rfl | exact Yield.pick_f rfl rfl | exact Yield.pick rfl (fun _ => rfl) (fun _ => rfl)) rfl ?_
                  refine DG.look rfl rfl (Yield.move rfl) rfl ?_
                  refine DG.pass rfl rfl rfl ?_
                  refine DG.pass rfl rfl rfl ?_
                  refine DG.pass rfl rfl rfl ?_
                  refine DG.pass rfl rfl rfl ?_
                  refine DG.pass rfl rfl rfl ?_
                  refine DG.pass rfl rfl rfl ?_
                  refine DG.pass rfl rfl rfl ?_
                  refine DG.pass rfl rfl rfl ?_
                  refine DG.look rfl rfl (by first | exact Yield.pick_t rfl rfl | exact Yield.pick_f rfl rfl | exact Yield.pick rfl (fun _ => rfl) (fun _ => rfl)) rfl ?_
                  refine DG.look rfl rfl (Yield.assign rfl) rfl ?_
                  refine DG.done ?_
                  exact QG.mid false (by constructor <;> intro h <;> first | (cases h; done) | omega) (by repeat (first | exact Env.sub_nil _ | refine Env.sub_cons rfl ?_)) (by repeat (first | exact Imp.refl _ | exact Imp.none _ | apply Imp.pull (by repeat (first | exact Ext.here | apply Ext.there)) | apply Imp.trans Imp.drop))
                · skip
                  refine CG.draw (.look 0 1 (.look 1 1 (.look 2 1 (.look 3 1 (.look 4 1 (.look 5 1 (.look 6 1 (.look 7 1 (.look 8 1 (.look 9 1 (.look 10 1 (.look 11 1 (.look 12 1 (.look 13 1 (.look 14 1 (.look 15 1 (.look 16 1 (.look 17 1 (.look 18 1 (.look 19 1 (.done))))))))))))))))))))) [] [] ([]) ([]) mixed (by kernel_rfl) (Imp.none _) (Imp.none _) ?_
                  refine DG.look rfl rfl (Yield.fieldAddr fa51_0 rfl) rfl ?_
                  refine DG.look rfl rfl (Yield.load (v := .int .i64 Kind) ti3 rfl (Cel.of_blk (b := b7) (by repeat (first | exact Ext.here | apply Ext.there)) rfl)) rfl ?_
                  refine DG.look rfl rfl (by first | exact Yield.as (Yield.eql rfl rfl) (bT (by omega)) | exact Yield.as (Yield.eql rfl rfl) (bF (by omega)) | exact Yield.eql rfl rfl) rfl ?_
                  refine DG.look rfl rfl (Yield.move rfl) rfl ?_
                  refine DG.look rfl rfl (Yield.move rfl) rfl ?_
                  refine DG.look rfl rfl (Yield.fieldAddr fa51_2 rfl) rfl ?_
                  refine DG.look rfl rfl (Yield.load (v := .int .i64 Chn) ti3 rfl (Cel.of_blk (b := b7) (by repeat (first | exact Ext.here | apply Ext.there)) rfl)) rfl ?_
                  refine DG.look rfl rfl (by first | exact Yield.as (Yield.eql rfl rfl) (bT (by omega)) | exact Yield.as (Yield.eql rfl rfl) (bF (by omega)) | exact Yield.eql rfl rfl) rfl ?_
                  refine DG.look rfl rfl (by first | exact Yield.pick_t rfl rfl | exact Yield.pick_f rfl rfl | exact Yield.pick rfl (fun _ => rfl) (fun _ => rfl)) rfl ?_
                  refine DG.look rfl rfl (Yield.move rfl) rfl ?_
                  refine DG.pass rfl rfl rfl ?_
                  refine DG.pass rfl rfl rfl ?_
                  refine DG.pass rfl rfl rfl ?_
                  refine DG.pass rfl rfl rfl ?_
                  refine DG.pass rfl rfl rfl ?_
                  refine DG.pass rfl rfl rfl ?_
                  refine DG.pass rfl rfl rfl ?_
                  refine DG.pass rfl rfl rfl ?_
                  refine DG.look rfl rfl (by first | exact Yield.pick_t rfl rfl | exact Yield.pick_f rfl rfl | exact Yield.pick rfl (fun _ => rfl) (fun _ => rfl)) rfl ?_
                  refine DG.look rfl rfl (Yield.assign rfl) rfl ?_
                  refine DG.done ?_
                  exact QG.mid false (by constructor <;> intro h <;> first | (cases h; done) | omega) (by repeat (first | exact Env.sub_nil _ | refine Env.sub_cons rfl ?_)) (by repeat (first | exact Imp.refl _ | exact Imp.none _ | apply Imp.pull (by repeat (first | exact Ext.here | apply Ext.there)) | apply Imp.trans Imp.drop))
                · skip
                  refine CG.draw (.look 0 1 (.look 1 1 (.look 2 1 (.look 3 1 (.look 4 1 (.look 5 1 (.look 6 1 (.look 7 1 (.look 8 1 (.look 9 1 (.look 10 1 (.look 11 1 (.look 12 1 (.look 13 1 (.look 14 1 (.look 15 1 (.look 16 1 (.look 17 1 (.look 18 1 (.look 19 1 (.done))))))))))))))))))))) [] [] ([]) ([]) mixed (by kernel_rfl) (Imp.none _) (Imp.none _) ?_
                  refine DG.look rfl rfl (Yield.fieldAddr fa51_0 rfl) rfl ?_
                  refine DG.look rfl rfl (Yield.load (v := .int .i64 Kind) ti3 rfl (Cel.of_blk (b := b7) (by repeat (first | exact Ext.here | apply Ext.there)) rfl)) rfl ?_
                  refine DG.look rfl rfl (by first | exact Yield.as (Yield.eql rfl rfl) (bT (by omega)) | exact Yield.as (Yield.eql rfl rfl) (bF (by omega)) | exact Yield.eql rfl rfl) rfl ?_
                  refine DG.look rfl rfl (Yield.move rfl) rfl ?_
                  refine DG.look rfl rfl (Yield.move rfl) rfl ?_
                  refine DG.look rfl rfl (Yield.fieldAddr fa51_2 rfl) rfl ?_
                  refine DG.look rfl rfl (Yield.load (v := .int .i64 Chn) ti3 rfl (Cel.of_blk (b := b7) (by repeat (first | exact Ext.here | apply Ext.there)) rfl)) rfl ?_
                  refine DG.look rfl rfl (by first | exact Yield.as (Yield.eql rfl rfl) (bT (by omega)) | exact Yield.as (Yield.eql rfl rfl) (bF (by omega)) | exact Yield.eql rfl rfl) rfl ?_
                  refine DG.look rfl rfl (by first | exact Yield.pick_t rfl rfl | exact Yield.pick_f rfl rfl | exact Yield.pick rfl (fun _ => rfl) (fun _ => rfl)) rfl ?_
                  refine DG.look rfl rfl (Yield.move rfl) rfl ?_
                  refine DG.look rfl rfl (Yield.move rfl) rfl ?_
                  refine DG.look rfl rfl (Yield.move rfl) rfl ?_
                  refine DG.look rfl rfl (Yield.index_slice Try.underlying48 ti47 rfl rfl (by omega) (by omega)) rfl ?_
                  refine DG.look rfl rfl (Yield.fieldAddr fa47_1 rfl) rfl ?_
                  refine DG.look rfl rfl (Yield.load (v := .int .i64 ac.from_) ti3 rfl ((hrl (by repeat (first | exact Ext.here | apply Ext.there))) 1 _ rfl)) rfl ?_
                  refine DG.look rfl rfl (Yield.fieldAddr fa51_1 rfl) rfl ?_
                  refine DG.look rfl rfl (Yield.load (v := .int .i64 Part) ti3 rfl (Cel.of_blk (b := b7) (by repeat (first | exact Ext.here | apply Ext.there)) rfl)) rfl ?_
                  refine DG.look rfl rfl (by first | exact Yield.as (Yield.eql rfl rfl) (bT (by omega)) | exact Yield.as (Yield.eql rfl rfl) (bF (by omega)) | exact Yield.eql rfl rfl) rfl ?_
                  refine DG.look rfl rfl (by first | exact Yield.pick_t rfl rfl | exact Yield.pick_f rfl rfl | exact Yield.pick rfl (fun _ => rfl) (fun _ => rfl)) rfl ?_
                  refine DG.look rfl rfl (Yield.assign rfl) rfl ?_
                  refine DG.done ?_
                  exact QG.mid false (by constructor <;> intro h <;> first | (cases h; done) | omega) (by repeat (first | exact Env.sub_nil _ | refine Env.sub_cons rfl ?_)) (by repeat (first | exact Imp.refl _ | exact Imp.none _ | apply Imp.pull (by repeat (first | exact Ext.here | apply Ext.there)) | apply Imp.trans Imp.drop))
                · skip
                  refine CG.draw (.look 0 1 (.look 1 1 (.look 2 1 (.look 3 1 (.look 4 1 (.look 5 1 (.look 6 1 (.look 7 1 (.look 8 1 (.look 9 1 (.look 10 1 (.look 11 1 (.look 12 1 (.look 13 1 (.look 14 1 (.look 15 1 (.look 16 1 (.look 17 1 (.look 18 1 (.look 19 1 (.done))))))))))))))))))))) [] [] ([]) ([]) mixed (by kernel_rfl) (Imp.none _) (Imp.none _) ?_
                  refine DG.look rfl rfl (Yield.fieldAddr fa51_0 rfl) rfl ?_
                  refine DG.look rfl rfl (Yield.load (v := .int .i64 Kind) ti3 rfl (Cel.of_blk (b := b7) (by repeat (first | exact Ext.here | apply Ext.there)) rfl)) rfl ?_
                  refine DG.look rfl rfl (by first | exact Yield.as (Yield.eql rfl rfl) (bT (by omega)) | exact Yield.as (Yield.eql rfl rfl) (bF (by omega)) | exact Yield.eql rfl rfl) rfl ?_
                  refine DG.look rfl rfl (Yield.move rfl) rfl ?_
                  refine DG.look rfl rfl (Yield.move rfl) rfl ?_
                  refine DG.look rfl rfl (Yield.fieldAddr fa51_2 rfl) rfl ?_
                  refine DG.look rfl rfl (Yield.load (v := .int .i64 Chn) ti3 rfl (Cel.of_blk (b := b7) (by repeat (first | exact Ext.here | apply Ext.there)) rfl)) rfl ?_
                  refine DG.look rfl rfl (by first | exact Yield.as (Yield.eql rfl rfl) (bT (by omega)) | exact Yield.as (Yield.eql rfl rfl) (bF (by omega)) | exact Yield.eql rfl rfl) rfl ?_
                  refine DG.look rfl rfl (by first | exact Yield.pick_t rfl rfl | exact Yield.pick_f rfl rfl | exact Yield.pick rfl (fun _ => rfl) (fun _ => rfl)) rfl ?_
                  refine DG.look rfl rfl (Yield.move rfl) rfl ?_
                  refine DG.look rfl rfl (Yield.move rfl) rfl ?_
                  refine DG.look rfl rfl (Yield.move rfl) rfl ?_
                  refine DG.look rfl rfl (Yield.index_slice Try.underlying48 ti47 rfl rfl (by omega) (by omega)) rfl ?_
                  refine DG.look rfl rfl (Yield.fieldAddr fa47_1 rfl) rfl ?_
                  refine DG.look rfl rfl (Yield.load (v := .int .i64 ac.from_) ti3 rfl ((hrl (by repeat (first | exact Ext.here | apply Ext.there))) 1 _ rfl)) rfl ?_
                  refine DG.look rfl rfl (Yield.fieldAddr fa51_1 rfl) rfl ?_
                  refine DG.look rfl rfl (Yield.load (v := .int .i64 Part) ti3 rfl (Cel.of_blk (b := b7) (by repeat (first | exact Ext.here | apply Ext.there)) rfl)) rfl ?_
                  refine DG.look rfl rfl (by first | exact Yield.as (Yield.eql rfl rfl) (bT (by omega)) | exact Yield.as (Yield.eql rfl rfl) (bF (by omega)) | exact Yield.eql rfl rfl) rfl ?_
                  refine DG.look rfl rfl (by first | exact Yield.pick_t rfl rfl | exact Yield.pick_f rfl rfl | exact Yield.pick rfl (fun _ => rfl) (fun _ => rfl)) rfl ?_
                  refine DG.look rfl rfl (Yield.assign rfl) rfl ?_
                  refine DG.done ?_
                  exact QG.mid true (by constructor <;> intro _ <;> first | rfl | exact hk2) (by repeat (first | exact Env.sub_nil _ | refine Env.sub_cons rfl ?_)) (by repeat (first | exact Imp.refl _ | exact Imp.none _ | apply Imp.pull (by repeat (first | exact Ext.here | apply Ext.there)) | apply Imp.trans Imp.drop))
              rintro s hs
              refine CG.cut (fun g : Bool => g = true ↔ (Kind = 1 ∧ (k : Int) = Chn ∧ ac.to = Part)) (fun g => [(0, .slice (some ⟨b0, o0, none⟩) l.length c0), (1, .slice (some ⟨b, o, none⟩) ops.length c1), (5, .pointer (some ⟨p, 0, none⟩)), (6, .int .i64 i), (7, .pointer (some ⟨b7, 0, none⟩)), (8, .slice (some ⟨bw, ow, none⟩) xs.length cw), (10, .int .i64 k), (11, .bool s), (12, .bool g)]) (fun _ => blk b7 (POp.cells ⟨Kind, Part, Chn, Ba, Bc, Bs⟩) 51 :: osl 65 1 (some ⟨bw, ow, none⟩) cw xs.length (xs.map Po.End.cell) :: ends xs :: pool ms :: [Po p acs', old W]) ?_ ?_
              · skip
                rcases (show Kind ≠ 1 ∨ (Kind = 1 ∧ (k : Int) ≠ Chn) ∨ (Kind = 1 ∧ (k : Int) = Chn ∧ ac.to ≠ Part) ∨ (Kind = 1 ∧ (k : Int) = Chn ∧ ac.to = Part) by omega) with hk2 | hk2 | hk2 | hk2
                · skip
                  refine CG.draw (.look 0 1 (.look 1 1 (.look 2 1 (.look 3 1 (.look 4 1 (.look 5 1 (.look 6 1 (.look 7 1 (.look 8 1 (.look 9 1 (.look 10 1 (.look 11 1 (.look 12 1 (.look 13 1 (.look 14 1 (.look 15 1 (.look 16 1 (.look 17 1 (.look 18 1 (.look 19 1 (.done))))))))))))))))))))) [] [] ([]) ([]) mixed (by kernel_rfl) (Imp.none _) (Imp.none _) ?_
                  refine DG.look rfl rfl (Yield.fieldAddr fa51_0 rfl) rfl ?_
                  refine DG.look rfl rfl (Yield.load (v := .int .i64 Kind) ti3 rfl (Cel.of_blk (b := b7) (by repeat (first | exact Ext.here | apply Ext.there)) rfl)) rfl ?_
                  refine DG.look rfl rfl (by first | exact Yield.as (Yield.eql rfl rfl) (bT (by omega)) | exact Yield.as (Yield.eql rfl rfl) (bF (by omega)) | exact Yield.eql rfl rfl) rfl ?_
                  refine DG.look rfl rfl (Yield.move rfl) rfl ?_
                  refine DG.pass rfl rfl rfl ?_
                  refine DG.pass rfl rfl rfl ?_
                  refine DG.pass rfl rfl rfl ?_
                  refine DG.pass rfl rfl rfl ?_
                  refine DG.look rfl rfl (by first | exact Yield.pick_t rfl rfl | exact Yield.pick_f rfl rfl | exact Yield.pick rfl (fun _ => rfl) (fun _ => rfl)) rfl ?_
                  refine DG.look rfl rfl (Yield.move rfl) rfl ?_
                  refine DG.pass rfl rfl rfl ?_
                  refine DG.pass rfl rfl rfl ?_
                  refine DG.pass rfl rfl rfl ?_
                  refine DG.pass rfl rfl rfl ?_
                  refine DG.pass rfl rfl rfl ?_
                  refine DG.pass rfl rfl rfl ?_
                  refine DG.pass rfl rfl rfl ?_
                  refine DG.pass rfl rfl rfl ?_
                  refine DG.look rfl rfl (by first | exact Yield.pick_t rfl rfl | exact Yield.pick_f rfl rfl | exact Yield.pick rfl (fun _ => rfl) (fun _ => rfl)) rfl ?_
                  refine DG.look rfl rfl (Yield.assign rfl) rfl ?_
                  refine DG.done ?_
                  exact QG.mid false (by constructor <;> intro h <;> first | (cases h; done) | omega) (by repeat (first | exact Env.sub_nil _ | refine Env.sub_cons rfl ?_)) (by repeat (first | exact Imp.refl _ | exact Imp.none _ | apply Imp.pull (by repeat (first | exact Ext.here | apply Ext.there)) | apply Imp.trans Imp.drop))
                · skip
                  refine CG.draw (.look 0 1 (.look 1 1 (.look 2 1 (.look 3 1 (.look 4 1 (.look 5 1 (.look 6 1 (.look 7 1 (.look 8 1 (.look 9 1 (.look 10 1 (.look 11 1 (.look 12 1 (.look 13 1 (.look 14 1 (.look 15 1 (.look 16 1 (.look 17 1 (.look 18 1 (.look 19 1 (.done))))))))))))))))))))) [] [] ([]) ([]) mixed (by kernel_rfl) (Imp.none _) (Imp.none _) ?_
                  refine DG.look rfl rfl (Yield.fieldAddr fa51_0 rfl) rfl ?_
                  refine DG.look rfl rfl (Yield.load (v := .int .i64 Kind) ti3 rfl (Cel.of_blk (b := b7) (by repeat (first | exact Ext.here | apply Ext.there)) rfl)) rfl ?_
                  refine DG.look rfl rfl (by first | exact Yield.as (Yield.eql rfl rfl) (bT (by omega)) | exact Yield.as (Yield.eql rfl rfl) (bF (by omega)) | exact Yield.eql rfl rfl) rfl ?_
                  refine DG.look rfl rfl (Yield.move rfl) rfl ?_
                  refine DG.look rfl rfl (Yield.move rfl) rfl ?_
                  refine DG.look rfl rfl (Yield.fieldAddr fa51_2 rfl) rfl ?_
                  refine DG.look rfl rfl (Yield.load (v := .int .i64 Chn) ti3 rfl (Cel.of_blk (b := b7) (by repeat (first | exact Ext.here | apply Ext.there)) rfl)) rfl ?_
                  refine DG.look rfl rfl (by first | exact Yield.as (Yield.eql rfl rfl) (bT (by omega)) | exact Yield.as (Yield.eql rfl rfl) (bF (by omega)) | exact Yield.eql rfl rfl) rfl ?_
                  refine DG.look rfl rfl (by first | exact Yield.pick_t rfl rfl | exact Yield.pick_f rfl rfl | exact Yield.pick rfl (fun _ => rfl) (fun _ => rfl)) rfl ?_
                  refine DG.look rfl rfl (Yield.move rfl) rfl ?_
                  refine DG.pass rfl rfl rfl ?_
                  refine DG.pass rfl rfl rfl ?_
                  refine DG.pass rfl rfl rfl ?_
                  refine DG.pass rfl rfl rfl ?_
                  refine DG.pass rfl rfl rfl ?_
                  refine DG.pass rfl rfl rfl ?_
                  refine DG.pass rfl rfl rfl ?_
                  refine DG.pass rfl rfl rfl ?_
                  refine DG.look rfl rfl (by first | exact Yield.pick_t rfl rfl | exact Yield.pick_f rfl rfl | exact Yield.pick rfl (fun _ => rfl) (fun _ => rfl)) rfl ?_
                  refine DG.look rfl rfl (Yield.assign rfl) rfl ?_
                  refine DG.done ?_
                  exact QG.mid false (by constructor <;> intro h <;> first | (cases h; done) | omega) (by repeat (first | exact Env.sub_nil _ | refine Env.sub_cons rfl ?_)) (by repeat (first | exact Imp.refl _ | exact Imp.none _ | apply Imp.pull (by repeat (first | exact Ext.here | apply Ext.there)) | apply Imp.trans Imp.drop))
                · skip
                  refine CG.draw (.look 0 1 (.look 1 1 (.look 2 1 (.look 3 1 (.look 4 1 (.look 5 1 (.look 6 1 (.look 7 1 (.look 8 1 (.look 9 1 (.look 10 1 (.look 11 1 (.look 12 1 (.look 13 1 (.look 14 1 (.look 15 1 (.look 16 1 (.look 17 1 (.look 18 1 (.look 19 1 (.done))))))))))))))))))))) [] [] ([]) ([]) mixed (by kernel_rfl) (Imp.none _) (Imp.none _) ?_
                  refine DG.look rfl rfl (Yield.fieldAddr fa51_0 rfl) rfl ?_
                  refine DG.look rfl rfl (Yield.load (v := .int .i64 Kind) ti3 rfl (Cel.of_blk (b := b7) (by repeat (first | exact Ext.here | apply Ext.there)) rfl)) rfl ?_
                  refine DG.look rfl rfl (by first | exact Yield.as (Yield.eql rfl rfl) (bT (by omega)) | exact Yield.as (Yield.eql rfl rfl) (bF (by omega)) | exact Yield.eql rfl rfl) rfl ?_
                  refine DG.look rfl rfl (Yield.move rfl) rfl ?_
                  refine DG.look rfl rfl (Yield.move rfl) rfl ?_
                  refine DG.look rfl rfl (Yield.fieldAddr fa51_2 rfl) rfl ?_
                  refine DG.look rfl rfl (Yield.load (v := .int .i64 Chn) ti3 rfl (Cel.of_blk (b := b7) (by repeat (first | exact Ext.here | apply Ext.there)) rfl)) rfl ?_
                  refine DG.look rfl rfl (by first | exact Yield.as (Yield.eql rfl rfl) (bT (by omega)) | exact Yield.as (Yield.eql rfl rfl) (bF (by omega)) | exact Yield.eql rfl rfl) rfl ?_
                  refine DG.look rfl rfl (by first | exact Yield.pick_t rfl rfl | exact Yield.pick_f rfl rfl | exact Yield.pick rfl (fun _ => rfl) (fun _ => rfl)) rfl ?_
                  refine DG.look rfl rfl (Yield.move rfl) rfl ?_
                  refine DG.look rfl rfl (Yield.move rfl) rfl ?_
                  refine DG.look rfl rfl (Yield.move rfl) rfl ?_
                  refine DG.look rfl rfl (Yield.index_slice Try.underlying48 ti47 rfl rfl (by omega) (by omega)) rfl ?_
                  refine DG.look rfl rfl (Yield.fieldAddr fa47_2 rfl) rfl ?_
                  refine DG.look rfl rfl (Yield.load (v := .int .i64 ac.to) ti3 rfl ((hrl (by repeat (first | exact Ext.here | apply Ext.there))) 2 _ rfl)) rfl ?_
                  refine DG.look rfl rfl (Yield.fieldAddr fa51_1 rfl) rfl ?_
                  refine DG.look rfl rfl (Yield.load (v := .int .i64 Part) ti3 rfl (Cel.of_blk (b := b7) (by repeat (first | exact Ext.here | apply Ext.there)) rfl)) rfl ?_
                  refine DG.look rfl rfl (by first | exact Yield.as (Yield.eql rfl rfl) (bT (by omega)) | exact Yield.as (Yield.eql rfl rfl) (bF (by omega)) | exact Yield.eql rfl rfl) rfl ?_
                  refine DG.look rfl rfl (by first | exact Yield.pick_t rfl rfl | exact Yield.pick_f rfl rfl | exact Yield.pick rfl (fun _ => rfl) (fun _ => rfl)) rfl ?_
                  refine DG.look rfl rfl (Yield.assign rfl) rfl ?_
                  refine DG.done ?_
                  exact QG.mid false (by constructor <;> intro h <;> first | (cases h; done) | omega) (by repeat (first | exact Env.sub_nil _ | refine Env.sub_cons rfl ?_)) (by repeat (first | exact Imp.refl _ | exact Imp.none _ | apply Imp.pull (by repeat (first | exact Ext.here | apply Ext.there)) | apply Imp.trans Imp.drop))
                · skip
                  refine CG.draw (.look 0 1 (.look 1 1 (.look 2 1 (.look 3 1 (.look 4 1 (.look 5 1 (.look 6 1 (.look 7 1 (.look 8 1 (.look 9 1 (.look 10 1 (.look 11 1 (.look 12 1 (.look 13 1 (.look 14 1 (.look 15 1 (.look 16 1 (.look 17 1 (.look 18 1 (.look 19 1 (.done))))))))))))))))))))) [] [] ([]) ([]) mixed (by kernel_rfl) (Imp.none _) (Imp.none _) ?_
                  refine DG.look rfl rfl (Yield.fieldAddr fa51_0 rfl) rfl ?_
                  refine DG.look rfl rfl (Yield.load (v := .int .i64 Kind) ti3 rfl (Cel.of_blk (b := b7) (by repeat (first | exact Ext.here | apply Ext.there)) rfl)) rfl ?_
                  refine DG.look rfl rfl (by first | exact Yield.as (Yield.eql rfl rfl) (bT (by omega)) | exact Yield.as (Yield.eql rfl rfl) (bF (by omega)) | exact Yield.eql rfl rfl) rfl ?_
                  refine DG.look rfl rfl (Yield.move rfl) rfl ?_
                  refine DG.look rfl rfl (Yield.move rfl) rfl ?_
                  refine DG.look rfl rfl (Yield.fieldAddr fa51_2 rfl) rfl ?_
                  refine DG.look rfl rfl (Yield.load (v := .int .i64 Chn) ti3 rfl (Cel.of_blk (b := b7) (by repeat (first | exact Ext.here | apply Ext.there)) rfl)) rfl ?_
                  refine DG.look rfl rfl (by first | exact Yield.as (Yield.eql rfl rfl) (bT (by omega)) | exact Yield.as (Yield.eql rfl rfl) (bF (by omega)) | exact Yield.eql rfl rfl) rfl ?_
                  refine DG.look rfl rfl (by first | exact Yield.pick_t rfl rfl | exact Yield.pick_f rfl rfl | exact Yield.pick rfl (fun _ => rfl) (fun _ => rfl)) rfl ?_
                  refine DG.look rfl rfl (Yield.move rfl) rfl ?_
                  refine DG.look rfl rfl (Yield.move rfl) rfl ?_
                  refine DG.look rfl rfl (Yield.move rfl) rfl ?_
                  refine DG.look rfl rfl (Yield.index_slice Try.underlying48 ti47 rfl rfl (by omega) (by omega)) rfl ?_
                  refine DG.look rfl rfl (Yield.fieldAddr fa47_2 rfl) rfl ?_
                  refine DG.look rfl rfl (Yield.load (v := .int .i64 ac.to) ti3 rfl ((hrl (by repeat (first | exact Ext.here | apply Ext.there))) 2 _ rfl)) rfl ?_
                  refine DG.look rfl rfl (Yield.fieldAddr fa51_1 rfl) rfl ?_
                  refine DG.look rfl rfl (Yield.load (v := .int .i64 Part) ti3 rfl (Cel.of_blk (b := b7) (by repeat (first | exact Ext.here | apply Ext.there)) rfl)) rfl ?_
                  refine DG.look rfl rfl (by first | exact Yield.as (Yield.eql rfl rfl) (bT (by omega)) | exact Yield.as (Yield.eql rfl rfl) (bF (by omega)) | exact Yield.eql rfl rfl) rfl ?_
                  refine DG.look rfl rfl (by first | exact Yield.pick_t rfl rfl | exact Yield.pick_f rfl rfl | exact Yield.pick rfl (fun _ => rfl) (fun _ => rfl)) rfl ?_
                  refine DG.look rfl rfl (Yield.assign rfl) rfl ?_
                  refine DG.done ?_
                  exact QG.mid true (by constructor <;> intro _ <;> first | rfl | exact hk2) (by repeat (first | exact Env.sub_nil _ | refine Env.sub_cons rfl ?_)) (by repeat (first | exact Imp.refl _ | exact Imp.none _ | apply Imp.pull (by repeat (first | exact Ext.here | apply Ext.there)) | apply Imp.trans Imp.drop))
              rintro g hg
              refine CG.seq ?_
              rcases (show (s = true ∧ g = true) ∨ (s = true ∧ g = false) ∨ (s = false ∧ g = true) ∨ (s = false ∧ g = false) by cases s <;> cases g <;> simp) with ⟨rfl, rfl⟩ | ⟨rfl, rfl⟩ | ⟨rfl, rfl⟩ | ⟨rfl, rfl⟩
              · skip
                skip
                refine CG.draw (.look 0 1 (.look 1 1 (.look 2 1 (.look 3 1 (.look 4 1 (.look 6 0 (.look 7 0 (.look 8 0 (.look 9 0 (.look 10 0 (.eff1 5 false (.eff1 11 false (.look 12 1 (.look 13 1 (.look 14 1 (.look 15 1 (.look 16 1 (.look 17 1 (.look 18 1 (.look 19 1 (.look 21 0 (.look 22 0 (.look 23 0 (.look 24 0 (.look 25 0 (.look 26 0 (.eff1 20 false (.eff1 27 false (.look 28 1 (.look 29 1 (.look 30 1 (.done)))))))))))))))))))))))))))))))) [5, 11, 20, 27] [] ([osl 65 1 (some ⟨bw, ow, none⟩) cw xs.length (xs.map Po.End.cell)]) ([]) mixed (by kernel_rfl) (by repeat (first | exact Imp.refl _ | exact Imp.none _ | apply Imp.pull (by repeat (first | exact Ext.here | apply Ext.there)) | apply Imp.trans Imp.drop)) (Imp.none _) ?_
                refine DG.look rfl rfl (Yield.move rfl) rfl ?_
                refine DG.look rfl rfl (Yield.not rfl) rfl ?_
                refine DG.look rfl rfl (Yield.move rfl) rfl ?_
                refine DG.pass rfl rfl rfl ?_
                refine DG.pass rfl rfl rfl ?_
                refine DG.pass rfl rfl rfl ?_
                refine DG.pass rfl rfl rfl ?_
                refine DG.pass rfl rfl rfl ?_
                refine DG.pass rfl rfl rfl ?_
                refine DG.pass rfl rfl rfl ?_
                refine DG.eff1 ?_
                refine Chg.pass rfl rfl rfl ?_ (by repeat (first | exact Imp.refl _ | exact Imp.none _ | apply Imp.pull (by repeat (first | exact Ext.here | apply Ext.there)) | apply Imp.trans Imp.drop)) (by repeat (first | exact Imp.refl _ | exact Imp.none _ | apply Imp.pull (by repeat (first | exact Ext.here | apply Ext.there)) | apply Imp.trans Imp.drop))
                refine DG.eff1 ?_
                refine Chg.pass rfl rfl rfl ?_ (by repeat (first | exact Imp.refl _ | exact Imp.none _ | apply Imp.pull (by repeat (first | exact Ext.here | apply Ext.there)) | apply Imp.trans Imp.drop)) (by repeat (first | exact Imp.refl _ | exact Imp.none _ | apply Imp.pull (by repeat (first | exact Ext.here | apply Ext.there)) | apply Imp.trans Imp.drop))
                refine DG.pass rfl rfl rfl ?_
                refine DG.look rfl rfl (by first | exact Yield.pick_t rfl rfl | exact Yield.pick_f rfl rfl | exact Yield.pick rfl (fun _ => rfl) (fun _ => rfl)) rfl ?_
                refine DG.look rfl rfl (Yield.move rfl) rfl ?_
                refine DG.look rfl rfl (Yield.move rfl) rfl ?_
                refine DG.look rfl rfl (Yield.not rfl) rfl ?_
                refine DG.look rfl rfl (Yield.move rfl) rfl ?_
                refine DG.pass rfl rfl rfl ?_
                refine DG.pass rfl rfl rfl ?_
                refine DG.pass rfl rfl rfl ?_
                refine DG.pass rfl rfl rfl ?_
                refine DG.pass rfl rfl rfl ?_
                refine DG.pass rfl rfl rfl ?_
                refine DG.pass rfl rfl rfl ?_
                refine DG.pass rfl rfl rfl ?_
                refine DG.eff1 ?_
                refine Chg.pass rfl rfl rfl ?_ (by repeat (first | exact Imp.refl _ | exact Imp.none _ | apply Imp.pull (by repeat (first | exact Ext.here | apply Ext.there)) | apply Imp.trans Imp.drop)) (by repeat (first | exact Imp.refl _ | exact Imp.none _ | apply Imp.pull (by repeat (first | exact Ext.here | apply Ext.there)) | apply Imp.trans Imp.drop))
                refine DG.eff1 ?_
                refine Chg.pass rfl rfl rfl ?_ (by repeat (first | exact Imp.refl _ | exact Imp.none _ | apply Imp.pull (by repeat (first | exact Ext.here | apply Ext.there)) | apply Imp.trans Imp.drop)) (by repeat (first | exact Imp.refl _ | exact Imp.none _ | apply Imp.pull (by repeat (first | exact Ext.here | apply Ext.there)) | apply Imp.trans Imp.drop))
                refine DG.pass rfl rfl rfl ?_
                refine DG.look rfl rfl (by first | exact Yield.pick_t rfl rfl | exact Yield.pick_f rfl rfl | exact Yield.pick rfl (fun _ => rfl) (fun _ => rfl)) rfl ?_
                refine DG.look rfl rfl (by first | exact Yield.pick_t rfl rfl | exact Yield.pick_f rfl rfl | exact Yield.pick rfl (fun _ => rfl) (fun _ => rfl)) rfl ?_
                refine DG.done ?_
                refine QG.then ?_
                refine CG.cond_f rfl ?_
                refine CG.skip ?_
                refine QG.block_normal ?_
                refine QG.then ?_
                refine CG.region ?_
                refine OG.yield (Yield.move rfl) rfl ?_
                refine OG.yield (Yield.add rfl rfl (w64 (by omega) (by omega))) rfl ?_
                refine OG.yield (Yield.assign rfl) rfl ?_
                refine OG.nil ?_
                exact QG.next (k + 1) (show k + 1 ≤ l.length by omega) (show l.length - (k + 1) < l.length - k by omega) (by repeat (first | exact Env.sub_nil _ | refine Env.sub_cons rfl ?_)) (by repeat (first | exact Imp.refl _ | exact Imp.none _ | apply Imp.pull (by repeat (first | exact Ext.here | apply Ext.there)) | apply Imp.trans Imp.drop))
              · skip
                have hre : ac'.r = ac.r := by rcases hr' with h | h; exact h; exact absurd (hg.2 h) (by decide)
                refine CG.draw (.look 0 1 (.look 1 1 (.look 2 1 (.look 3 1 (.look 4 1 (.look 6 0 (.look 7 0 (.look 8 0 (.look 9 0 (.look 10 0 (.eff1 5 false (.eff1 11 false (.look 12 1 (.look 13 1 (.look 14 1 (.look 15 1 (.look 16 1 (.look 17 1 (.look 18 1 (.look 19 1 (.look 21 0 (.look 22 0 (.look 23 0 (.look 24 0 (.look 25 0 (.look 26 0 (.eff1 20 false (.eff1 27 false (.look 28 1 (.look 29 1 (.look 30 1 (.done)))))))))))))))))))))))))))))))) [5, 11, 20, 27] [] ([osl 65 1 (some ⟨bw, ow, none⟩) cw xs.length (xs.map Po.End.cell)]) ([]) mixed (by kernel_rfl) (by repeat (first | exact Imp.refl _ | exact Imp.none _ | apply Imp.pull (by repeat (first | exact Ext.here | apply Ext.there)) | apply Imp.trans Imp.drop)) (Imp.none _) ?_
                refine DG.look rfl rfl (Yield.move rfl) rfl ?_
                refine DG.look rfl rfl (Yield.not rfl) rfl ?_
                refine DG.look rfl rfl (Yield.move rfl) rfl ?_
                refine DG.pass rfl rfl rfl ?_
                refine DG.pass rfl rfl rfl ?_
                refine DG.pass rfl rfl rfl ?_
                refine DG.pass rfl rfl rfl ?_
                refine DG.pass rfl rfl rfl ?_
                refine DG.pass rfl rfl rfl ?_
                refine DG.pass rfl rfl rfl ?_
                refine DG.eff1 ?_
                refine Chg.pass rfl rfl rfl ?_ (by repeat (first | exact Imp.refl _ | exact Imp.none _ | apply Imp.pull (by repeat (first | exact Ext.here | apply Ext.there)) | apply Imp.trans Imp.drop)) (by repeat (first | exact Imp.refl _ | exact Imp.none _ | apply Imp.pull (by repeat (first | exact Ext.here | apply Ext.there)) | apply Imp.trans Imp.drop))
                refine DG.eff1 ?_
                refine Chg.pass rfl rfl rfl ?_ (by repeat (first | exact Imp.refl _ | exact Imp.none _ | apply Imp.pull (by repeat (first | exact Ext.here | apply Ext.there)) | apply Imp.trans Imp.drop)) (by repeat (first | exact Imp.refl _ | exact Imp.none _ | apply Imp.pull (by repeat (first | exact Ext.here | apply Ext.there)) | apply Imp.trans Imp.drop))
                refine DG.pass rfl rfl rfl ?_
                refine DG.look rfl rfl (by first | exact Yield.pick_t rfl rfl | exact Yield.pick_f rfl rfl | exact Yield.pick rfl (fun _ => rfl) (fun _ => rfl)) rfl ?_
                refine DG.look rfl rfl (Yield.move rfl) rfl ?_
                refine DG.look rfl rfl (Yield.move rfl) rfl ?_
                refine DG.look rfl rfl (Yield.not rfl) rfl ?_
                refine DG.look rfl rfl (Yield.move rfl) rfl ?_
                refine DG.look rfl rfl (Yield.move rfl) rfl ?_
                refine DG.look rfl rfl (Yield.move rfl) rfl ?_
                refine DG.look rfl rfl (Yield.move rfl) rfl ?_
                refine DG.look rfl rfl (Yield.move rfl) rfl ?_
                refine DG.look rfl rfl (Yield.mul rfl rfl (w64 (by omega) (by omega))) rfl ?_
                refine DG.look rfl rfl (Yield.add rfl rfl (w64 (by omega) (by omega))) rfl ?_
                refine DG.look rfl rfl (Yield.index_slice Try.underlying69 ti65 rfl rfl (by omega) (by omega)) rfl ?_
                refine DG.look rfl rfl (Yield.load (v := y2.cell) ti65 rfl (by rw [show ow + (2 * (k : Int) + 1).toNat * 1 = ow + (2 * k + 1) by omega]; exact SlR.cel (SlR.of_osl (E := 65) (a := some ⟨bw, ow, none⟩) (c := cw) (by repeat (first | exact Ext.here | apply Ext.there))) (by rw [List.getElem?_map, hx2]; rfl))) rfl ?_
                refine DG.eff1 ?_
                refine Chg.callo rfl rfl call32 rfl ((by repeat (first | exact Imp.refl _ | exact Imp.none _ | apply Imp.pull (by repeat (first | exact Ext.here | apply Ext.there)) | apply Imp.trans Imp.drop))) (held_in W _ (n := k) (ac := ac') false hga') rfl (fun _ => (by repeat (first | exact Imp.refl _ | exact Imp.none _ | apply Imp.pull (by repeat (first | exact Ext.here | apply Ext.there)) | apply Imp.trans Imp.drop))) (fun _ => Imp.refl _) (fun _ => (by repeat (first | exact Imp.refl _ | exact Imp.none _ | apply Imp.pull (by repeat (first | exact Ext.here | apply Ext.there)) | apply Imp.trans Imp.drop))) ?_
                rintro z2 hz2
                rw [if_neg (by decide)] at hz2
                have hz2l : z2.ms.length = y2.ms.length := by have := congrArg List.length (hz2.trans (hre.trans hb2.symm)); simpa [Po.End.bs] using this
                have hz2s := hsm y2 hm2
                refine DG.eff1 ?_
                refine Chg.callo rfl rfl call33 rfl (Imp.refl _) (sameM_spec W _ (x := z2) (y := y2) (by exact SlR.of_osl (E := 49) (a := z2.a) (c := z2.c) (by repeat (first | exact Ext.here | apply Ext.there))) (by exact ends_rd (xs := xs) (by repeat (first | exact Ext.here | apply Ext.there)) hm2) (by intro m hm; exact pool_rd (ms := z2.ms) (by repeat (first | exact Ext.here | apply Ext.there)) hm) (by intro m hm; exact pool_rd (ms := ms) (by repeat (first | exact Ext.here | apply Ext.there)) (hmem y2 hm2 m hm)) (by rw [hz2, hre, hb2]) (by omega)) rfl (fun _ => (by repeat (first | exact Imp.refl _ | exact Imp.none _ | apply Imp.pull (by repeat (first | exact Ext.here | apply Ext.there)) | apply Imp.trans Imp.drop))) (fun _ => Imp.refl _) (fun _ => (by repeat (first | exact Imp.refl _ | exact Imp.none _ | apply Imp.pull (by repeat (first | exact Ext.here | apply Ext.there)) | apply Imp.trans Imp.drop))) ?_
                rintro ⟨⟩ -
                refine DG.look rfl rfl (Yield.not rfl) rfl ?_
                refine DG.look rfl rfl (by first | exact Yield.pick_t rfl rfl | exact Yield.pick_f rfl rfl | exact Yield.pick rfl (fun _ => rfl) (fun _ => rfl)) rfl ?_
                refine DG.look rfl rfl (by first | exact Yield.pick_t rfl rfl | exact Yield.pick_f rfl rfl | exact Yield.pick rfl (fun _ => rfl) (fun _ => rfl)) rfl ?_
                refine DG.done ?_
                refine QG.then ?_
                refine CG.cond_f rfl ?_
                refine CG.skip ?_
                refine QG.block_normal ?_
                refine QG.then ?_
                refine CG.region ?_
                refine OG.yield (Yield.move rfl) rfl ?_
                refine OG.yield (Yield.add rfl rfl (w64 (by omega) (by omega))) rfl ?_
                refine OG.yield (Yield.assign rfl) rfl ?_
                refine OG.nil ?_
                exact QG.next (k + 1) (show k + 1 ≤ l.length by omega) (show l.length - (k + 1) < l.length - k by omega) (by repeat (first | exact Env.sub_nil _ | refine Env.sub_cons rfl ?_)) (by repeat (first | exact Imp.refl _ | exact Imp.none _ | apply Imp.pull (by repeat (first | exact Ext.here | apply Ext.there)) | apply Imp.trans Imp.drop))
              · skip
                have hse : ac'.s = ac.s := by rcases hs' with h | h; exact h; exact absurd (hs.2 h) (by decide)
                refine CG.draw (.look 0 1 (.look 1 1 (.look 2 1 (.look 3 1 (.look 4 1 (.look 6 0 (.look 7 0 (.look 8 0 (.look 9 0 (.look 10 0 (.eff1 5 false (.eff1 11 false (.look 12 1 (.look 13 1 (.look 14 1 (.look 15 1 (.look 16 1 (.look 17 1 (.look 18 1 (.look 19 1 (.look 21 0 (.look 22 0 (.look 23 0 (.look 24 0 (.look 25 0 (.look 26 0 (.eff1 20 false (.eff1 27 false (.look 28 1 (.look 29 1 (.look 30 1 (.done)))))))))))))))))))))))))))))))) [5, 11, 20, 27] [] ([osl 65 1 (some ⟨bw, ow, none⟩) cw xs.length (xs.map Po.End.cell)]) ([]) mixed (by kernel_rfl) (by repeat (first | exact Imp.refl _ | exact Imp.none _ | apply Imp.pull (by repeat (first | exact Ext.here | apply Ext.there)) | apply Imp.trans Imp.drop)) (Imp.none _) ?_
                refine DG.look rfl rfl (Yield.move rfl) rfl ?_
                refine DG.look rfl rfl (Yield.not rfl) rfl ?_
                refine DG.look rfl rfl (Yield.move rfl) rfl ?_
                refine DG.look rfl rfl (Yield.move rfl) rfl ?_
                refine DG.look rfl rfl (Yield.move rfl) rfl ?_
                refine DG.look rfl rfl (Yield.move rfl) rfl ?_
                refine DG.look rfl rfl (Yield.move rfl) rfl ?_
                refine DG.look rfl rfl (Yield.mul rfl rfl (w64 (by omega) (by omega))) rfl ?_
                refine DG.look rfl rfl (Yield.index_slice Try.underlying69 ti65 rfl rfl (by omega) (by omega)) rfl ?_
                refine DG.look rfl rfl (Yield.load (v := y1.cell) ti65 rfl (by rw [show ow + (2 * (k : Int)).toNat * 1 = ow + 2 * k by omega]; exact SlR.cel (SlR.of_osl (E := 65) (a := some ⟨bw, ow, none⟩) (c := cw) (by repeat (first | exact Ext.here | apply Ext.there))) (by rw [List.getElem?_map, hx1]; rfl))) rfl ?_
                refine DG.eff1 ?_
                refine Chg.callo rfl rfl call32 rfl ((by repeat (first | exact Imp.refl _ | exact Imp.none _ | apply Imp.pull (by repeat (first | exact Ext.here | apply Ext.there)) | apply Imp.trans Imp.drop))) (held_in W _ (n := k) (ac := ac') true hga') rfl (fun _ => (by repeat (first | exact Imp.refl _ | exact Imp.none _ | apply Imp.pull (by repeat (first | exact Ext.here | apply Ext.there)) | apply Imp.trans Imp.drop))) (fun _ => Imp.refl _) (fun _ => (by repeat (first | exact Imp.refl _ | exact Imp.none _ | apply Imp.pull (by repeat (first | exact Ext.here | apply Ext.there)) | apply Imp.trans Imp.drop))) ?_
                rintro z1 hz1
                rw [if_pos rfl] at hz1
                have hz1l : z1.ms.length = y1.ms.length := by have := congrArg List.length (hz1.trans (hse.trans hb1.symm)); simpa [Po.End.bs] using this
                have hz1s := hsm y1 hm1
                refine DG.eff1 ?_
                refine Chg.callo rfl rfl call33 rfl (Imp.refl _) (sameM_spec W _ (x := z1) (y := y1) (by exact SlR.of_osl (E := 49) (a := z1.a) (c := z1.c) (by repeat (first | exact Ext.here | apply Ext.there))) (by exact ends_rd (xs := xs) (by repeat (first | exact Ext.here | apply Ext.there)) hm1) (by intro m hm; exact pool_rd (ms := z1.ms) (by repeat (first | exact Ext.here | apply Ext.there)) hm) (by intro m hm; exact pool_rd (ms := ms) (by repeat (first | exact Ext.here | apply Ext.there)) (hmem y1 hm1 m hm)) (by rw [hz1, hse, hb1]) (by omega)) rfl (fun _ => (by repeat (first | exact Imp.refl _ | exact Imp.none _ | apply Imp.pull (by repeat (first | exact Ext.here | apply Ext.there)) | apply Imp.trans Imp.drop))) (fun _ => Imp.refl _) (fun _ => (by repeat (first | exact Imp.refl _ | exact Imp.none _ | apply Imp.pull (by repeat (first | exact Ext.here | apply Ext.there)) | apply Imp.trans Imp.drop))) ?_
                rintro ⟨⟩ -
                refine DG.look rfl rfl (Yield.not rfl) rfl ?_
                refine DG.look rfl rfl (by first | exact Yield.pick_t rfl rfl | exact Yield.pick_f rfl rfl | exact Yield.pick rfl (fun _ => rfl) (fun _ => rfl)) rfl ?_
                refine DG.look rfl rfl (Yield.move rfl) rfl ?_
                refine DG.look rfl rfl (Yield.move rfl) rfl ?_
                refine DG.look rfl rfl (Yield.not rfl) rfl ?_
                refine DG.look rfl rfl (Yield.move rfl) rfl ?_
                refine DG.pass rfl rfl rfl ?_
                refine DG.pass rfl rfl rfl ?_
                refine DG.pass rfl rfl rfl ?_
                refine DG.pass rfl rfl rfl ?_
                refine DG.pass rfl rfl rfl ?_
                refine DG.pass rfl rfl rfl ?_
                refine DG.pass rfl rfl rfl ?_
                refine DG.pass rfl rfl rfl ?_
                refine DG.eff1 ?_
                refine Chg.pass rfl rfl rfl ?_ (by repeat (first | exact Imp.refl _ | exact Imp.none _ | apply Imp.pull (by repeat (first | exact Ext.here | apply Ext.there)) | apply Imp.trans Imp.drop)) (by repeat (first | exact Imp.refl _ | exact Imp.none _ | apply Imp.pull (by repeat (first | exact Ext.here | apply Ext.there)) | apply Imp.trans Imp.drop))
                refine DG.eff1 ?_
                refine Chg.pass rfl rfl rfl ?_ (by repeat (first | exact Imp.refl _ | exact Imp.none _ | apply Imp.pull (by repeat (first | exact Ext.here | apply Ext.there)) | apply Imp.trans Imp.drop)) (by repeat (first | exact Imp.refl _ | exact Imp.none _ | apply Imp.pull (by repeat (first | exact Ext.here | apply Ext.there)) | apply Imp.trans Imp.drop))
                refine DG.pass rfl rfl rfl ?_
                refine DG.look rfl rfl (by first | exact Yield.pick_t rfl rfl | exact Yield.pick_f rfl rfl | exact Yield.pick rfl (fun _ => rfl) (fun _ => rfl)) rfl ?_
                refine DG.look rfl rfl (by first | exact Yield.pick_t rfl rfl | exact Yield.pick_f rfl rfl | exact Yield.pick rfl (fun _ => rfl) (fun _ => rfl)) rfl ?_
                refine DG.done ?_
                refine QG.then ?_
                refine CG.cond_f rfl ?_
                refine CG.skip ?_
                refine QG.block_normal ?_
                refine QG.then ?_
                refine CG.region ?_
                refine OG.yield (Yield.move rfl) rfl ?_
                refine OG.yield (Yield.add rfl rfl (w64 (by omega) (by omega))) rfl ?_
                refine OG.yield (Yield.assign rfl) rfl ?_
                refine OG.nil ?_
                exact QG.next (k + 1) (show k + 1 ≤ l.length by omega) (show l.length - (k + 1) < l.length - k by omega) (by repeat (first | exact Env.sub_nil _ | refine Env.sub_cons rfl ?_)) (by repeat (first | exact Imp.refl _ | exact Imp.none _ | apply Imp.pull (by repeat (first | exact Ext.here | apply Ext.there)) | apply Imp.trans Imp.drop))
              · skip
                have hre : ac'.r = ac.r := by rcases hr' with h | h; exact h; exact absurd (hg.2 h) (by decide)
                have hse : ac'.s = ac.s := by rcases hs' with h | h; exact h; exact absurd (hs.2 h) (by decide)
                refine CG.draw (.look 0 1 (.look 1 1 (.look 2 1 (.look 3 1 (.look 4 1 (.look 6 0 (.look 7 0 (.look 8 0 (.look 9 0 (.look 10 0 (.eff1 5 false (.eff1 11 false (.look 12 1 (.look 13 1 (.look 14 1 (.look 15 1 (.look 16 1 (.look 17 1 (.look 18 1 (.look 19 1 (.look 21 0 (.look 22 0 (.look 23 0 (.look 24 0 (.look 25 0 (.look 26 0 (.eff1 20 false (.eff1 27 false (.look 28 1 (.look 29 1 (.look 30 1 (.done)))))))))))))))))))))))))))))))) [5, 11, 20, 27] [] ([osl 65 1 (some ⟨bw, ow, none⟩) cw xs.length (xs.map Po.End.cell)]) ([]) mixed (by kernel_rfl) (by repeat (first | exact Imp.refl _ | exact Imp.none _ | apply Imp.pull (by repeat (first | exact Ext.here | apply Ext.there)) | apply Imp.trans Imp.drop)) (Imp.none _) ?_
                refine DG.look rfl rfl (Yield.move rfl) rfl ?_
                refine DG.look rfl rfl (Yield.not rfl) rfl ?_
                refine DG.look rfl rfl (Yield.move rfl) rfl ?_
                refine DG.look rfl rfl (Yield.move rfl) rfl ?_
                refine DG.look rfl rfl (Yield.move rfl) rfl ?_
                refine DG.look rfl rfl (Yield.move rfl) rfl ?_
                refine DG.look rfl rfl (Yield.move rfl) rfl ?_
                refine DG.look rfl rfl (Yield.mul rfl rfl (w64 (by omega) (by omega))) rfl ?_
                refine DG.look rfl rfl (Yield.index_slice Try.underlying69 ti65 rfl rfl (by omega) (by omega)) rfl ?_
                refine DG.look rfl rfl (Yield.load (v := y1.cell) ti65 rfl (by rw [show ow + (2 * (k : Int)).toNat * 1 = ow + 2 * k by omega]; exact SlR.cel (SlR.of_osl (E := 65) (a := some ⟨bw, ow, none⟩) (c := cw) (by repeat (first | exact Ext.here | apply Ext.there))) (by rw [List.getElem?_map, hx1]; rfl))) rfl ?_
                refine DG.eff1 ?_
                refine Chg.callo rfl rfl call32 rfl ((by repeat (first | exact Imp.refl _ | exact Imp.none _ | apply Imp.pull (by repeat (first | exact Ext.here | apply Ext.there)) | apply Imp.trans Imp.drop))) (held_in W _ (n := k) (ac := ac') true hga') rfl (fun _ => (by repeat (first | exact Imp.refl _ | exact Imp.none _ | apply Imp.pull (by repeat (first | exact Ext.here | apply Ext.there)) | apply Imp.trans Imp.drop))) (fun _ => Imp.refl _) (fun _ => (by repeat (first | exact Imp.refl _ | exact Imp.none _ | apply Imp.pull (by repeat (first | exact Ext.here | apply Ext.there)) | apply Imp.trans Imp.drop))) ?_
                rintro z1 hz1
                rw [if_pos rfl] at hz1
                have hz1l : z1.ms.length = y1.ms.length := by have := congrArg List.length (hz1.trans (hse.trans hb1.symm)); simpa [Po.End.bs] using this
                have hz1s := hsm y1 hm1
                refine DG.eff1 ?_
                refine Chg.callo rfl rfl call33 rfl (Imp.refl _) (sameM_spec W _ (x := z1) (y := y1) (by exact SlR.of_osl (E := 49) (a := z1.a) (c := z1.c) (by repeat (first | exact Ext.here | apply Ext.there))) (by exact ends_rd (xs := xs) (by repeat (first | exact Ext.here | apply Ext.there)) hm1) (by intro m hm; exact pool_rd (ms := z1.ms) (by repeat (first | exact Ext.here | apply Ext.there)) hm) (by intro m hm; exact pool_rd (ms := ms) (by repeat (first | exact Ext.here | apply Ext.there)) (hmem y1 hm1 m hm)) (by rw [hz1, hse, hb1]) (by omega)) rfl (fun _ => (by repeat (first | exact Imp.refl _ | exact Imp.none _ | apply Imp.pull (by repeat (first | exact Ext.here | apply Ext.there)) | apply Imp.trans Imp.drop))) (fun _ => Imp.refl _) (fun _ => (by repeat (first | exact Imp.refl _ | exact Imp.none _ | apply Imp.pull (by repeat (first | exact Ext.here | apply Ext.there)) | apply Imp.trans Imp.drop))) ?_
                rintro ⟨⟩ -
                refine DG.look rfl rfl (Yield.not rfl) rfl ?_
                refine DG.look rfl rfl (by first | exact Yield.pick_t rfl rfl | exact Yield.pick_f rfl rfl | exact Yield.pick rfl (fun _ => rfl) (fun _ => rfl)) rfl ?_
                refine DG.look rfl rfl (Yield.move rfl) rfl ?_
                refine DG.look rfl rfl (Yield.move rfl) rfl ?_
                refine DG.look rfl rfl (Yield.not rfl) rfl ?_
                refine DG.look rfl rfl (Yield.move rfl) rfl ?_
                refine DG.look rfl rfl (Yield.move rfl) rfl ?_
                refine DG.look rfl rfl (Yield.move rfl) rfl ?_
                refine DG.look rfl rfl (Yield.move rfl) rfl ?_
                refine DG.look rfl rfl (Yield.move rfl) rfl ?_
                refine DG.look rfl rfl (Yield.mul rfl rfl (w64 (by omega) (by omega))) rfl ?_
                refine DG.look rfl rfl (Yield.add rfl rfl (w64 (by omega) (by omega))) rfl ?_
                refine DG.look rfl rfl (Yield.index_slice Try.underlying69 ti65 rfl rfl (by omega) (by omega)) rfl ?_
                refine DG.look rfl rfl (Yield.load (v := y2.cell) ti65 rfl (by rw [show ow + (2 * (k : Int) + 1).toNat * 1 = ow + (2 * k + 1) by omega]; exact SlR.cel (SlR.of_osl (E := 65) (a := some ⟨bw, ow, none⟩) (c := cw) (by repeat (first | exact Ext.here | apply Ext.there))) (by rw [List.getElem?_map, hx2]; rfl))) rfl ?_
                refine DG.eff1 ?_
                refine Chg.callo rfl rfl call32 rfl ((by repeat (first | exact Imp.refl _ | exact Imp.none _ | apply Imp.pull (by repeat (first | exact Ext.here | apply Ext.there)) | apply Imp.trans Imp.drop))) (held_in W _ (n := k) (ac := ac') false hga') rfl (fun _ => (by repeat (first | exact Imp.refl _ | exact Imp.none _ | apply Imp.pull (by repeat (first | exact Ext.here | apply Ext.there)) | apply Imp.trans Imp.drop))) (fun _ => Imp.refl _) (fun _ => (by repeat (first | exact Imp.refl _ | exact Imp.none _ | apply Imp.pull (by repeat (first | exact Ext.here | apply Ext.there)) | apply Imp.trans Imp.drop))) ?_
                rintro z2 hz2
                rw [if_neg (by decide)] at hz2
                have hz2l : z2.ms.length = y2.ms.length := by have := congrArg List.length (hz2.trans (hre.trans hb2.symm)); simpa [Po.End.bs] using this
                have hz2s := hsm y2 hm2
                refine DG.eff1 ?_
                refine Chg.callo rfl rfl call33 rfl (Imp.refl _) (sameM_spec W _ (x := z2) (y := y2) (by exact SlR.of_osl (E := 49) (a := z2.a) (c := z2.c) (by repeat (first | exact Ext.here | apply Ext.there))) (by exact ends_rd (xs := xs) (by repeat (first | exact Ext.here | apply Ext.there)) hm2) (by intro m hm; exact pool_rd (ms := z2.ms) (by repeat (first | exact Ext.here | apply Ext.there)) hm) (by intro m hm; exact pool_rd (ms := ms) (by repeat (first | exact Ext.here | apply Ext.there)) (hmem y2 hm2 m hm)) (by rw [hz2, hre, hb2]) (by omega)) rfl (fun _ => (by repeat (first | exact Imp.refl _ | exact Imp.none _ | apply Imp.pull (by repeat (first | exact Ext.here | apply Ext.there)) | apply Imp.trans Imp.drop))) (fun _ => Imp.refl _) (fun _ => (by repeat (first | exact Imp.refl _ | exact Imp.none _ | apply Imp.pull (by repeat (first | exact Ext.here | apply Ext.there)) | apply Imp.trans Imp.drop))) ?_
                rintro ⟨⟩ -
                refine DG.look rfl rfl (Yield.not rfl) rfl ?_
                refine DG.look rfl rfl (by first | exact Yield.pick_t rfl rfl | exact Yield.pick_f rfl rfl | exact Yield.pick rfl (fun _ => rfl) (fun _ => rfl)) rfl ?_
                refine DG.look rfl rfl (by first | exact Yield.pick_t rfl rfl | exact Yield.pick_f rfl rfl | exact Yield.pick rfl (fun _ => rfl) (fun _ => rfl)) rfl ?_
                refine DG.done ?_
                refine QG.then ?_
                refine CG.cond_f rfl ?_
                refine CG.skip ?_
                refine QG.block_normal ?_
                refine QG.then ?_
                refine CG.region ?_
                refine OG.yield (Yield.move rfl) rfl ?_
                refine OG.yield (Yield.add rfl rfl (w64 (by omega) (by omega))) rfl ?_
                refine OG.yield (Yield.assign rfl) rfl ?_
                refine OG.nil ?_
                exact QG.next (k + 1) (show k + 1 ≤ l.length by omega) (show l.length - (k + 1) < l.length - k by omega) (by repeat (first | exact Env.sub_nil _ | refine Env.sub_cons rfl ?_)) (by repeat (first | exact Imp.refl _ | exact Imp.none _ | apply Imp.pull (by repeat (first | exact Ext.here | apply Ext.there)) | apply Imp.trans Imp.drop))
            · try replace hc := of_decide_eq_false hc
              refine CG.exit ?_
              refine QG.pass_exit ?_
              refine QG.pass_exit ?_
              refine QG.block_exit ?_
              refine QG.block_normal ?_
              exact QG.mid (i, acs') ⟨hfit', rfl⟩ (by repeat (first | exact Env.sub_nil _ | refine Env.sub_cons rfl ?_)) (by repeat (first | exact Imp.refl _ | exact Imp.none _ | apply Imp.pull (by repeat (first | exact Ext.here | apply Ext.there)) | apply Imp.trans Imp.drop))
        clear hrow hB
        rintro ⟨i', acs'⟩ ⟨hfit', hi'⟩
        dsimp only at hfit' hi' ⊢
        refine CG.region ?_
        refine OG.yield (Yield.move rfl) rfl ?_
        refine OG.yield (Yield.add rfl rfl (w64 (by omega) (by omega))) rfl ?_
        refine OG.yield (Yield.assign rfl) rfl ?_
        refine OG.nil ?_
        exact QG.next (i + 1, acs') ⟨hfit', by simp only; omega, by simp only; omega⟩ (by simp only; omega) (by repeat (first | exact Env.sub_nil _ | refine Env.sub_cons rfl ?_)) (by repeat (first | exact Imp.refl _ | exact Imp.none _ | apply Imp.pull (by repeat (first | exact Ext.here | apply Ext.there)) | apply Imp.trans Imp.drop))
      · skip
        refine CG.region ?_
        refine OG.yield (Yield.move rfl) rfl ?_
        refine OG.yield (Yield.move rfl) rfl ?_
        refine OG.yield (Yield.len_slice Try.underlying43 rfl rfl) rfl ?_
        refine OG.yield (by first | exact Yield.as (Yield.lss rfl rfl) (bT (by omega)) | exact Yield.as (Yield.lss rfl rfl) (bF (by omega)) | exact Yield.lss rfl rfl) rfl ?_
        refine OG.yield (Yield.move rfl) rfl ?_
        refine OG.guard_yes rfl rfl rfl (by decide) ?_
        refine OG.yield (Yield.move rfl) rfl ?_
        refine OG.guard_yes rfl rfl rfl (by decide) ?_
        refine OG.yield (by first | exact Yield.as (Yield.lss rfl rfl) (bT (by omega)) | exact Yield.as (Yield.lss rfl rfl) (bF (by omega)) | exact Yield.lss rfl rfl) rfl ?_
        refine OG.yield (by first | exact Yield.pick_t rfl rfl | exact Yield.pick_f rfl rfl | exact Yield.pick rfl (fun _ => rfl) (fun _ => rfl)) rfl ?_
        refine OG.nil ?_
        refine QG.then ?_
        refine CG.cond_f rfl ?_
        refine CG.exit ?_
        refine QG.pass_exit ?_
        refine QG.pass_exit ?_
        refine QG.block_exit ?_
        exact QG.mid () trivial (by repeat (first | exact Env.sub_nil _ | refine Env.sub_cons rfl ?_)) (by repeat (first | exact Imp.refl _ | exact Imp.none _ | apply Imp.pull (by repeat (first | exact Ext.here | apply Ext.there)) | apply Imp.trans Imp.drop))
      · skip
        refine CG.region ?_
        refine OG.yield (Yield.move rfl) rfl ?_
        refine OG.yield (Yield.move rfl) rfl ?_
        refine OG.yield (Yield.len_slice Try.underlying43 rfl rfl) rfl ?_
        refine OG.yield (by first | exact Yield.as (Yield.lss rfl rfl) (bT (by omega)) | exact Yield.as (Yield.lss rfl rfl) (bF (by omega)) | exact Yield.lss rfl rfl) rfl ?_
        refine OG.yield (Yield.move rfl) rfl ?_
        refine OG.guard_no rfl rfl rfl rfl rfl (by decide) (by decide) ?_
        refine OG.guard_no rfl rfl rfl rfl rfl (by decide) (by decide) ?_
        refine OG.yield (by first | exact Yield.pick_t rfl rfl | exact Yield.pick_f rfl rfl | exact Yield.pick rfl (fun _ => rfl) (fun _ => rfl)) rfl ?_
        refine OG.nil ?_
        refine QG.then ?_
        refine CG.cond_f rfl ?_
        refine CG.exit ?_
        refine QG.pass_exit ?_
        refine QG.pass_exit ?_
        refine QG.block_exit ?_
        exact QG.mid () trivial (by repeat (first | exact Env.sub_nil _ | refine Env.sub_cons rfl ?_)) (by repeat (first | exact Imp.refl _ | exact Imp.none _ | apply Imp.pull (by repeat (first | exact Ext.here | apply Ext.there)) | apply Imp.trans Imp.drop))
    rintro ⟨⟩ -
    refine CG.seq ?_
    refine CG.region ?_
    refine OG.yield (Yield.assign rfl) rfl ?_
    refine OG.nil ?_
    refine QG.then ?_
    refine CG.ret ?_
    exact QG.ret1 rfl rfl () trivial rfl (by repeat (first | exact Imp.refl _ | exact Imp.none _ | apply Imp.pull (by repeat (first | exact Ext.here | apply Ext.there)) | apply Imp.trans Imp.drop))
  · skip
    refine CG.region ?_
    refine OG.yield (Yield.move rfl) rfl ?_
    refine OG.yield (Yield.len_slice Try.underlying48 rfl rfl) rfl ?_
    refine OG.yield (by first | exact Yield.as (Yield.gtr rfl rfl) (bT (by omega)) | exact Yield.as (Yield.gtr rfl rfl) (bF (by omega)) | exact Yield.gtr rfl rfl) rfl ?_
    refine OG.nil ?_
    refine QG.then ?_
    refine CG.cond_t rfl ?_
    refine CG.seq ?_
    refine CG.region ?_
    refine OG.yield (Yield.assign rfl) rfl ?_
    refine OG.nil ?_
    refine QG.then ?_
    refine CG.ret ?_
    refine QG.pass_ret ?_
    exact QG.ret1 rfl rfl () trivial rfl (by repeat (first | exact Imp.refl _ | exact Imp.none _ | apply Imp.pull (by repeat (first | exact Ext.here | apply Ext.there)) | apply Imp.trans Imp.drop))
open Go.ChangeShapes Go.WideShapes Go.ChangeAt
theorem own : ownKnob Try.prog.godebug = none := by kernel_rfl
theorem laid : laidOutB Try.prog = true := by kernel_rfl
set_option maxRecDepth 100000 in
theorem lifted (os : Os) (started : os.Started) (H : Type) (enc : TypeId × Value → H) :
    ReturnsInHanded {} Try.checked os 10 .any (Rows.portsApartSpec.pre6 enc Try.prog Try.f10 Rows.portsApartRow.domain false) (Rows.portsApartSpec.post enc Try.prog Try.f10 false true false false) := by
  refine returnsInHanded_of_change_sized (C := Try.checked) own started (by kernel_rfl) Try.func10
    (ChangeSpec.witness6 (enc := enc) (C := Try.checked) false ⟨#[], #[.slice none 0 0, .slice none 0 0], []⟩ 8 (by kernel_rfl) (by kernel_rfl) (by kernel_rfl) (by kernel_rfl)) ?_
  intro W base args ds gs before hval0 hW hcnd hsz0 _
  have hsz : (DataW.weightsEach Try.prog (Try.f10.params.toList ++ Rows.portsApartSpec.plain.varTypes Try.prog) (ds ++ gs)).all (· ≤ reachBytes) = true := hsz0
  have hval : ∀ (j : Nat) t v, Try.f10.params[j]? = some t → args[j]? = some v → Value.okWide Try.prog W .any base t v := hval0
  have hW' := hW
  obtain ⟨p, q, hA0, hV, rfl, hfz, hnd⟩ := hW
  have hA : DataW.TrodAll enc Try.prog W 0 (fun _ => true) true Try.f10.params.toList args.toList ds p := hA0
  rw [Try.params10] at hA hval hsz
  obtain ⟨v0, vs0, d0, ds0, p0, q0, hargs, rfl, rfl, h0, r0⟩ := trodAll_cons hA
  obtain ⟨v1, vs1, d1, ds1, p1, q1, rfl, rfl, rfl, h1, r1⟩ := trodAll_cons r0
  obtain ⟨rfl, rfl, rfl⟩ := trodAll_nil r1
  obtain rfl : args = #[v0, v1] := by cases args; simp_all
  obtain ⟨rfl, rfl⟩ := trodVars_none hV
  have k0 := weights_le hsz 0 (t := 48) (d := d0) rfl rfl
  have s0 := Opn.param Try.underlying48 (Cf.list W) (hval 0 48 v0 rfl rfl) h0 k0
  obtain ⟨x0, c0, l, e0, l0, ok0, s0, m0⟩ := s0
  cases e0
  have k1 := weights_le hsz 1 (t := 43) (d := d1) rfl rfl
  have s1 := Opn.param Try.underlying43 (POp.list W) (hval 1 43 v1 rfl rfl) h1 k1
  obtain ⟨x1, c1, ops, e1, l1, ok1, s1, m1⟩ := s1
  cases e1
  clear hA0 hval0 hsz0 hsz
  refine ((walk W s0 s1 ok1) W (Sat.start W)).mono fun e W' he => ?_
  obtain ⟨_, _, he, hs⟩ := he
  subst he
  exact ⟨_, rfl, law_post laid (params_ok (by kernel_rfl)) rfl Try.underlying4 hW' rfl rfl (Sat.below (by repeat (first | exact Ext.here | apply Ext.there)) hs)⟩
theorem over : Rows.portsApartRow.holds Try.pinned (OpenSpec.ofChange Rows.portsApartSpec) :=
  OpenClaim.holds_of_wide 10 Try.f10 rfl rfl rfl rfl rfl rfl rfl ⟨rfl, rfl, rfl, rfl, rfl⟩ rfl rfl rfl rfl rfl (by kernel_rfl) Try.func10 (by kernel_rfl)
    (of_decide_eq_true (by kernel_rfl)) (by unfold Func.isWrapper; first | (rw [if_pos (by decide +kernel)]; kernel_rfl) | (rw [if_neg (by decide +kernel)]; exact ⟨rfl, rfl⟩))
    (fun os started H enc _ => lifted os started H enc)
theorem proved : Rows.PortsApartSaid := over
#print axioms proved
end Go.Proofs.Ytjigjbcdopmeeaa.portsApart
