/- SpaceOwn: whatever several spaces do, none sees a byte that another one has written: the law returns true and changes nothing that was there. -/
import Derived.Test.YtmlfcfbblfcpdaaSlw
namespace Go.Proofs.Ytmlfcfbblfcpdaa.spaceOwn
open Go Go.Sl Go.RowKit Go.Proofs Go.Proofs.Ytmlfcfbblfcpdaa.T Go.Proofs.Ytmlfcfbblfcpdaa.Me Go.Proofs.Ytmlfcfbblfcpdaa.Pe Go.Proofs.Ytmlfcfbblfcpdaa.Pg Go.Proofs.Ytmlfcfbblfcpdaa.Sp
open Go.Proofs.Ytmlfcfbblfcpdaa.Fz (iv)
set_option linter.unusedVariables false
set_option linter.unusedSimpArgs false
set_option maxRecDepth 100000
abbrev B := List UInt8
abbrev vB : B → Value := fun b => .agg (bytesV b).toArray
abbrev Z := Nat × List (Int × B)
theorem z_zs : Value.agg (List.replicate 256 (Value.int .u8 0)).toArray = vB zs := by simp [vB, bytesV, byteV]
/-- What the law keeps of a partition. -/
structure OI (o : Ob) (k : Nat) (l : List (Int × B)) : Prop where
  nd : (l.map (·.1)).Nodup
  has : ∀ p, mget l p = (vI o k p).map (·.2)
  len : l.length = cN (fun p => (o.vw k p).isSome) 4096
  pm : ∀ p x, o.vw k p = some x → x.1 = 3 ∧ x.2.length = 256
theorem OI.start {fr k : Nat} : OI ⟨fun _ _ => none, fun _ _ => false, fr⟩ k [] :=
  ⟨by simp, fun p => (by unfold vI; simp only; split <;> rfl), (cN_zero 4096).symm, fun p x h => (by cases h)⟩
theorem vI_up {o : Ob} {k q fr k' : Nat} {v : Option (Nat × List UInt8)} {ts : Nat → Nat → Bool} (hq : q < 4096) (p : Int) : vI ⟨up2 o.vw k q v, ts, fr⟩ k' p = if k' = k ∧ (q : Int) = p then v else vI o k' p := by
  unfold vI
  dsimp only
  by_cases h : k' = k ∧ (q : Int) = p
  · obtain ⟨rfl, rfl⟩ := h; rw [if_pos (by omega), if_pos ⟨rfl, rfl⟩, Int.toNat_natCast, up2_at]
  · rw [if_neg h]
    by_cases h2 : 0 ≤ p ∧ p < 4096
    · rw [if_pos h2, if_pos h2, up2_ne (by omega)]
    · rw [if_neg h2, if_neg h2]
theorem OI.other {o : Ob} {k q fr k' : Nat} {v : Option (Nat × List UInt8)} {ts : Nat → Nat → Bool} {l : List (Int × B)} (K : OI o k' l) (hne : k' ≠ k) : OI ⟨up2 o.vw k q v, ts, fr⟩ k' l := by
  have e : ∀ p, (up2 o.vw k q v) k' p = o.vw k' p := fun p => up2_ne (fun x => hne x.1)
  exact ⟨K.nd, fun p => by rw [K.has p]; unfold vI; dsimp only; rw [e], by rw [K.len]; exact cN_congr _ fun p _ => (congrArg Option.isSome (e p)).symm, fun p x h => K.pm p x (by rw [← e]; exact h)⟩
theorem OI.set {o : Ob} {k q fr : Nat} {b : B} {ts : Nat → Nat → Bool} {l : List (Int × B)} (K : OI o k l) (hq : q < 4096) (hb : b.length = 256) : OI ⟨up2 o.vw k q (some (3, b)), ts, fr⟩ k (mset l (q : Int) b) := by
  refine ⟨mset_nodup K.nd _ _, fun p => ?_, ?_, fun p x h => ?_⟩
  · rw [mget_mset, K.has p, vI_up hq p]
    by_cases h : (q : Int) = p <;> simp [h]
  · have := cN_up2 (h := o.vw) (k := k) (p := q) (k' := k) (v := some (3, b)) hq
    rw [mset_length, K.has, vI_nat hq]
    have h2 := K.len
    cases hx : o.vw k q <;> simp [hx] at this ⊢ <;> omega
  · dsimp only at h
    by_cases hp : p = q
    · subst hp; rw [up2_at] at h; cases h; exact ⟨rfl, hb⟩
    · rw [up2_ne (by omega)] at h; exact K.pm p x h
theorem OI.del {o : Ob} {k q fr : Nat} {ts : Nat → Nat → Bool} {l : List (Int × B)} {x : Nat × B} (K : OI o k l) (hq : q < 4096) (hx : o.vw k q = some x) : OI ⟨up2 o.vw k q none, ts, fr⟩ k (mdel l (q : Int)) := by
  refine ⟨mdel_nodup K.nd _, fun p => ?_, ?_, fun p y h => ?_⟩
  · rw [mget_mdel K.nd, K.has p, vI_up hq p]
    by_cases h : (q : Int) = p <;> simp [h]
  · have := cN_up2 (h := o.vw) (k := k) (p := q) (k' := k) (v := none) hq
    rw [mdel_length, K.has, vI_nat hq]
    have h2 := K.len
    simp [hx] at this ⊢; omega
  · dsimp only at h
    by_cases hp : p = q
    · subst hp; rw [up2_at] at h; cases h
    · rw [up2_ne (by omega)] at h; exact K.pm p y h
theorem mdel_none {l : List (Int × B)} {p : Int} (h : mget l p = none) : mdel l p = l := by
  unfold mdel
  unfold mget at h
  cases hm : midx l p with
  | none => rfl
  | some i =>
    rw [hm] at h
    have hi : i < l.length := (List.findIdx?_eq_some_iff_getElem.1 hm).1
    simp [hi] at h
/-- All of them. -/
def OIs (o : Ob) (zl : List Z) : Prop := ∀ (k : Nat) (z : Z), zl[k]? = some z → OI o k z.2
theorem OIs.step {o : Ob} {zl : List Z} {k q fr : Nat} {v : Option (Nat × List UInt8)} {ts : Nat → Nat → Bool} {z : Z} {l : List (Int × B)} (K : OIs o zl) (hz : zl[k]? = some z) (h : OI ⟨up2 o.vw k q v, ts, fr⟩ k l) : OIs ⟨up2 o.vw k q v, ts, fr⟩ (zl.set k (z.1, l)) := fun k' z' hk' => by
  have hkl := (List.getElem?_eq_some_iff.1 hz).1
  by_cases hk : k = k'
  · subst hk
    rw [List.getElem?_set_self hkl] at hk'; cases hk'; exact h
  · rw [List.getElem?_set_ne hk] at hk'
    exact (K k' z' hk').other (fun e => hk e.symm)
theorem set_one {b : B} {i : Nat} {x : UInt8} (h : i < b.length) : overB b i [x] = b.set i x := by
  have := overB_snoc (bs := b) (ys := []) (a := i) (y := x) (by simpa using h)
  rw [overB_nil] at this; simpa using this
theorem putB_one (v : Nat) : putB v 1 = [UInt8.ofNat v] := by unfold putB; simp [List.range_succ]
theorem byte_back (x : UInt8) : IntKind.u8.wrap (x.toNat : Int) = (x.toNat : Int) := by
  have := x.toNat_lt
  rw [IntKind.wrap_u8]; omega
theorem leN_one {bs : B} {k : Nat} {x : UInt8} (h : bs[k]? = some x) : leN ((bs.drop k).take 1) = x.toNat := by
  obtain ⟨hk, rfl⟩ := List.getElem?_eq_some_iff.1 h
  rw [List.drop_eq_getElem_cons hk]; rfl
theorem pvTo_mem {o : Ob} {k : Nat} {x : Nat × Nat × List UInt8} : ∀ {p : Nat}, x ∈ pvTo o k p → x.1 < p ∧ o.vw k x.1 = some (x.2.1, x.2.2)
  | 0, h => by cases h
  | p + 1, h => by
    unfold pvTo at h
    rcases List.mem_append.1 h with h | h
    · have := pvTo_mem h
      exact ⟨by omega, this.2⟩
    · revert h
      cases hv : o.vw k p with
      | none => intro h; cases h
      | some y =>
        intro h
        obtain rfl := List.mem_singleton.1 h
        exact ⟨by simp, hv⟩
/-- What Write and Read do at one byte. -/
theorem write_one {o : Ob} {k page at' v : Nat} {l : List (Int × B)} (K : OI o k l) (hp : page < 6) (ha : at' < 256) : (o.vw k page = none ∧ writeO o k (page * 256 + at') 1 v = (90, o)) ∨ ∃ b : B, o.vw k page = some (3, b) ∧ b.length = 256 ∧ writeO o k (page * 256 + at') 1 v = (0, ⟨up2 o.vw k page (some (3, b.set at' (UInt8.ofNat v))), o.ts, o.fr⟩) := by
  unfold writeO
  rw [if_neg (by decide), if_neg (by omega), if_neg (by omega), show (page * 256 + at') / 256 = page by omega, show (page * 256 + at') % 256 = at' by omega]
  cases hx : o.vw k page with
  | none => exact .inl ⟨rfl, rfl⟩
  | some x =>
    obtain ⟨p3, hb⟩ := K.pm page x hx
    obtain ⟨x1, b⟩ := x
    dsimp only at p3 hb
    subst p3
    refine .inr ⟨b, rfl, hb, ?_⟩
    simp only
    rw [if_pos (by decide), show (1 : Int).toNat = 1 from rfl, putB_one, set_one (by omega)]
theorem read_one {o : Ob} {k page at' : Nat} {l : List (Int × B)} (K : OI o k l) (hp : page < 6) (ha : at' < 256) : (o.vw k page = none ∧ readO o k (page * 256 + at') 1 (Go.bits .and .i64 1 7) = (0, 90)) ∨ ∃ (b : B) (x : UInt8), o.vw k page = some (3, b) ∧ b.length = 256 ∧ b[at']? = some x ∧ readO o k (page * 256 + at') 1 (Go.bits .and .i64 1 7) = (x.toNat, 0) := by
  rw [show Go.bits .and .i64 1 7 = 1 by decide]
  unfold readO
  rw [if_neg (by decide), if_neg (by omega), if_neg (by omega), show (page * 256 + at') / 256 = page by omega, show (page * 256 + at') % 256 = at' by omega]
  cases hx : o.vw k page with
  | none => exact .inl ⟨rfl, rfl⟩
  | some x =>
    obtain ⟨p3, hb⟩ := K.pm page x hx
    obtain ⟨x1, b⟩ := x
    dsimp only at p3 hb
    subst p3
    have hg : b[at']? = some b[at'] := by simp [hb, ha]
    refine .inr ⟨b, _, rfl, hb, hg, ?_⟩
    simp only
    rw [if_pos (by decide), show (1 : Int).toNat = 1 from rfl, leN_one hg]
theorem sl_three {l : List SpE} (h : l.map (·.k) = [0, 1, 2]) {k : Nat} (hk : k < 3) : ∃ e, l[k]? = some e ∧ e.k = k ∧ rtOf l k = some e.r := by
  match l, h with
  | [⟨k0, s0, r0, b0⟩, ⟨k1, s1, r1, b1⟩, ⟨k2, s2, r2, b2⟩], h =>
    simp only [List.map_cons, List.map_nil, List.cons.injEq, and_true] at h
    obtain ⟨rfl, rfl, rfl⟩ := h
    rcases (show k = 0 ∨ k = 1 ∨ k = 2 by omega) with rfl | rfl | rfl
    · exact ⟨_, rfl, rfl, rfl⟩
    · exact ⟨_, rfl, rfl, rfl⟩
    · exact ⟨_, rfl, rfl, rfl⟩
abbrev OS := Ob × List Z × St
abbrev sbs (z : MD) : List HProp := z.sl.map fun e => sb e.s e.k e.r z.m z.f z.t
abbrev hms (zl : List Z) : List HProp := zl.map fun x => hmap vi vB x.1 x.2
/-- What lies in the memory. -/
abbrev GO (W : World) (z : MD) (sbb so b5 : Nat) (zl : List Z) (σ : St) : List HProp :=
  blk z.bx [.pointer (some ⟨z.m, 0, none⟩), .pointer (some ⟨z.f, 0, none⟩), .pointer (some ⟨z.t, 0, none⟩), .slice (some ⟨sbb, so, none⟩) z.sl.length z.sc, .pointer (some ⟨z.bw, 0, none⟩), .slice z.ra z.sl.length z.rc] 70 ::
  osl 81 1 (some ⟨sbb, so, none⟩) z.sc z.sl.length (ptrs (z.sl.map (·.s))) :: blk b5 (zl.map fun x => .map (some x.1)) 72 :: Star (sbs z) :: Star (hms zl) :: WG z.m z.f z.t 30 [10, 10, 10] σ [old W]
/-- .. with one partition's taken out. -/
abbrev GO1 (W : World) (z : MD) (sbb so b5 k : Nat) (e : SpE) (zl : List Z) (rk : Nat) (l : List (Int × B)) (σ : St) : List HProp :=
  hmap vi vB rk l :: sb e.s k e.r z.m z.f z.t :: Star ((hms zl).eraseIdx k) :: Star ((sbs z).eraseIdx k) ::
  blk z.bx [.pointer (some ⟨z.m, 0, none⟩), .pointer (some ⟨z.f, 0, none⟩), .pointer (some ⟨z.t, 0, none⟩), .slice (some ⟨sbb, so, none⟩) z.sl.length z.sc, .pointer (some ⟨z.bw, 0, none⟩), .slice z.ra z.sl.length z.rc] 70 ::
  osl 81 1 (some ⟨sbb, so, none⟩) z.sc z.sl.length (ptrs (z.sl.map (·.s))) :: blk b5 (zl.map fun x => .map (some x.1)) 72 :: WG z.m z.f z.t 30 [10, 10, 10] σ [old W]
theorem go_take {W : World} {z : MD} {sbb so b5 k : Nat} {e : SpE} {zl : List Z} {x : Z} {σ : St} (he : z.sl[k]? = some e) (hk : e.k = k) (hx : zl[k]? = some x) : Imp (GO W z sbb so b5 zl σ) (GO1 W z sbb so b5 k e zl x.1 x.2 σ) := by
  have h1 : (sbs z)[k]? = some (sb e.s k e.r z.m z.f z.t) := by rw [List.getElem?_map, he]; subst hk; rfl
  have h2 : (hms zl)[k]? = some (hmap vi vB x.1 x.2) := by rw [List.getElem?_map, hx]; rfl
  refine Imp.trans (B := Star (sbs z) :: Star (hms zl) :: blk z.bx [.pointer (some ⟨z.m, 0, none⟩), .pointer (some ⟨z.f, 0, none⟩), .pointer (some ⟨z.t, 0, none⟩), .slice (some ⟨sbb, so, none⟩) z.sl.length z.sc, .pointer (some ⟨z.bw, 0, none⟩), .slice z.ra z.sl.length z.rc] 70 :: osl 81 1 (some ⟨sbb, so, none⟩) z.sc z.sl.length (ptrs (z.sl.map (·.s))) :: blk b5 (zl.map fun x => .map (some x.1)) 72 :: WG z.m z.f z.t 30 [10, 10, 10] σ [old W]) (by repeat (first | exact Imp.refl _ | exact Imp.none _ | apply Imp.pull (by repeat (first | exact Ext.here | apply Ext.there)) | apply Imp.trans Imp.drop)) ?_
  refine Imp.trans (star_take h1) ?_
  refine Imp.trans (B := Star (hms zl) :: sb e.s k e.r z.m z.f z.t :: Star ((sbs z).eraseIdx k) :: blk z.bx [.pointer (some ⟨z.m, 0, none⟩), .pointer (some ⟨z.f, 0, none⟩), .pointer (some ⟨z.t, 0, none⟩), .slice (some ⟨sbb, so, none⟩) z.sl.length z.sc, .pointer (some ⟨z.bw, 0, none⟩), .slice z.ra z.sl.length z.rc] 70 :: osl 81 1 (some ⟨sbb, so, none⟩) z.sc z.sl.length (ptrs (z.sl.map (·.s))) :: blk b5 (zl.map fun x => .map (some x.1)) 72 :: WG z.m z.f z.t 30 [10, 10, 10] σ [old W]) (by repeat (first | exact Imp.refl _ | exact Imp.none _ | apply Imp.pull (by repeat (first | exact Ext.here | apply Ext.there)) | apply Imp.trans Imp.drop)) ?_
  exact Imp.trans (star_take h2) (by repeat (first | exact Imp.refl _ | exact Imp.none _ | apply Imp.pull (by repeat (first | exact Ext.here | apply Ext.there)) | apply Imp.trans Imp.drop))
theorem go_put {W : World} {z : MD} {sbb so b5 k : Nat} {e : SpE} {zl : List Z} {x : Z} {l : List (Int × B)} {σ : St} (he : z.sl[k]? = some e) (hk : e.k = k) (hx : zl[k]? = some x) : Imp (GO1 W z sbb so b5 k e zl x.1 l σ) (GO W z sbb so b5 (zl.set k (x.1, l)) σ) := by
  have h1 : (sbs z)[k]? = some (sb e.s k e.r z.m z.f z.t) := by rw [List.getElem?_map, he]; subst hk; rfl
  have h2 : (hms zl)[k]? = some (hmap vi vB x.1 x.2) := by rw [List.getElem?_map, hx]; rfl
  have e1 : (hms zl).set k (hmap vi vB x.1 l) = hms (zl.set k (x.1, l)) := by simp only [hms, List.map_set]
  have e2 : (zl.set k (x.1, l)).map (fun x => Value.map (some x.1)) = zl.map fun x => Value.map (some x.1) := by
    rw [List.map_set]
    exact Ms.set_self (by rw [List.getElem?_map, hx]; rfl)
  have e3 : (sbs z).set k (sb e.s k e.r z.m z.f z.t) = sbs z := Ms.set_self h1
  dsimp only [GO]
  rw [e2, ← e1]
  refine Imp.trans (B := hmap vi vB x.1 l :: Star ((hms zl).eraseIdx k) :: sb e.s k e.r z.m z.f z.t :: Star ((sbs z).eraseIdx k) :: blk z.bx [.pointer (some ⟨z.m, 0, none⟩), .pointer (some ⟨z.f, 0, none⟩), .pointer (some ⟨z.t, 0, none⟩), .slice (some ⟨sbb, so, none⟩) z.sl.length z.sc, .pointer (some ⟨z.bw, 0, none⟩), .slice z.ra z.sl.length z.rc] 70 :: osl 81 1 (some ⟨sbb, so, none⟩) z.sc z.sl.length (ptrs (z.sl.map (·.s))) :: blk b5 (zl.map fun x => .map (some x.1)) 72 :: WG z.m z.f z.t 30 [10, 10, 10] σ [old W]) (by repeat (first | exact Imp.refl _ | exact Imp.none _ | apply Imp.pull (by repeat (first | exact Ext.here | apply Ext.there)) | apply Imp.trans Imp.drop)) ?_
  refine Imp.trans (star_put h2) ?_
  refine Imp.trans (B := sb e.s k e.r z.m z.f z.t :: Star ((sbs z).eraseIdx k) :: Star ((hms zl).set k (hmap vi vB x.1 l)) :: blk z.bx [.pointer (some ⟨z.m, 0, none⟩), .pointer (some ⟨z.f, 0, none⟩), .pointer (some ⟨z.t, 0, none⟩), .slice (some ⟨sbb, so, none⟩) z.sl.length z.sc, .pointer (some ⟨z.bw, 0, none⟩), .slice z.ra z.sl.length z.rc] 70 :: osl 81 1 (some ⟨sbb, so, none⟩) z.sc z.sl.length (ptrs (z.sl.map (·.s))) :: blk b5 (zl.map fun x => .map (some x.1)) 72 :: WG z.m z.f z.t 30 [10, 10, 10] σ [old W]) (by repeat (first | exact Imp.refl _ | exact Imp.none _ | apply Imp.pull (by repeat (first | exact Ext.here | apply Ext.there)) | apply Imp.trans Imp.drop)) ?_
  refine Imp.trans (star_put h1) ?_
  rw [e3]
  exact (by repeat (first | exact Imp.refl _ | exact Imp.none _ | apply Imp.pull (by repeat (first | exact Ext.here | apply Ext.there)) | apply Imp.trans Imp.drop))
set_option maxHeartbeats 8000000 in
theorem walk (W : World) {a0 : Option Addr} {c0 : Nat} {ops : List SOp} (hops : SlAt W 10 a0 ops.length ((ops.map SOp.cells).flatten)) (hok : ∀ o ∈ ops, o.OK W) :
    Ctr Try.prog W 6 [.slice a0 ops.length c0] [old W] (fun _ : Unit => True) (fun _ => .bool true) (fun _ => [old W]) := by
  have hq : ∀ q ∈ ([10, 10, 10] : List Int), 0 ≤ q ∧ q ≤ 1024 := by decide
  have hqk : ∀ k, k < 3 → ([10, 10, 10] : List Int)[k]? = some 10 := fun k hk => by rcases (show k = 0 ∨ k = 1 ∨ k = 2 by omega) with rfl | rfl | rfl <;> rfl
  have hpk : posK [10, 10, 10] 3 = [0, 1, 2] := by decide
  refine Ctr.of_body Try.func6 rfl Try.ntmps6 rfl ?_
  refine CG.seq ?_
  refine CG.region ?_
  refine OG.yield (Yield.assign rfl) rfl ?_
  refine OG.nil ?_
  refine QG.then ?_
  refine CG.seq ?_
  refine CG.seq ?_
  refine CG.region ?_
  refine OG.callo call23 rfl (Imp.refl _) (works_spec W _) rfl ?_
  rintro ⟨⟩ -
  refine OG.yield (Yield.not rfl) rfl ?_
  refine OG.nil ?_
  refine QG.then ?_
  refine CG.cond_f rfl ?_
  refine CG.skip ?_
  refine QG.then ?_
  refine CG.seq ?_
  refine CG.region ?_
  refine OG.effd (Eff.lit [.const (.int .i64 10), .const (.int .i64 10), .const (.int .i64 10)] (vs := [.int .i64 10, .int .i64 10, .int .i64 10]) (cells := iv [10, 10, 10]) Try.underlying63 ti3 rfl rfl rfl rfl (by decide) (by simp [Value.cells]) (by simp [Value.cells]; rfl)) rfl ?_
  rintro b24 -
  refine OG.callo call24 rfl (Imp.refl _) (made_spec W _ (n := 30) (qs := [10, 10, 10]) (by decide) (by exact SlR.of_osl (a := some ⟨b24, 0, none⟩) (by repeat (first | exact Ext.here | apply Ext.there)))) rfl ?_
  rintro z ⟨hsl, L, -⟩
  have hsl3 : z.sl.map (·.k) = [0, 1, 2] := hsl.trans hpk
  have hlen : z.sl.length = 3 := by have := congrArg List.length hsl3; rw [List.length_map] at this; exact this
  refine OG.yield (Yield.move rfl) rfl ?_
  refine OG.yield (Yield.extract rfl rfl) rfl ?_
  refine OG.yield (Yield.extract rfl rfl) rfl ?_
  refine OG.yield (Yield.assign rfl) rfl ?_
  refine OG.yield (Yield.assign rfl) rfl ?_
  refine OG.nil ?_
  refine QG.then ?_
  refine CG.seq ?_
  refine CG.seq ?_
  refine CG.region ?_
  refine OG.yield (Yield.move rfl) rfl ?_
  refine OG.yield (Yield.not rfl) rfl ?_
  refine OG.yield (Yield.move rfl) rfl ?_
  refine OG.guard_yes rfl rfl rfl (by decide) ?_
  refine OG.yield (Yield.move rfl) rfl ?_
  refine OG.guard_yes rfl rfl rfl (by decide) ?_
  refine OG.yield (Yield.nilCheck rfl) rfl ?_
  refine OG.guard_yes rfl rfl rfl (by decide) ?_
  refine OG.yield (Yield.fieldAddr fa70_3 rfl) rfl ?_
  refine OG.guard_yes rfl rfl rfl (by decide) ?_
  refine OG.yield (Yield.load ti66 rfl (by first | exact Cel.of_blk (by repeat (first | exact Ext.here | apply Ext.there)) rfl | exact (hrow (by repeat (first | exact Ext.here | apply Ext.there))) _ _ rfl)) rfl ?_
  refine OG.guard_yes rfl rfl rfl (by decide) ?_
  refine OG.yield (Yield.len_slice Try.underlying66 rfl rfl) rfl ?_
  refine OG.guard_yes rfl rfl rfl (by decide) ?_
  refine OG.yield (Yield.as (Yield.neq rfl rfl) (v' := .bool false) (bF (by omega))) rfl ?_
  refine OG.yield (by first | exact Yield.pick_t rfl rfl | exact Yield.pick_f rfl rfl | exact Yield.pick rfl (fun _ => rfl) (fun _ => rfl)) rfl ?_
  refine OG.nil ?_
  refine QG.then ?_
  refine CG.cond_f rfl ?_
  refine CG.skip ?_
  refine QG.then ?_
  refine CG.seq ?_
  refine CG.region ?_
  refine OG.effd (Eff.makeMap vi vB) rfl ?_
  rintro q0 -
  refine OG.effd (Eff.makeMap vi vB) rfl ?_
  rintro q1 -
  refine OG.effd (Eff.makeMap vi vB) rfl ?_
  rintro q2 -
  refine OG.yield (Yield.buildArr (zs := [.map none, .map none, .map none]) (cells := [.map (some q0), .map (some q1), .map (some q2)]) Try.underlying72 ti72 ti71 rfl rfl) rfl ?_
  refine OG.effd (Eff.alloc ti72) rfl ?_
  rintro b5 -
  refine OG.eff (Eff.storeAll ti72 rfl rfl (by repeat (first | exact Foc.here | apply Foc.there)) rfl (by simp [one]) (by first | rfl | simp)) rfl ?_
  rintro ⟨⟩ -
  refine OG.nil ?_
  refine QG.then ?_
  refine CG.pure (fun w hw => SlR.shape (SlR.of_osl (W0 := W) (a := z.sa) (by repeat (first | exact Ext.here | apply Ext.there))) (by intro q; have := congrArg List.length q; simp [ptrs, hlen] at this) w hw) ?_
  rintro ⟨sbb, so, hsa⟩
  dsimp only [MG]
  rw [hsa]
  refine CG.cut (fun s : OS × Nat => Lk 30 [10, 10, 10] (rtOf z.sl) s.1.1 s.2 s.1.2.2 ∧ OIs s.1.1 s.1.2.1 ∧ s.1.2.1.length = 3) (fun s => [(3, .pointer (some ⟨z.bx, 0, none⟩)), (5, .pointer (some ⟨b5, 0, none⟩))]) (fun s => GO W z sbb so b5 s.1.2.1 s.1.2.2) ?_ ?_
  · skip
    refine CG.seq ?_
    refine CG.region ?_
    refine OG.yield (Yield.assign rfl) rfl ?_
    refine OG.nil ?_
    refine QG.then ?_
    refine CG.block ?_
    refine CG.loop (fun s : Nat × OS => s.1 ≤ ops.length ∧ s.1 ≤ 120 ∧ Lk 30 [10, 10, 10] (rtOf z.sl) s.2.1 s.1 s.2.2.2 ∧ OIs s.2.1 s.2.2.1 ∧ s.2.2.1.length = 3) (fun s => [(0, .slice a0 ops.length c0), (3, .pointer (some ⟨z.bx, 0, none⟩)), (5, .pointer (some ⟨b5, 0, none⟩)), (6, .int .i64 s.1)]) (fun s => GO W z sbb so b5 s.2.2.1 s.2.2.2) (fun s => ops.length - s.1) (0, ⟨fun _ _ => none, fun _ _ => false, 30 - z.sl.length⟩, [(q0, []), (q1, []), (q2, [])], z.σ) ⟨Nat.zero_le _, Nat.zero_le _, L, ?_, rfl⟩ (by repeat (first | exact Env.sub_nil _ | refine Env.sub_cons rfl ?_)) ?_ ?_
    · intro k x hx
      have : x.2 = [] := by
        have hk := (List.getElem?_eq_some_iff.1 hx).1
        rcases (show k = 0 ∨ k = 1 ∨ k = 2 by simp only [List.length_cons, List.length_nil] at hk; omega) with rfl | rfl | rfl <;> (cases hx; rfl)
      rw [this]; exact OI.start
    · refine Imp.trans (B := Star (sbs z) :: ([hmap vi vB q0 [], hmap vi vB q1 [], hmap vi vB q2 []] ++ (blk z.bx [.pointer (some ⟨z.m, 0, none⟩), .pointer (some ⟨z.f, 0, none⟩), .pointer (some ⟨z.t, 0, none⟩), .slice (some ⟨sbb, so, none⟩) z.sl.length z.sc, .pointer (some ⟨z.bw, 0, none⟩), .slice z.ra z.sl.length z.rc] 70 :: osl 81 1 (some ⟨sbb, so, none⟩) z.sc z.sl.length (ptrs (z.sl.map (·.s))) :: blk b5 [.map (some q0), .map (some q1), .map (some q2)] 72 :: WG z.m z.f z.t 30 [10, 10, 10] z.σ [old W]))) (by repeat (first | exact Imp.refl _ | exact Imp.none _ | apply Imp.pull (by repeat (first | exact Ext.here | apply Ext.there)) | apply Imp.trans Imp.drop)) ?_
      exact Imp.trans (Imp.cons star_close) (by repeat (first | exact Imp.refl _ | exact Imp.none _ | apply Imp.pull (by repeat (first | exact Ext.here | apply Ext.there)) | apply Imp.trans Imp.drop))
    rintro ⟨i, o, zl, σ⟩ ⟨hi, hi1, L, K, hz3⟩
    dsimp only at hi hi1 L K hz3 ⊢
    refine CG.seq ?_
    refine CG.seq ?_
    rcases loop_head (i) (ops.length) 120 with hh | hh | hh
    · skip
      refine CG.region ?_
      refine OG.yield (Yield.move rfl) rfl ?_
      refine OG.yield (Yield.move rfl) rfl ?_
      refine OG.yield (Yield.len_slice Try.underlying59 rfl rfl) rfl ?_
      refine OG.yield (by first | exact Yield.as (Yield.lss rfl rfl) (bT (by omega)) | exact Yield.as (Yield.lss rfl rfl) (bF (by omega)) | exact Yield.lss rfl rfl) rfl ?_
      refine OG.yield (Yield.move rfl) rfl ?_
      refine OG.guard_yes rfl rfl rfl (by decide) ?_
      refine OG.yield (Yield.move rfl) rfl ?_
      refine OG.guard_yes rfl rfl rfl (by decide) ?_
      refine OG.yield (by first | exact Yield.as (Yield.lss rfl rfl) (bT (by omega)) | exact Yield.as (Yield.lss rfl rfl) (bF (by omega)) | exact Yield.lss rfl rfl) rfl ?_
      refine OG.yield (by first | exact Yield.pick_t rfl rfl | exact Yield.pick_f rfl rfl | exact Yield.pick rfl (fun _ => rfl) (fun _ => rfl)) rfl ?_
      refine OG.nil ?_
      refine QG.then ?_
      refine CG.cond_t rfl ?_
      refine CG.skip ?_
      refine QG.then ?_
      refine CG.seq ?_
      refine CG.block ?_
      refine CG.seq ?_
      obtain ⟨h1, h2⟩ := hh
      have hget : ops[i]? = some ops[i] := by simp [h1]
      have hko := hok ops[i] (List.getElem_mem h1)
      generalize ops[i] = op at hget hko
      refine CG.pure (fun w hw => (hops.old (G := GO W z sbb so b5 zl σ) (by repeat (first | exact Ext.here | apply Ext.there))).elem_shape SOp.len (by decide) h1 w hw) ?_
      rintro ⟨b, oo, rfl⟩
      have hrow : ∀ {G R : List HProp}, Ext G (old W) R → Row W G b (oo + i * 10) op.cells := fun x => (hops.old x).elem SOp.len hget
      obtain ⟨hA0, hA1⟩ := wf_u32 hko.Addr
      obtain ⟨hV0, hV1⟩ := wf_u64 hko.V
      obtain ⟨v, hv⟩ : ∃ v : Nat, op.V = (v : Int) := ⟨op.V.toNat, by omega⟩
      obtain ⟨ad, had⟩ : ∃ v : Nat, op.Addr = (v : Int) := ⟨op.Addr.toNat, by omega⟩
      have hw1 := wrap_u64_range op.Who
      have hw2 := wrap_u64_range op.Page
      refine CG.region ?_
      refine OG.yield (Yield.move rfl) rfl ?_
      refine OG.yield (Yield.move rfl) rfl ?_
      refine OG.yield (Yield.index_slice Try.underlying59 ti78 rfl rfl (by omega) (by omega)) rfl ?_
      refine OG.yield (Yield.load_agg (vs := op.cells) ti78 rfl (SOp.len _) (hrow (by repeat (first | exact Ext.here | apply Ext.there)))) rfl ?_
      refine OG.effd (Eff.alloc ti78) rfl ?_
      rintro b7 -
      refine OG.eff (Eff.storeAll ti78 rfl rfl (by repeat (first | exact Foc.here | apply Foc.there)) rfl (by simp [SOp.cells, one]) (by first | rfl | simp)) rfl ?_
      rintro ⟨⟩ -
      refine OG.nil ?_
      refine QG.then ?_
      refine CG.seq ?_
      refine CG.region ?_
      refine OG.yield (Yield.fieldAddr fa78_1 rfl) rfl ?_
      refine OG.yield (Yield.load (v := .int .i64 op.Who) ti3 rfl (Cel.of_blk (by repeat (first | exact Ext.here | apply Ext.there)) rfl)) rfl ?_
      refine OG.yield (Yield.conv Try.underlying29 rfl rfl rfl) rfl ?_
      generalize IntKind.u64.wrap op.Who = wq at hw1 ⊢
      obtain ⟨k, hk, hk3⟩ : ∃ p : Nat, wq % 3 = (p : Int) ∧ p < 3 := ⟨(wq % 3).toNat, by omega, by omega⟩
      refine OG.yield (Yield.rem (c := (k : Int)) rfl rfl (by decide) (by rw [← hk]; exact tmod_pos (by omega) (by omega))) rfl ?_
      refine OG.yield (by first | exact Yield.conv Try.underlying3 rfl rfl (w64 (by omega) (by omega)) | exact Yield.conv Try.underlying3 rfl rfl rfl) rfl ?_
      refine OG.yield (Yield.assign rfl) rfl ?_
      refine OG.nil ?_
      refine QG.then ?_
      refine CG.seq ?_
      refine CG.region ?_
      refine OG.yield (Yield.fieldAddr fa78_2 rfl) rfl ?_
      refine OG.yield (Yield.load (v := .int .i64 op.Page) ti3 rfl (Cel.of_blk (by repeat (first | exact Ext.here | apply Ext.there)) rfl)) rfl ?_
      refine OG.yield (Yield.conv Try.underlying29 rfl rfl rfl) rfl ?_
      generalize IntKind.u64.wrap op.Page = wp at hw2 ⊢
      obtain ⟨page, hp, hp6⟩ : ∃ p : Nat, wp % 6 = (p : Int) ∧ p < 6 := ⟨(wp % 6).toNat, by omega, by omega⟩
      refine OG.yield (Yield.rem (c := (page : Int)) rfl rfl (by decide) (by rw [← hp]; exact tmod_pos (by omega) (by omega))) rfl ?_
      refine OG.yield (by first | exact Yield.conv Try.underlying3 rfl rfl (w64 (by omega) (by omega)) | exact Yield.conv Try.underlying3 rfl rfl rfl) rfl ?_
      refine OG.yield (Yield.assign rfl) rfl ?_
      refine OG.nil ?_
      refine QG.then ?_
      refine CG.seq ?_
      refine CG.region ?_
      refine OG.yield (Yield.fieldAddr fa78_4 rfl) rfl ?_
      refine OG.yield (Yield.as (Yield.load (v := .int .u32 op.Addr) ti32 rfl (Cel.of_blk (by repeat (first | exact Ext.here | apply Ext.there)) rfl)) (v' := .int .u32 ad) (by rw [had])) rfl ?_
      refine OG.yield (Yield.rem (c := ((ad % 256 : Nat) : Int)) rfl rfl (by decide) (tmod_nat ad 256 (by decide))) rfl ?_
      refine OG.yield (by first | exact Yield.conv Try.underlying3 rfl rfl (w64 (by omega) (by omega)) | exact Yield.conv Try.underlying3 rfl rfl rfl) rfl ?_
      refine OG.yield (Yield.assign rfl) rfl ?_
      refine OG.nil ?_
      refine QG.then ?_
      refine CG.seq ?_
      have hat : ad % 256 < 256 := Nat.mod_lt _ (by decide)
      generalize ad % 256 = at' at hat ⊢
      obtain ⟨e, he, hek, hrt⟩ := sl_three hsl3 hk3
      obtain ⟨⟨rk, l⟩, hx⟩ : ∃ x, zl[k]? = some x := ⟨_, List.getElem?_eq_getElem (by omega)⟩
      have hKk := K k _ hx
      dsimp only at hKk
      have hes : (ptrs (z.sl.map (·.s)))[k]? = some (.pointer (some ⟨e.s, 0, none⟩)) := by simp [ptrs, he]
      have hms' : (zl.map fun x => Value.map (some x.1))[k]? = some (.map (some rk)) := by rw [List.getElem?_map, hx]; rfl
      have put := fun l' σ' => go_put (W := W) (sbb := sbb) (so := so) (b5 := b5) (l := l') (σ := σ') he hek hx
      have put0 : ∀ σ', Imp (GO1 W z sbb so b5 k e zl rk l σ') (GO W z sbb so b5 zl σ') := fun σ' => by have := put l σ'; rwa [Ms.set_self hx] at this
      dsimp only at put
      refine CG.imp (G' := blk b7 op.cells 78 :: GO1 W z sbb so b5 k e zl rk l σ) (Imp.trans (B := blk b7 op.cells 78 :: GO W z sbb so b5 zl σ) (by repeat (first | exact Imp.refl _ | exact Imp.none _ | apply Imp.pull (by repeat (first | exact Ext.here | apply Ext.there)) | apply Imp.trans Imp.drop)) (Imp.cons (go_take he hek hx))) ?_
      refine CG.region ?_
      refine OG.yield (Yield.move rfl) rfl ?_
      refine OG.yield (Yield.index_array Try.underlying72 ti71 rfl rfl (by omega) (by omega)) rfl ?_
      refine OG.yield (Yield.load (v := .map (some rk)) ti71 rfl (by rw [show 0 + (k : Int).toNat * 1 = k by omega]; exact Cel.of_blk (b := b5) (by repeat (first | exact Ext.here | apply Ext.there)) hms')) rfl ?_
      refine OG.yield (Yield.move rfl) rfl ?_
      refine OG.yield (Yield.lookup vi vB (l := l) Try.underlying71 ti79 keyInt (page : Int) rfl rfl (by repeat (first | exact Ext.here | apply Ext.there))) rfl ?_
      rw [hKk.has, vI_nat (show page < 4096 by omega)]
      refine OG.yield (Yield.move rfl) rfl ?_
      refine OG.yield (Yield.extract rfl rfl) rfl ?_
      refine OG.yield (Yield.extract rfl rfl) rfl ?_
      obtain ⟨cl, hcl, hcl2⟩ : ∃ cl : B, (Option.map vB (Option.map (fun x : Nat × List UInt8 => x.2) (o.vw k page))).getD (.agg (List.replicate 256 (Value.int .u8 0)).toArray) = vB cl ∧ cl.length = 256 ∧ ∀ x, o.vw k page = some x → cl = x.2 := by
        cases hxx : o.vw k page with
        | none => exact ⟨zs, z_zs, by simp, fun x h => by cases h⟩
        | some x => exact ⟨x.2, rfl, (hKk.pm page x hxx).2, fun y h => by cases h; rfl⟩
      obtain ⟨hcl2, hcl3⟩ := hcl2
      rw [hcl]
      refine OG.effd (Eff.alloc ti79) rfl ?_
      rintro b11 -
      refine OG.eff (Eff.storeAll (vs := bytesV cl) ti79 rfl rfl (by repeat (first | exact Foc.here | apply Foc.there)) (by rw [bytesV_length, hcl2]) bytesV_one (by simp [Value.cells, bytesV_length, hcl2])) rfl ?_
      rintro ⟨⟩ -
      refine OG.yield (Yield.assign rfl) rfl ?_
      refine OG.nil ?_
      refine QG.then ?_
      refine CG.seq ?_
      refine CG.region ?_
      refine OG.yield (Yield.fieldAddr fa78_0 rfl) rfl ?_
      refine OG.yield (Yield.load (v := .int .i64 op.Kind) ti3 rfl (Cel.of_blk (by repeat (first | exact Ext.here | apply Ext.there)) rfl)) rfl ?_
      refine OG.nil ?_
      refine QG.then ?_
      refine CG.block ?_
      refine CG.seq ?_
      refine CG.region ?_
      refine OG.yield (by first | exact Yield.as (Yield.eql rfl rfl) (bT (by omega)) | exact Yield.as (Yield.eql rfl rfl) (bF (by omega)) | exact Yield.eql rfl rfl) rfl ?_
      refine OG.yield (Yield.assign rfl) rfl ?_
      refine OG.nil ?_
      refine QG.then ?_
      refine CG.cond rfl (fun hc => ?_) (fun hc => ?_)
      · try replace hc := of_decide_eq_true hc
        refine CG.seq ?_
        rcases map_two 10 o k (page : Int) 3 with ⟨hm, hm2⟩ | ⟨hm, hn, -, hem⟩
        · skip
          refine CG.region ?_
          refine OG.yield (Yield.move rfl) rfl ?_
          refine OG.yield (Yield.nilCheck rfl) rfl ?_
          refine OG.yield (Yield.fieldAddr fa70_3 rfl) rfl ?_
          refine OG.yield (Yield.load ti66 rfl (by first | exact Cel.of_blk (by repeat (first | exact Ext.here | apply Ext.there)) rfl | exact (hrow (by repeat (first | exact Ext.here | apply Ext.there))) _ _ rfl)) rfl ?_
          refine OG.yield (Yield.move rfl) rfl ?_
          refine OG.yield (Yield.index_slice Try.underlying66 ti81 rfl rfl (by omega) (by omega)) rfl ?_
          refine OG.yield (Yield.load (v := .pointer (some ⟨e.s, 0, none⟩)) ti81 rfl (by rw [show so + (k : Int).toNat * 1 = so + k by omega]; exact (SlR.of_osl (W0 := W) (a := some ⟨sbb, so, none⟩) (by repeat (first | exact Ext.here | apply Ext.there))).cel (i := k) hes)) rfl ?_
          refine OG.yield (Yield.move rfl) rfl ?_
          refine OG.callo call25 rfl ((by repeat (first | exact Imp.refl _ | exact Imp.none _ | apply Imp.pull (by repeat (first | exact Ext.here | apply Ext.there)) | apply Imp.trans Imp.drop))) (map_spec W _ (s := e.s) (m := z.m) (f := z.f) (t := z.t) (k := k) (r := e.r) L hq (qk := 10) (hqk k hk3) hrt (page : Int) 3) rfl ?_
          rintro σ2 L2
          refine OG.yield (Yield.as (Yield.eql rfl rfl) (v' := .bool false) (bF hm)) rfl ?_
          refine OG.nil ?_
          refine QG.then ?_
          refine CG.cond_f rfl ?_
          refine CG.skip ?_
          refine QG.block_normal ?_
          refine QG.block_normal ?_
          refine QG.then ?_
          refine CG.region ?_
          refine OG.yield (Yield.move rfl) rfl ?_
          refine OG.yield (Yield.add rfl rfl (w64 (by omega) (by omega))) rfl ?_
          refine OG.yield (Yield.assign rfl) rfl ?_
          refine OG.nil ?_
          exact QG.next (i + 1, o, zl, σ2) ⟨by omega, by omega, (hm2 ▸ L2).mono (by omega), K, hz3⟩ (by simp only; omega) (by repeat (first | exact Env.sub_nil _ | refine Env.sub_cons rfl ?_)) (Imp.trans (B := GO1 W z sbb so b5 k e zl rk l σ2) (by repeat (first | exact Imp.refl _ | exact Imp.none _ | apply Imp.pull (by repeat (first | exact Ext.here | apply Ext.there)) | apply Imp.trans Imp.drop)) (put0 σ2))
        · skip
          refine CG.region ?_
          refine OG.yield (Yield.move rfl) rfl ?_
          refine OG.yield (Yield.nilCheck rfl) rfl ?_
          refine OG.yield (Yield.fieldAddr fa70_3 rfl) rfl ?_
          refine OG.yield (Yield.load ti66 rfl (by first | exact Cel.of_blk (by repeat (first | exact Ext.here | apply Ext.there)) rfl | exact (hrow (by repeat (first | exact Ext.here | apply Ext.there))) _ _ rfl)) rfl ?_
          refine OG.yield (Yield.move rfl) rfl ?_
          refine OG.yield (Yield.index_slice Try.underlying66 ti81 rfl rfl (by omega) (by omega)) rfl ?_
          refine OG.yield (Yield.load (v := .pointer (some ⟨e.s, 0, none⟩)) ti81 rfl (by rw [show so + (k : Int).toNat * 1 = so + k by omega]; exact (SlR.of_osl (W0 := W) (a := some ⟨sbb, so, none⟩) (by repeat (first | exact Ext.here | apply Ext.there))).cel (i := k) hes)) rfl ?_
          refine OG.yield (Yield.move rfl) rfl ?_
          refine OG.callo call25 rfl ((by repeat (first | exact Imp.refl _ | exact Imp.none _ | apply Imp.pull (by repeat (first | exact Ext.here | apply Ext.there)) | apply Imp.trans Imp.drop))) (map_spec W _ (s := e.s) (m := z.m) (f := z.f) (t := z.t) (k := k) (r := e.r) L hq (qk := 10) (hqk k hk3) hrt (page : Int) 3) rfl ?_
          rintro σ2 L2
          refine OG.yield (Yield.as (Yield.eql rfl rfl) (v' := .bool true) (by rw [hem]; rfl)) rfl ?_
          refine OG.nil ?_
          refine QG.then ?_
          refine CG.cond_t rfl ?_
          refine CG.seq ?_
          refine CG.seq ?_
          rw [hem, Int.toNat_natCast] at L2
          rw [Int.toNat_natCast] at hn
          refine CG.region ?_
          refine OG.yield (Yield.as (Yield.move rfl) (v' := .bool false) (by rw [hn]; rfl)) rfl ?_
          refine OG.nil ?_
          refine QG.then ?_
          refine CG.cond_f rfl ?_
          refine CG.skip ?_
          refine QG.then ?_
          refine CG.region ?_
          refine OG.yield (Yield.move rfl) rfl ?_
          refine OG.yield (Yield.index_array Try.underlying72 ti71 rfl rfl (by omega) (by omega)) rfl ?_
          refine OG.yield (Yield.load (v := .map (some rk)) ti71 rfl (by rw [show 0 + (k : Int).toNat * 1 = k by omega]; exact Cel.of_blk (b := b5) (by repeat (first | exact Ext.here | apply Ext.there)) hms')) rfl ?_
          refine OG.yield (Yield.move rfl) rfl ?_
          refine OG.yield (Yield.as (Yield.buildArr0 Try.underlying79 ti79 ti5) (v' := vB zs) z_zs) rfl ?_
          refine OG.eff (Eff.mapUpdate vi vB Try.underlying71 keyInt (page : Int) zs rfl rfl rfl (by repeat (first | exact Foc.here | apply Foc.there))) rfl ?_
          rintro ⟨⟩ -
          refine OG.nil ?_
          refine QG.block_normal ?_
          refine QG.block_normal ?_
          refine QG.then ?_
          refine CG.region ?_
          refine OG.yield (Yield.move rfl) rfl ?_
          refine OG.yield (Yield.add rfl rfl (w64 (by omega) (by omega))) rfl ?_
          refine OG.yield (Yield.assign rfl) rfl ?_
          refine OG.nil ?_
          exact QG.next (i + 1, _, _, σ2) ⟨by omega, by omega, L2.mono (by omega), K.step hx (hKk.set (by omega) (by simp)), by rw [List.length_set]; exact hz3⟩ (by simp only; omega) (by repeat (first | exact Env.sub_nil _ | refine Env.sub_cons rfl ?_)) (Imp.trans (B := GO1 W z sbb so b5 k e zl rk (mset l (page : Int) zs) σ2) (by repeat (first | exact Imp.refl _ | exact Imp.none _ | apply Imp.pull (by repeat (first | exact Ext.here | apply Ext.there)) | apply Imp.trans Imp.drop)) (put _ σ2))
      · try replace hc := of_decide_eq_false hc
        refine CG.seq ?_
        refine CG.region ?_
        refine OG.yield (by first | exact Yield.as (Yield.eql rfl rfl) (bT (by omega)) | exact Yield.as (Yield.eql rfl rfl) (bF (by omega)) | exact Yield.eql rfl rfl) rfl ?_
        refine OG.yield (Yield.assign rfl) rfl ?_
        refine OG.nil ?_
        refine QG.then ?_
        refine CG.cond rfl (fun hc => ?_) (fun hc => ?_)
        · try replace hc := of_decide_eq_true hc
          refine CG.seq ?_
          refine CG.seq ?_
          rcases unmap_two o k (page : Int) with ⟨hm, hm2, hvn⟩ | ⟨q, x, hq1, hq4, hxx, hem⟩
          · skip
            rw [vI_nat (show page < 4096 by omega)] at hvn
            refine CG.region ?_
            refine OG.yield (Yield.move rfl) rfl ?_
            refine OG.yield (Yield.nilCheck rfl) rfl ?_
            refine OG.yield (Yield.fieldAddr fa70_3 rfl) rfl ?_
            refine OG.yield (Yield.load ti66 rfl (by first | exact Cel.of_blk (by repeat (first | exact Ext.here | apply Ext.there)) rfl | exact (hrow (by repeat (first | exact Ext.here | apply Ext.there))) _ _ rfl)) rfl ?_
            refine OG.yield (Yield.move rfl) rfl ?_
            refine OG.yield (Yield.index_slice Try.underlying66 ti81 rfl rfl (by omega) (by omega)) rfl ?_
            refine OG.yield (Yield.load (v := .pointer (some ⟨e.s, 0, none⟩)) ti81 rfl (by rw [show so + (k : Int).toNat * 1 = so + k by omega]; exact (SlR.of_osl (W0 := W) (a := some ⟨sbb, so, none⟩) (by repeat (first | exact Ext.here | apply Ext.there))).cel (i := k) hes)) rfl ?_
            refine OG.yield (Yield.move rfl) rfl ?_
            refine OG.callo call26 rfl ((by repeat (first | exact Imp.refl _ | exact Imp.none _ | apply Imp.pull (by repeat (first | exact Ext.here | apply Ext.there)) | apply Imp.trans Imp.drop))) (unmap_spec W _ (s := e.s) (m := z.m) (f := z.f) (t := z.t) (k := k) (r := e.r) L (qk := 10) (hqk k hk3) hrt (page : Int)) rfl ?_
            rintro σ2 L2
            refine OG.yield (Yield.as (Yield.eql rfl rfl) (v' := .bool false) (bF hm)) rfl ?_
            refine OG.yield (Yield.move rfl) rfl ?_
            refine OG.yield (Yield.as (Yield.bool_neq Try.underlying4 rfl rfl) (v' := .bool false) (by rw [hvn]; rfl)) rfl ?_
            refine OG.nil ?_
            refine QG.then ?_
            refine CG.cond_f rfl ?_
            refine CG.skip ?_
            refine QG.then ?_
            refine CG.region ?_
            refine OG.yield (Yield.move rfl) rfl ?_
            refine OG.yield (Yield.index_array Try.underlying72 ti71 rfl rfl (by omega) (by omega)) rfl ?_
            refine OG.yield (Yield.load (v := .map (some rk)) ti71 rfl (by rw [show 0 + (k : Int).toNat * 1 = k by omega]; exact Cel.of_blk (b := b5) (by repeat (first | exact Ext.here | apply Ext.there)) hms')) rfl ?_
            refine OG.yield (Yield.move rfl) rfl ?_
            refine OG.eff (Eff.mapDelete vi vB rfl Try.underlying71 keyInt (page : Int) rfl rfl (by repeat (first | exact Foc.here | apply Foc.there))) rfl ?_
            rintro ⟨⟩ -
            refine OG.nil ?_
            refine QG.block_normal ?_
            refine QG.block_normal ?_
            refine QG.then ?_
            refine CG.region ?_
            refine OG.yield (Yield.move rfl) rfl ?_
            refine OG.yield (Yield.add rfl rfl (w64 (by omega) (by omega))) rfl ?_
            refine OG.yield (Yield.assign rfl) rfl ?_
            refine OG.nil ?_
            rw [mdel_none (by rw [hKk.has, vI_nat (show page < 4096 by omega), hvn]; rfl)]
            exact QG.next (i + 1, o, zl, σ2) ⟨by omega, by omega, (hm2 ▸ L2).mono (by omega), K, hz3⟩ (by simp only; omega) (by repeat (first | exact Env.sub_nil _ | refine Env.sub_cons rfl ?_)) (Imp.trans (B := GO1 W z sbb so b5 k e zl rk l σ2) (by repeat (first | exact Imp.refl _ | exact Imp.none _ | apply Imp.pull (by repeat (first | exact Ext.here | apply Ext.there)) | apply Imp.trans Imp.drop)) (put0 σ2))
          · skip
            obtain rfl : page = q := by omega
            refine CG.region ?_
            refine OG.yield (Yield.move rfl) rfl ?_
            refine OG.yield (Yield.nilCheck rfl) rfl ?_
            refine OG.yield (Yield.fieldAddr fa70_3 rfl) rfl ?_
            refine OG.yield (Yield.load ti66 rfl (by first | exact Cel.of_blk (by repeat (first | exact Ext.here | apply Ext.there)) rfl | exact (hrow (by repeat (first | exact Ext.here | apply Ext.there))) _ _ rfl)) rfl ?_
            refine OG.yield (Yield.move rfl) rfl ?_
            refine OG.yield (Yield.index_slice Try.underlying66 ti81 rfl rfl (by omega) (by omega)) rfl ?_
            refine OG.yield (Yield.load (v := .pointer (some ⟨e.s, 0, none⟩)) ti81 rfl (by rw [show so + (k : Int).toNat * 1 = so + k by omega]; exact (SlR.of_osl (W0 := W) (a := some ⟨sbb, so, none⟩) (by repeat (first | exact Ext.here | apply Ext.there))).cel (i := k) hes)) rfl ?_
            refine OG.yield (Yield.move rfl) rfl ?_
            refine OG.callo call26 rfl ((by repeat (first | exact Imp.refl _ | exact Imp.none _ | apply Imp.pull (by repeat (first | exact Ext.here | apply Ext.there)) | apply Imp.trans Imp.drop))) (unmap_spec W _ (s := e.s) (m := z.m) (f := z.f) (t := z.t) (k := k) (r := e.r) L (qk := 10) (hqk k hk3) hrt (page : Int)) rfl ?_
            rintro σ2 L2
            refine OG.yield (Yield.as (Yield.eql rfl rfl) (v' := .bool true) (by rw [hem]; rfl)) rfl ?_
            refine OG.yield (Yield.move rfl) rfl ?_
            refine OG.yield (Yield.as (Yield.bool_neq Try.underlying4 rfl rfl) (v' := .bool false) (by rw [hxx]; rfl)) rfl ?_
            refine OG.nil ?_
            refine QG.then ?_
            refine CG.cond_f rfl ?_
            refine CG.skip ?_
            refine QG.then ?_
            refine CG.region ?_
            refine OG.yield (Yield.move rfl) rfl ?_
            refine OG.yield (Yield.index_array Try.underlying72 ti71 rfl rfl (by omega) (by omega)) rfl ?_
            refine OG.yield (Yield.load (v := .map (some rk)) ti71 rfl (by rw [show 0 + (k : Int).toNat * 1 = k by omega]; exact Cel.of_blk (b := b5) (by repeat (first | exact Ext.here | apply Ext.there)) hms')) rfl ?_
            refine OG.yield (Yield.move rfl) rfl ?_
            refine OG.eff (Eff.mapDelete vi vB rfl Try.underlying71 keyInt (page : Int) rfl rfl (by repeat (first | exact Foc.here | apply Foc.there))) rfl ?_
            rintro ⟨⟩ -
            refine OG.nil ?_
            refine QG.block_normal ?_
            refine QG.block_normal ?_
            refine QG.then ?_
            refine CG.region ?_
            refine OG.yield (Yield.move rfl) rfl ?_
            refine OG.yield (Yield.add rfl rfl (w64 (by omega) (by omega))) rfl ?_
            refine OG.yield (Yield.assign rfl) rfl ?_
            refine OG.nil ?_
            rw [hem] at L2
            exact QG.next (i + 1, _, _, σ2) ⟨by omega, by omega, L2.mono (by omega), K.step hx (hKk.del (by omega) hxx), by rw [List.length_set]; exact hz3⟩ (by simp only; omega) (by repeat (first | exact Env.sub_nil _ | refine Env.sub_cons rfl ?_)) (Imp.trans (B := GO1 W z sbb so b5 k e zl rk (mdel l (page : Int)) σ2) (by repeat (first | exact Imp.refl _ | exact Imp.none _ | apply Imp.pull (by repeat (first | exact Ext.here | apply Ext.there)) | apply Imp.trans Imp.drop)) (put _ σ2))
        · try replace hc := of_decide_eq_false hc
          refine CG.seq ?_
          refine CG.region ?_
          refine OG.yield (by first | exact Yield.as (Yield.eql rfl rfl) (bT (by omega)) | exact Yield.as (Yield.eql rfl rfl) (bF (by omega)) | exact Yield.eql rfl rfl) rfl ?_
          refine OG.yield (Yield.assign rfl) rfl ?_
          refine OG.nil ?_
          refine QG.then ?_
          refine CG.cond rfl (fun hc => ?_) (fun hc => ?_)
          · try replace hc := of_decide_eq_true hc
            refine CG.seq ?_
            refine CG.draw (.look 0 1 (.look 1 1 (.look 2 1 (.look 3 1 (.look 4 1 (.look 5 1 (.look 6 1 (.look 7 1 (.look 8 1 (.look 9 1 (.look 10 1 (.look 11 1 (.look 12 1 (.look 13 1 (.eff1 14 false (.look 15 1 (.done))))))))))))))))) [14] [] ([]) ([]) mixed (by kernel_rfl) (Imp.none _) (Imp.none _) ?_
            refine DG.look rfl rfl (Yield.move rfl) rfl ?_
            refine DG.look rfl rfl (Yield.nilCheck rfl) rfl ?_
            refine DG.look rfl rfl (Yield.fieldAddr fa70_3 rfl) rfl ?_
            refine DG.look rfl rfl (Yield.load ti66 rfl (by first | exact Cel.of_blk (by repeat (first | exact Ext.here | apply Ext.there)) rfl | exact (hrow (by repeat (first | exact Ext.here | apply Ext.there))) _ _ rfl)) rfl ?_
            refine DG.look rfl rfl (Yield.move rfl) rfl ?_
            refine DG.look rfl rfl (Yield.index_slice Try.underlying66 ti81 rfl rfl (by omega) (by omega)) rfl ?_
            refine DG.look rfl rfl (Yield.load (v := .pointer (some ⟨e.s, 0, none⟩)) ti81 rfl (by rw [show so + (k : Int).toNat * 1 = so + k by omega]; exact (SlR.of_osl (W0 := W) (a := some ⟨sbb, so, none⟩) (by repeat (first | exact Ext.here | apply Ext.there))).cel (i := k) hes)) rfl ?_
            refine DG.look rfl rfl (Yield.move rfl) rfl ?_
            refine DG.look rfl rfl (Yield.mul rfl rfl (w64 (by omega) (by omega))) rfl ?_
            refine DG.look rfl rfl (Yield.move rfl) rfl ?_
            refine DG.look rfl rfl (Yield.add rfl rfl (w64 (by omega) (by omega))) rfl ?_
            refine DG.look rfl rfl (Yield.conv (c := ((page * 256 + at' : Nat) : Int)) Try.underlying32 rfl rfl (by rw [show (page : Int) * 256 + (at' : Int) = ((page * 256 + at' : Nat) : Int) by omega]; exact wu32 (by omega) (by omega))) rfl ?_
            refine DG.look rfl rfl (Yield.fieldAddr fa78_6 rfl) rfl ?_
            refine DG.look rfl rfl (Yield.as (Yield.load (v := .int .u64 op.V) ti29 rfl (Cel.of_blk (by repeat (first | exact Ext.here | apply Ext.there)) rfl)) (v' := .int .u64 v) (by rw [hv])) rfl ?_
            refine DG.eff1 ?_
            refine Chg.callo rfl rfl call27 rfl ((by repeat (first | exact Imp.refl _ | exact Imp.none _ | apply Imp.pull (by repeat (first | exact Ext.here | apply Ext.there)) | apply Imp.trans Imp.drop))) (write_spec W _ (s := e.s) (m := z.m) (f := z.f) (t := z.t) (k := k) (r := e.r) L hrt (by omega) (ad := page * 256 + at') (v := v) (by omega) (by omega) 1) rfl (fun _ => (by repeat (first | exact Imp.refl _ | exact Imp.none _ | apply Imp.pull (by repeat (first | exact Ext.here | apply Ext.there)) | apply Imp.trans Imp.drop))) (fun _ => Imp.refl _) (fun _ => (by repeat (first | exact Imp.refl _ | exact Imp.none _ | apply Imp.pull (by repeat (first | exact Ext.here | apply Ext.there)) | apply Imp.trans Imp.drop))) ?_
            rintro σ2 L2
            refine DG.look rfl rfl (Yield.assign rfl) rfl ?_
            refine DG.done ?_
            refine QG.then ?_
            refine CG.seq ?_
            refine CG.seq ?_
            rcases write_one (v := v) hKk hp6 hat with ⟨hxx, hem⟩ | ⟨bb, hxx, hbl, hem⟩
            · skip
              refine CG.region ?_
              refine OG.yield (Yield.move rfl) rfl ?_
              refine OG.yield (Yield.as (Yield.eql rfl rfl) (v' := .bool false) (by rw [hem]; rfl)) rfl ?_
              refine OG.yield (Yield.move rfl) rfl ?_
              refine OG.yield (Yield.as (Yield.bool_neq Try.underlying4 rfl rfl) (v' := .bool false) (by rw [hxx]; rfl)) rfl ?_
              refine OG.nil ?_
              refine QG.then ?_
              refine CG.cond_f rfl ?_
              refine CG.skip ?_
              refine QG.then ?_
              refine CG.seq ?_
              refine CG.region ?_
              refine OG.yield (Yield.as (Yield.move rfl) (v' := .bool false) (by rw [hxx]; rfl)) rfl ?_
              refine OG.nil ?_
              refine QG.then ?_
              refine CG.cond_f rfl ?_
              refine CG.skip ?_
              refine QG.block_normal ?_
              refine QG.block_normal ?_
              refine QG.then ?_
              refine CG.region ?_
              refine OG.yield (Yield.move rfl) rfl ?_
              refine OG.yield (Yield.add rfl rfl (w64 (by omega) (by omega))) rfl ?_
              refine OG.yield (Yield.assign rfl) rfl ?_
              refine OG.nil ?_
              rw [hem] at L2
              exact QG.next (i + 1, o, zl, σ2) ⟨by omega, by omega, L2, K, hz3⟩ (by simp only; omega) (by repeat (first | exact Env.sub_nil _ | refine Env.sub_cons rfl ?_)) (Imp.trans (B := GO1 W z sbb so b5 k e zl rk l σ2) (by repeat (first | exact Imp.refl _ | exact Imp.none _ | apply Imp.pull (by repeat (first | exact Ext.here | apply Ext.there)) | apply Imp.trans Imp.drop)) (put0 σ2))
            · skip
              refine CG.region ?_
              refine OG.yield (Yield.move rfl) rfl ?_
              refine OG.yield (Yield.as (Yield.eql rfl rfl) (v' := .bool true) (by rw [hem]; rfl)) rfl ?_
              refine OG.yield (Yield.move rfl) rfl ?_
              refine OG.yield (Yield.as (Yield.bool_neq Try.underlying4 rfl rfl) (v' := .bool false) (by rw [hxx]; rfl)) rfl ?_
              refine OG.nil ?_
              refine QG.then ?_
              refine CG.cond_f rfl ?_
              refine CG.skip ?_
              refine QG.then ?_
              refine CG.seq ?_
              refine CG.region ?_
              refine OG.yield (Yield.as (Yield.move rfl) (v' := .bool true) (by rw [hxx]; rfl)) rfl ?_
              refine OG.nil ?_
              refine QG.then ?_
              refine CG.cond_t rfl ?_
              refine CG.seq ?_
              obtain rfl := hcl3 _ hxx
              refine CG.region ?_
              refine OG.yield (Yield.move rfl) rfl ?_
              refine OG.yield (Yield.fieldAddr fa78_6 rfl) rfl ?_
              refine OG.yield (Yield.as (Yield.load (v := .int .u64 op.V) ti29 rfl (Cel.of_blk (by repeat (first | exact Ext.here | apply Ext.there)) rfl)) (v' := .int .u64 v) (by rw [hv])) rfl ?_
              refine OG.yield (Yield.conv (c := ((UInt8.ofNat v).toNat : Int)) Try.underlying5 rfl rfl (wrap_u8_nat _)) rfl ?_
              refine OG.yield (Yield.index_array Try.underlying79 ti5 rfl rfl (by omega) (by omega)) rfl ?_
              refine OG.eff (Eff.store1 (v := byteV (UInt8.ofNat v)) ti5 rfl rfl (by repeat (first | exact Foc.here | apply Foc.there)) rfl (by rw [bytesV_length, hcl2]; omega)) rfl ?_
              rintro ⟨⟩ -
              rw [bytesV_set, show 0 + (at' : Int).toNat * 1 = at' by omega]
              refine OG.nil ?_
              refine QG.then ?_
              refine CG.draw (.look 0 1 (.look 1 1 (.look 2 1 (.look 3 1 (.look 4 1 (.eff1 5 false (.done))))))) [5] [] ([]) ([]) mixed (by kernel_rfl) (Imp.none _) (Imp.none _) ?_
              refine DG.look rfl rfl (Yield.move rfl) rfl ?_
              refine DG.look rfl rfl (Yield.index_array Try.underlying72 ti71 rfl rfl (by omega) (by omega)) rfl ?_
              refine DG.look rfl rfl (Yield.load (v := .map (some rk)) ti71 rfl (by rw [show 0 + (k : Int).toNat * 1 = k by omega]; exact Cel.of_blk (b := b5) (by repeat (first | exact Ext.here | apply Ext.there)) hms')) rfl ?_
              refine DG.look rfl rfl (Yield.move rfl) rfl ?_
              refine DG.look rfl rfl (Yield.load_agg (vs := bytesV (cl.set at' (UInt8.ofNat v))) ti79 rfl (by rw [bytesV_length, List.length_set, hcl2]) (Row.of_blk (by repeat (first | exact Ext.here | apply Ext.there)) (by simp))) rfl ?_
              refine DG.eff1 ?_
              refine Chg.eff rfl rfl (Eff.mapUpdate vi vB Try.underlying71 keyInt (page : Int) (cl.set at' (UInt8.ofNat v)) rfl rfl rfl (by repeat (first | exact Foc.here | apply Foc.there))) rfl (fun _ => (by repeat (first | exact Imp.refl _ | exact Imp.none _ | apply Imp.pull (by repeat (first | exact Ext.here | apply Ext.there)) | apply Imp.trans Imp.drop))) (fun _ => Imp.refl _) (fun _ => (by repeat (first | exact Imp.refl _ | exact Imp.none _ | apply Imp.pull (by repeat (first | exact Ext.here | apply Ext.there)) | apply Imp.trans Imp.drop))) ?_
              rintro ⟨⟩ -
              refine DG.done ?_
              refine QG.block_normal ?_
              refine QG.block_normal ?_
              refine QG.then ?_
              refine CG.region ?_
              refine OG.yield (Yield.move rfl) rfl ?_
              refine OG.yield (Yield.add rfl rfl (w64 (by omega) (by omega))) rfl ?_
              refine OG.yield (Yield.assign rfl) rfl ?_
              refine OG.nil ?_
              rw [hem] at L2
              exact QG.next (i + 1, _, _, σ2) ⟨by omega, by omega, L2, K.step hx (hKk.set (by omega) (by rw [List.length_set]; exact hcl2)), by rw [List.length_set]; exact hz3⟩ (by simp only; omega) (by repeat (first | exact Env.sub_nil _ | refine Env.sub_cons rfl ?_)) (Imp.trans (B := GO1 W z sbb so b5 k e zl rk (mset l (page : Int) (cl.set at' (UInt8.ofNat v))) σ2) (by repeat (first | exact Imp.refl _ | exact Imp.none _ | apply Imp.pull (by repeat (first | exact Ext.here | apply Ext.there)) | apply Imp.trans Imp.drop)) (put _ σ2))
          · try replace hc := of_decide_eq_false hc
            refine CG.seq ?_
            refine CG.region ?_
            refine OG.yield (Yield.move rfl) rfl ?_
            refine OG.yield (Yield.nilCheck rfl) rfl ?_
            refine OG.yield (Yield.fieldAddr fa70_3 rfl) rfl ?_
            refine OG.yield (Yield.load ti66 rfl (by first | exact Cel.of_blk (by repeat (first | exact Ext.here | apply Ext.there)) rfl | exact (hrow (by repeat (first | exact Ext.here | apply Ext.there))) _ _ rfl)) rfl ?_
            refine OG.yield (Yield.move rfl) rfl ?_
            refine OG.yield (Yield.index_slice Try.underlying66 ti81 rfl rfl (by omega) (by omega)) rfl ?_
            refine OG.yield (Yield.load (v := .pointer (some ⟨e.s, 0, none⟩)) ti81 rfl (by rw [show so + (k : Int).toNat * 1 = so + k by omega]; exact (SlR.of_osl (W0 := W) (a := some ⟨sbb, so, none⟩) (by repeat (first | exact Ext.here | apply Ext.there))).cel (i := k) hes)) rfl ?_
            refine OG.yield (Yield.move rfl) rfl ?_
            refine OG.yield (Yield.mul rfl rfl (w64 (by omega) (by omega))) rfl ?_
            refine OG.yield (Yield.move rfl) rfl ?_
            refine OG.yield (Yield.add rfl rfl (w64 (by omega) (by omega))) rfl ?_
            refine OG.yield (Yield.conv (c := ((page * 256 + at' : Nat) : Int)) Try.underlying32 rfl rfl (by rw [show (page : Int) * 256 + (at' : Int) = ((page * 256 + at' : Nat) : Int) by omega]; exact wu32 (by omega) (by omega))) rfl ?_
            refine OG.callo call28 rfl ((by repeat (first | exact Imp.refl _ | exact Imp.none _ | apply Imp.pull (by repeat (first | exact Ext.here | apply Ext.there)) | apply Imp.trans Imp.drop))) (read_spec W _ (s := e.s) (m := z.m) (f := z.f) (t := z.t) (k := k) (r := e.r) L hrt (by omega) (ad := page * 256 + at') (by omega) 1 1) rfl ?_
            rintro σ2 L2
            refine OG.yield (Yield.move rfl) rfl ?_
            refine OG.yield (Yield.extract rfl rfl) rfl ?_
            refine OG.yield (Yield.extract rfl rfl) rfl ?_
            refine OG.yield (Yield.assign rfl) rfl ?_
            refine OG.yield (Yield.assign rfl) rfl ?_
            refine OG.nil ?_
            refine QG.then ?_
            refine CG.seq ?_
            rcases read_one hKk hp6 hat with ⟨hxx, hem⟩ | ⟨bb, x8, hxx, hbl, hb8, hem⟩
            · skip
              refine CG.region ?_
              refine OG.yield (Yield.move rfl) rfl ?_
              refine OG.yield (Yield.as (Yield.eql rfl rfl) (v' := .bool false) (by rw [hem]; rfl)) rfl ?_
              refine OG.yield (Yield.move rfl) rfl ?_
              refine OG.yield (Yield.as (Yield.bool_neq Try.underlying4 rfl rfl) (v' := .bool false) (by rw [hxx]; rfl)) rfl ?_
              refine OG.yield (Yield.move rfl) rfl ?_
              refine OG.guard_yes rfl rfl rfl (by decide) ?_
              refine OG.yield (Yield.as (Yield.move rfl) (v' := .bool false) (by rw [hxx]; rfl)) rfl ?_
              refine OG.guard_yes rfl rfl rfl (by decide) ?_
              refine OG.yield (Yield.move rfl) rfl ?_
              refine OG.guard_no rfl rfl rfl rfl rfl (by decide) (by decide) ?_
              refine OG.guard_no rfl rfl rfl rfl rfl (by decide) (by decide) ?_
              refine OG.guard_no rfl rfl rfl rfl rfl (by decide) (by decide) ?_
              refine OG.guard_no rfl rfl rfl rfl rfl (by decide) (by decide) ?_
              refine OG.guard_no rfl rfl rfl rfl rfl (by decide) (by decide) ?_
              refine OG.guard_no rfl rfl rfl rfl rfl (by decide) (by decide) ?_
              refine OG.guard_yes rfl rfl rfl (by decide) ?_
              refine OG.yield (by first | exact Yield.pick_t rfl rfl | exact Yield.pick_f rfl rfl | exact Yield.pick rfl (fun _ => rfl) (fun _ => rfl)) rfl ?_
              refine OG.yield (by first | exact Yield.pick_t rfl rfl | exact Yield.pick_f rfl rfl | exact Yield.pick rfl (fun _ => rfl) (fun _ => rfl)) rfl ?_
              refine OG.nil ?_
              refine QG.then ?_
              refine CG.cond_f rfl ?_
              refine CG.skip ?_
              refine QG.block_normal ?_
              refine QG.block_normal ?_
              refine QG.then ?_
              refine CG.region ?_
              refine OG.yield (Yield.move rfl) rfl ?_
              refine OG.yield (Yield.add rfl rfl (w64 (by omega) (by omega))) rfl ?_
              refine OG.yield (Yield.assign rfl) rfl ?_
              refine OG.nil ?_
              exact QG.next (i + 1, o, zl, σ2) ⟨by omega, by omega, L2, K, hz3⟩ (by simp only; omega) (by repeat (first | exact Env.sub_nil _ | refine Env.sub_cons rfl ?_)) (Imp.trans (B := GO1 W z sbb so b5 k e zl rk l σ2) (by repeat (first | exact Imp.refl _ | exact Imp.none _ | apply Imp.pull (by repeat (first | exact Ext.here | apply Ext.there)) | apply Imp.trans Imp.drop)) (put0 σ2))
            · skip
              obtain rfl := hcl3 _ hxx
              refine CG.region ?_
              refine OG.yield (Yield.move rfl) rfl ?_
              refine OG.yield (Yield.as (Yield.eql rfl rfl) (v' := .bool true) (by rw [hem]; rfl)) rfl ?_
              refine OG.yield (Yield.move rfl) rfl ?_
              refine OG.yield (Yield.as (Yield.bool_neq Try.underlying4 rfl rfl) (v' := .bool false) (by rw [hxx]; rfl)) rfl ?_
              refine OG.yield (Yield.move rfl) rfl ?_
              refine OG.guard_yes rfl rfl rfl (by decide) ?_
              refine OG.yield (Yield.as (Yield.move rfl) (v' := .bool true) (by rw [hxx]; rfl)) rfl ?_
              refine OG.guard_yes rfl rfl rfl (by decide) ?_
              refine OG.yield (Yield.move rfl) rfl ?_
              refine OG.guard_yes rfl rfl rfl (by decide) ?_
              refine OG.yield (Yield.as (Yield.move rfl) (v' := .int .u64 x8.toNat) (by rw [hem]; rfl)) rfl ?_
              refine OG.guard_yes rfl rfl rfl (by decide) ?_
              refine OG.yield (Yield.conv (c := (x8.toNat : Int)) Try.underlying5 rfl rfl (byte_back x8)) rfl ?_
              refine OG.guard_yes rfl rfl rfl (by decide) ?_
              refine OG.yield (Yield.move rfl) rfl ?_
              refine OG.guard_yes rfl rfl rfl (by decide) ?_
              refine OG.yield (Yield.index_array Try.underlying79 ti5 rfl rfl (by omega) (by omega)) rfl ?_
              refine OG.guard_yes rfl rfl rfl (by decide) ?_
              refine OG.yield (Yield.load (v := byteV x8) ti5 rfl (by rw [show 0 + (at' : Int).toNat * 1 = at' by omega]; exact Cel.of_blk (b := b11) (by repeat (first | exact Ext.here | apply Ext.there)) (bytesV_get hb8))) rfl ?_
              refine OG.guard_yes rfl rfl rfl (by decide) ?_
              refine OG.yield (Yield.as (Yield.neq rfl rfl) (v' := .bool false) (by simp)) rfl ?_
              refine OG.guard_yes rfl rfl rfl (by decide) ?_
              refine OG.yield (by first | exact Yield.pick_t rfl rfl | exact Yield.pick_f rfl rfl | exact Yield.pick rfl (fun _ => rfl) (fun _ => rfl)) rfl ?_
              refine OG.yield (by first | exact Yield.pick_t rfl rfl | exact Yield.pick_f rfl rfl | exact Yield.pick rfl (fun _ => rfl) (fun _ => rfl)) rfl ?_
              refine OG.nil ?_
              refine QG.then ?_
              refine CG.cond_f rfl ?_
              refine CG.skip ?_
              refine QG.block_normal ?_
              refine QG.block_normal ?_
              refine QG.then ?_
              refine CG.region ?_
              refine OG.yield (Yield.move rfl) rfl ?_
              refine OG.yield (Yield.add rfl rfl (w64 (by omega) (by omega))) rfl ?_
              refine OG.yield (Yield.assign rfl) rfl ?_
              refine OG.nil ?_
              exact QG.next (i + 1, o, zl, σ2) ⟨by omega, by omega, L2, K, hz3⟩ (by simp only; omega) (by repeat (first | exact Env.sub_nil _ | refine Env.sub_cons rfl ?_)) (Imp.trans (B := GO1 W z sbb so b5 k e zl rk l σ2) (by repeat (first | exact Imp.refl _ | exact Imp.none _ | apply Imp.pull (by repeat (first | exact Ext.here | apply Ext.there)) | apply Imp.trans Imp.drop)) (put0 σ2))
    · skip
      refine CG.region ?_
      refine OG.yield (Yield.move rfl) rfl ?_
      refine OG.yield (Yield.move rfl) rfl ?_
      refine OG.yield (Yield.len_slice Try.underlying59 rfl rfl) rfl ?_
      refine OG.yield (by first | exact Yield.as (Yield.lss rfl rfl) (bT (by omega)) | exact Yield.as (Yield.lss rfl rfl) (bF (by omega)) | exact Yield.lss rfl rfl) rfl ?_
      refine OG.yield (Yield.move rfl) rfl ?_
      refine OG.guard_yes rfl rfl rfl (by decide) ?_
      refine OG.yield (Yield.move rfl) rfl ?_
      refine OG.guard_yes rfl rfl rfl (by decide) ?_
      refine OG.yield (by first | exact Yield.as (Yield.lss rfl rfl) (bT (by omega)) | exact Yield.as (Yield.lss rfl rfl) (bF (by omega)) | exact Yield.lss rfl rfl) rfl ?_
      refine OG.yield (by first | exact Yield.pick_t rfl rfl | exact Yield.pick_f rfl rfl | exact Yield.pick rfl (fun _ => rfl) (fun _ => rfl)) rfl ?_
      refine OG.nil ?_
      refine QG.then ?_
      refine CG.cond_f rfl ?_
      refine CG.exit ?_
      refine QG.pass_exit ?_
      refine QG.pass_exit ?_
      refine QG.block_exit ?_
      exact QG.mid ((o, zl, σ), i) ⟨L, K, hz3⟩ (by repeat (first | exact Env.sub_nil _ | refine Env.sub_cons rfl ?_)) (by repeat (first | exact Imp.refl _ | exact Imp.none _ | apply Imp.pull (by repeat (first | exact Ext.here | apply Ext.there)) | apply Imp.trans Imp.drop))
    · skip
      refine CG.region ?_
      refine OG.yield (Yield.move rfl) rfl ?_
      refine OG.yield (Yield.move rfl) rfl ?_
      refine OG.yield (Yield.len_slice Try.underlying59 rfl rfl) rfl ?_
      refine OG.yield (by first | exact Yield.as (Yield.lss rfl rfl) (bT (by omega)) | exact Yield.as (Yield.lss rfl rfl) (bF (by omega)) | exact Yield.lss rfl rfl) rfl ?_
      refine OG.yield (Yield.move rfl) rfl ?_
      refine OG.guard_no rfl rfl rfl rfl rfl (by decide) (by decide) ?_
      refine OG.guard_no rfl rfl rfl rfl rfl (by decide) (by decide) ?_
      refine OG.yield (by first | exact Yield.pick_t rfl rfl | exact Yield.pick_f rfl rfl | exact Yield.pick rfl (fun _ => rfl) (fun _ => rfl)) rfl ?_
      refine OG.nil ?_
      refine QG.then ?_
      refine CG.cond_f rfl ?_
      refine CG.exit ?_
      refine QG.pass_exit ?_
      refine QG.pass_exit ?_
      refine QG.block_exit ?_
      exact QG.mid ((o, zl, σ), i) ⟨L, K, hz3⟩ (by repeat (first | exact Env.sub_nil _ | refine Env.sub_cons rfl ?_)) (by repeat (first | exact Imp.refl _ | exact Imp.none _ | apply Imp.pull (by repeat (first | exact Ext.here | apply Ext.there)) | apply Imp.trans Imp.drop))
  rintro ⟨⟨o, zl, σ⟩, i⟩ ⟨L, K, hz3⟩
  dsimp only at L K hz3 ⊢
  refine CG.seq ?_
  refine CG.seq ?_
  refine CG.region ?_
  refine OG.yield (Yield.assign rfl) rfl ?_
  refine OG.nil ?_
  refine QG.then ?_
  refine CG.block ?_
  refine CG.loop (fun k : Nat => k ≤ 3) (fun k => [(3, .pointer (some ⟨z.bx, 0, none⟩)), (5, .pointer (some ⟨b5, 0, none⟩)), (16, .int .i64 k)]) (fun k => GO W z sbb so b5 zl σ) (fun k => 3 - k) 0 (Nat.zero_le _) (by repeat (first | exact Env.sub_nil _ | refine Env.sub_cons rfl ?_)) (by repeat (first | exact Imp.refl _ | exact Imp.none _ | apply Imp.pull (by repeat (first | exact Ext.here | apply Ext.there)) | apply Imp.trans Imp.drop)) ?_
  intro k hk
  refine CG.seq ?_
  refine CG.seq ?_
  refine CG.region ?_
  refine OG.yield (Yield.move rfl) rfl ?_
  refine OG.yield (by first | exact Yield.as (Yield.lss rfl rfl) (bT (by omega)) | exact Yield.as (Yield.lss rfl rfl) (bF (by omega)) | exact Yield.lss rfl rfl) rfl ?_
  refine OG.nil ?_
  refine QG.then ?_
  refine CG.cond rfl (fun hc => ?_) (fun hc => ?_)
  · try replace hc := of_decide_eq_true hc
    obtain ⟨e, he, hek, hrt⟩ := sl_three hsl3 (show k < 3 by omega)
    obtain ⟨⟨rk, l⟩, hx⟩ : ∃ x, zl[k]? = some x := ⟨_, List.getElem?_eq_getElem (by omega)⟩
    have hKk := K k _ hx
    dsimp only at hKk
    have hes : (ptrs (z.sl.map (·.s)))[k]? = some (.pointer (some ⟨e.s, 0, none⟩)) := by simp [ptrs, he]
    have hms' : (zl.map fun x => Value.map (some x.1))[k]? = some (.map (some rk)) := by rw [List.getElem?_map, hx]; rfl
    have put0 : Imp (GO1 W z sbb so b5 k e zl rk l σ) (GO W z sbb so b5 zl σ) := by have := go_put (W := W) (sbb := sbb) (so := so) (b5 := b5) (l := l) (σ := σ) he hek hx; rwa [Ms.set_self hx] at this
    refine CG.imp (G' := GO1 W z sbb so b5 k e zl rk l σ) (Imp.trans (B := GO W z sbb so b5 zl σ) (by repeat (first | exact Imp.refl _ | exact Imp.none _ | apply Imp.pull (by repeat (first | exact Ext.here | apply Ext.there)) | apply Imp.trans Imp.drop)) (go_take he hek hx)) ?_
    refine CG.skip ?_
    refine QG.then ?_
    refine CG.seq ?_
    refine CG.block ?_
    refine CG.seq ?_
    refine CG.region ?_
    refine OG.yield (Yield.move rfl) rfl ?_
    refine OG.yield (Yield.nilCheck rfl) rfl ?_
    refine OG.yield (Yield.fieldAddr fa70_3 rfl) rfl ?_
    refine OG.yield (Yield.load ti66 rfl (by first | exact Cel.of_blk (by repeat (first | exact Ext.here | apply Ext.there)) rfl | exact (hrow (by repeat (first | exact Ext.here | apply Ext.there))) _ _ rfl)) rfl ?_
    refine OG.yield (Yield.move rfl) rfl ?_
    refine OG.yield (Yield.index_slice Try.underlying66 ti81 rfl rfl (by omega) (by omega)) rfl ?_
    refine OG.yield (Yield.load (v := .pointer (some ⟨e.s, 0, none⟩)) ti81 rfl (by rw [show so + (k : Int).toNat * 1 = so + k by omega]; exact (SlR.of_osl (W0 := W) (a := some ⟨sbb, so, none⟩) (by repeat (first | exact Ext.here | apply Ext.there))).cel (i := k) hes)) rfl ?_
    refine OG.callo call29 rfl ((by repeat (first | exact Imp.refl _ | exact Imp.none _ | apply Imp.pull (by repeat (first | exact Ext.here | apply Ext.there)) | apply Imp.trans Imp.drop))) (pages_of W _ (s := e.s) (m := z.m) (f := z.f) (t := z.t) (k := k) (r := e.r) L hrt) rfl ?_
    rintro ⟨pa, pc, pl⟩ hpl
    dsimp only [List.cons_append, List.nil_append] at hpl ⊢
    have hpl2 : pl.length = l.length := by rw [← List.length_map (f := PV.v), hpl, pvTo_len, hKk.len]
    have hpl3 : pl.length ≤ 4096 := by rw [hpl2, hKk.len]; exact cN_le _ _
    refine OG.yield (Yield.assign rfl) rfl ?_
    refine OG.nil ?_
    refine QG.then ?_
    refine CG.seq ?_
    refine CG.seq ?_
    refine CG.region ?_
    refine OG.yield (Yield.move rfl) rfl ?_
    refine OG.yield (Yield.len_slice Try.underlying86 rfl rfl) rfl ?_
    refine OG.yield (Yield.move rfl) rfl ?_
    refine OG.yield (Yield.index_array Try.underlying72 ti71 rfl rfl (by omega) (by omega)) rfl ?_
    refine OG.yield (Yield.load (v := .map (some rk)) ti71 rfl (by rw [show 0 + (k : Int).toNat * 1 = k by omega]; exact Cel.of_blk (b := b5) (by repeat (first | exact Ext.here | apply Ext.there)) hms')) rfl ?_
    refine OG.yield (Yield.len_map (kf := vi) (vf := vB) (l := l) Try.underlying71 rfl rfl (by repeat (first | exact Ext.here | apply Ext.there))) rfl ?_
    refine OG.yield (by first | exact Yield.as (Yield.neq rfl rfl) (bT (by omega)) | exact Yield.as (Yield.neq rfl rfl) (bF (by omega)) | exact Yield.neq rfl rfl) rfl ?_
    refine OG.nil ?_
    refine QG.then ?_
    refine CG.cond_f rfl ?_
    refine CG.skip ?_
    refine QG.then ?_
    refine CG.seq ?_
    refine CG.region ?_
    refine OG.yield (Yield.assign rfl) rfl ?_
    refine OG.nil ?_
    refine QG.then ?_
    refine CG.block ?_
    refine CG.loop (fun j : Nat => j ≤ pl.length) (fun j => [(3, .pointer (some ⟨z.bx, 0, none⟩)), (5, .pointer (some ⟨b5, 0, none⟩)), (16, .int .i64 k), (17, .slice pa pl.length pc), (18, .int .i64 j)]) (fun j => osl 89 3 pa pc pl.length ((pl.map PV.cells).flatten) :: Star (pl.map fun x => oby 152 x.a x.c x.b) :: GO1 W z sbb so b5 k e zl rk l σ) (fun j => pl.length - j) 0 (Nat.zero_le _) (by repeat (first | exact Env.sub_nil _ | refine Env.sub_cons rfl ?_)) (by repeat (first | exact Imp.refl _ | exact Imp.none _ | apply Imp.pull (by repeat (first | exact Ext.here | apply Ext.there)) | apply Imp.trans Imp.drop)) ?_
    intro j hj
    refine CG.seq ?_
    refine CG.seq ?_
    refine CG.region ?_
    refine OG.yield (Yield.move rfl) rfl ?_
    refine OG.yield (Yield.move rfl) rfl ?_
    refine OG.yield (Yield.len_slice Try.underlying86 rfl rfl) rfl ?_
    refine OG.yield (by first | exact Yield.as (Yield.lss rfl rfl) (bT (by omega)) | exact Yield.as (Yield.lss rfl rfl) (bF (by omega)) | exact Yield.lss rfl rfl) rfl ?_
    refine OG.nil ?_
    refine QG.then ?_
    refine CG.cond rfl (fun hc => ?_) (fun hc => ?_)
    · try replace hc := of_decide_eq_true hc
      obtain ⟨y, hy⟩ : ∃ y, pl[j]? = some y := ⟨_, List.getElem?_eq_getElem (by omega)⟩
      have hym : y.v ∈ pvs o k := by rw [← hpl]; exact List.mem_map_of_mem (List.mem_of_getElem? hy)
      obtain ⟨hyp, hyv⟩ := pvTo_mem hym
      replace hyv : o.vw k y.p = some (y.pm, y.b) := hyv
      replace hyp : y.p < 4096 := hyp
      have hyl : y.b.length = 256 := (hKk.pm _ _ hyv).2
      have hyS : (pl.map fun x => oby 152 x.a x.c x.b)[j]? = some (oby 152 y.a y.c y.b) := by rw [List.getElem?_map, hy]; rfl
      refine CG.pure (fun w hw => SlR.elem_shape (W0 := W) (f := PV.cells) (xs := pl) (i := j) (SlR.of_osl (E := 89) (a := pa) (c := pc) (by repeat (first | exact Ext.here | apply Ext.there))) PV.len (by decide) (by omega) w hw) ?_
      rintro ⟨ol, oo, rfl⟩
      refine CG.skip ?_
      refine QG.then ?_
      refine CG.seq ?_
      refine CG.block ?_
      refine CG.seq ?_
      refine CG.draw (.look 0 0 (.look 1 0 (.look 2 0 (.look 3 0 (.look 4 0 (.look 5 0 (.look 6 0 (.look 7 0 (.look 8 0 (.look 9 0 (.look 10 0 (.look 11 0 (.eff1 12 false (.eff1 13 false (.look 14 1 (.done)))))))))))))))) [12, 13] [] _ ([]) mixed (by kernel_rfl) (Imp.refl _) (Imp.none _) ?_
      refine DG.look rfl rfl (Yield.move rfl) rfl ?_
      refine DG.look rfl rfl (Yield.index_array Try.underlying72 ti71 rfl rfl (by omega) (by omega)) rfl ?_
      refine DG.look rfl rfl (Yield.load (v := .map (some rk)) ti71 rfl (by rw [show 0 + (k : Int).toNat * 1 = k by omega]; exact Cel.of_blk (b := b5) (by repeat (first | exact Ext.here | apply Ext.there)) hms')) rfl ?_
      refine DG.look rfl rfl (Yield.move rfl) rfl ?_
      refine DG.look rfl rfl (Yield.move rfl) rfl ?_
      refine DG.look rfl rfl (Yield.index_slice Try.underlying86 ti89 rfl rfl (by omega) (by omega)) rfl ?_
      refine DG.look rfl rfl (Yield.fieldAddr fa89_0 rfl) rfl ?_
      refine DG.look rfl rfl (Yield.load (v := .int .i64 y.p) ti3 rfl (by rw [show oo + (j : Int).toNat * 3 = oo + j * 3 by omega]; exact (SlR.elem (f := PV.cells) (xs := pl) (i := j) (SlR.of_osl (W0 := W) (E := 89) (c := pc) (by repeat (first | exact Ext.here | apply Ext.there))) PV.len hy) 0 _ rfl)) rfl ?_
      refine DG.look rfl rfl (Yield.as (Yield.lookup vi vB (l := l) Try.underlying71 ti79 keyInt (y.p : Int) rfl rfl (by repeat (first | exact Ext.here | apply Ext.there))) (v' := .tuple #[vB y.b, .bool true]) (by rw [hKk.has, vI_nat hyp, hyv]; rfl)) rfl ?_
      refine DG.look rfl rfl (Yield.move rfl) rfl ?_
      refine DG.look rfl rfl (Yield.extract rfl rfl) rfl ?_
      refine DG.look rfl rfl (Yield.extract rfl rfl) rfl ?_
      refine DG.eff1 ?_
      refine Chg.eff rfl rfl (Eff.alloc ti79) rfl (fun _ => (by repeat (first | exact Imp.refl _ | exact Imp.none _ | apply Imp.pull (by repeat (first | exact Ext.here | apply Ext.there)) | apply Imp.trans Imp.drop))) (fun _ => Imp.refl _) (fun _ => (by repeat (first | exact Imp.refl _ | exact Imp.none _ | apply Imp.pull (by repeat (first | exact Ext.here | apply Ext.there)) | apply Imp.trans Imp.drop))) ?_
      rintro b19 -
      refine DG.eff1 ?_
      refine Chg.eff rfl rfl (Eff.storeAll (vs := bytesV y.b) ti79 rfl rfl (by repeat (first | exact Foc.here | apply Foc.there)) (by rw [bytesV_length, hyl]) bytesV_one (by simp [Value.cells, bytesV_length, hyl])) rfl (fun _ => (by repeat (first | exact Imp.refl _ | exact Imp.none _ | apply Imp.pull (by repeat (first | exact Ext.here | apply Ext.there)) | apply Imp.trans Imp.drop))) (fun _ => Imp.refl _) (fun _ => (by repeat (first | exact Imp.refl _ | exact Imp.none _ | apply Imp.pull (by repeat (first | exact Ext.here | apply Ext.there)) | apply Imp.trans Imp.drop))) ?_
      rintro ⟨⟩ -
      refine DG.look rfl rfl (Yield.assign rfl) rfl ?_
      refine DG.done ?_
      refine QG.then ?_
      refine CG.seq ?_
      refine CG.draw (.look 0 1 (.look 1 1 (.look 2 1 (.look 3 1 (.look 4 1 (.look 5 1 (.look 6 1 (.look 7 1 (.look 8 1 (.look 9 1 (.look 10 1 (.look 11 1 (.look 12 1 (.done)))))))))))))) [] [] ([]) ([]) mixed (by kernel_rfl) (Imp.none _) (Imp.none _) ?_
      refine DG.look rfl rfl (Yield.move rfl) rfl ?_
      refine DG.look rfl rfl (Yield.not rfl) rfl ?_
      refine DG.look rfl rfl (Yield.move rfl) rfl ?_
      refine DG.look rfl rfl (Yield.move rfl) rfl ?_
      refine DG.look rfl rfl (Yield.move rfl) rfl ?_
      refine DG.look rfl rfl (Yield.index_slice Try.underlying86 ti89 rfl rfl (by omega) (by omega)) rfl ?_
      refine DG.look rfl rfl (Yield.fieldAddr fa89_2 rfl) rfl ?_
      refine DG.look rfl rfl (Yield.load (v := .slice y.a y.b.length y.c) ti73 rfl (by rw [show oo + (j : Int).toNat * 3 = oo + j * 3 by omega]; exact (SlR.elem (f := PV.cells) (xs := pl) (i := j) (SlR.of_osl (W0 := W) (E := 89) (c := pc) (by repeat (first | exact Ext.here | apply Ext.there))) PV.len hy) 2 _ rfl)) rfl ?_
      refine DG.look rfl rfl (Yield.toStr (bs := y.b) Try.underlying73 Try.underlying9 Try.underlying5 rfl (SlR.imp (G' := [oby 152 y.a y.c y.b, Star ((pl.map fun x => oby 152 x.a x.c x.b).eraseIdx j)]) (SlR.of_osl (E := 152) (a := y.a) (by repeat (first | exact Ext.here | apply Ext.there))) (Imp.trans (B := [Star (pl.map fun x => oby 152 x.a x.c x.b)]) (by repeat (first | exact Imp.refl _ | exact Imp.none _ | apply Imp.pull (by repeat (first | exact Ext.here | apply Ext.there)) | apply Imp.trans Imp.drop)) (star_take hyS)))) rfl ?_
      refine DG.look rfl rfl (Yield.as (Yield.slice_arr Try.underlying79 ti5 rfl Bound.none Bound.none (by omega) (by omega) (by omega) (by omega)) (v' := .slice (some ⟨b19, 0, none⟩) 256 256) rfl) rfl ?_
      refine DG.look rfl rfl (Yield.toStr (bs := y.b) Try.underlying73 Try.underlying9 Try.underlying5 rfl (SlR.of_row (Row.of_blk (by repeat (first | exact Ext.here | apply Ext.there)) (by simp)) (by rw [bytesV_length, hyl]))) rfl ?_
      refine DG.look rfl rfl (by first | exact Yield.str_samen rfl rfl | exact Yield.str_neq rfl rfl) rfl ?_
      refine DG.look rfl rfl (by first | exact Yield.pick_t rfl rfl | exact Yield.pick_f rfl rfl | exact Yield.pick rfl (fun _ => rfl) (fun _ => rfl)) rfl ?_
      refine DG.done ?_
      refine QG.then ?_
      refine CG.cond_f rfl ?_
      refine CG.skip ?_
      refine QG.block_normal ?_
      refine QG.then ?_
      refine CG.region ?_
      refine OG.yield (Yield.move rfl) rfl ?_
      refine OG.yield (Yield.add rfl rfl (w64 (by omega) (by omega))) rfl ?_
      refine OG.yield (Yield.assign rfl) rfl ?_
      refine OG.nil ?_
      exact QG.next (j + 1) (by omega) (by first | omega | (simp only; omega)) (by repeat (first | exact Env.sub_nil _ | refine Env.sub_cons rfl ?_)) (by repeat (first | exact Imp.refl _ | exact Imp.none _ | apply Imp.pull (by repeat (first | exact Ext.here | apply Ext.there)) | apply Imp.trans Imp.drop))
    · try replace hc := of_decide_eq_false hc
      refine CG.exit ?_
      refine QG.pass_exit ?_
      refine QG.pass_exit ?_
      refine QG.block_exit ?_
      refine QG.block_normal ?_
      refine QG.then ?_
      refine CG.region ?_
      refine OG.yield (Yield.move rfl) rfl ?_
      refine OG.yield (Yield.add rfl rfl (w64 (by omega) (by omega))) rfl ?_
      refine OG.yield (Yield.assign rfl) rfl ?_
      refine OG.nil ?_
      exact QG.next (k + 1) (by omega) (by first | omega | (simp only; omega)) (by repeat (first | exact Env.sub_nil _ | refine Env.sub_cons rfl ?_)) (Imp.trans (B := GO1 W z sbb so b5 k e zl rk l σ) (by repeat (first | exact Imp.refl _ | exact Imp.none _ | apply Imp.pull (by repeat (first | exact Ext.here | apply Ext.there)) | apply Imp.trans Imp.drop)) put0)
  · try replace hc := of_decide_eq_false hc
    refine CG.exit ?_
    refine QG.pass_exit ?_
    refine QG.pass_exit ?_
    refine QG.block_exit ?_
    refine QG.then ?_
    refine CG.seq ?_
    refine CG.region ?_
    refine OG.yield (Yield.assign rfl) rfl ?_
    refine OG.nil ?_
    refine QG.then ?_
    refine CG.ret ?_
    exact QG.ret1 rfl rfl () trivial rfl (by repeat (first | exact Imp.refl _ | exact Imp.none _ | apply Imp.pull (by repeat (first | exact Ext.here | apply Ext.there)) | apply Imp.trans Imp.drop))
open Go.ChangeShapes Go.WideShapes Go.ChangeAt
theorem own : ownKnob Try.prog.godebug = none := by kernel_rfl
theorem laid : laidOutB Try.prog = true := by kernel_rfl
set_option maxRecDepth 100000 in
theorem lifted (os : Os) (started : os.Started) (H : Type) (enc : TypeId × Value → H) :
    ReturnsInHanded {} Try.checked os 6 .any (Rows.spaceOwnSpec.pre6 enc Try.prog Try.f6 Rows.spaceOwnRow.domain false) (Rows.spaceOwnSpec.post enc Try.prog Try.f6 false true false false) := by
  refine returnsInHanded_of_change_sized (C := Try.checked) own started (by kernel_rfl) Try.func6
    (ChangeSpec.witness6 (enc := enc) (C := Try.checked) false ⟨#[], #[.slice none 0 0], []⟩ 8 (by kernel_rfl) (by kernel_rfl) (by kernel_rfl) (by kernel_rfl)) ?_
  intro W base args ds gs before hval0 hW hcnd hsz0 _
  have hsz : (DataW.weightsEach Try.prog (Try.f6.params.toList ++ Rows.spaceOwnSpec.plain.varTypes Try.prog) (ds ++ gs)).all (· ≤ reachBytes) = true := hsz0
  have hval : ∀ (j : Nat) t v, Try.f6.params[j]? = some t → args[j]? = some v → Value.okWide Try.prog W .any base t v := hval0
  have hW' := hW
  obtain ⟨p, q, hA0, hV, rfl, hfz, hnd⟩ := hW
  have hA : DataW.TrodAll enc Try.prog W 0 (fun _ => true) true Try.f6.params.toList args.toList ds p := hA0
  rw [Try.params6] at hA hval hsz
  obtain ⟨v0, vs0, d0, ds0, p0, q0, hargs, rfl, rfl, h0, r0⟩ := trodAll_cons hA
  obtain ⟨rfl, rfl, rfl⟩ := trodAll_nil r0
  obtain rfl : args = #[v0] := by cases args; simp_all
  obtain ⟨rfl, rfl⟩ := trodVars_none hV
  have k0 := weights_le hsz 0 (t := 59) (d := d0) rfl rfl
  have s0 := Opn.param Try.underlying59 (SOp.list W) (hval 0 59 v0 rfl rfl) h0 k0
  obtain ⟨x0, c0, ops, e0, l0, ok0, s0, m0⟩ := s0
  cases e0
  clear hA0 hval0 hsz0 hsz
  refine ((walk W s0 ok0) W (Sat.start W)).mono fun e W' he => ?_
  obtain ⟨_, _, he, hs⟩ := he
  subst he
  exact ⟨_, rfl, law_post laid (params_ok (by kernel_rfl)) rfl Try.underlying4 hW' rfl rfl (Sat.below (by repeat (first | exact Ext.here | apply Ext.there)) hs)⟩
theorem over : Rows.spaceOwnRow.holds Try.pinned (OpenSpec.ofChange Rows.spaceOwnSpec) :=
  OpenClaim.holds_of_wide 6 Try.f6 rfl rfl rfl rfl rfl rfl rfl ⟨rfl, rfl, rfl, rfl, rfl⟩ rfl rfl rfl rfl rfl (by kernel_rfl) Try.func6 (by kernel_rfl)
    (of_decide_eq_true (by kernel_rfl)) (by unfold Func.isWrapper; first | (rw [if_pos (by decide +kernel)]; kernel_rfl) | (rw [if_neg (by decide +kernel)]; exact ⟨rfl, rfl⟩))
    (fun os started H enc _ => lifted os started H enc)
theorem proved : Rows.SpaceOwnSaid := over
#print axioms proved
end Go.Proofs.Ytmlfcfbblfcpdaa.spaceOwn
