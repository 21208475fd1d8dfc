/- SpaceTlb: nobody sees the TLB: the law returns true and changes nothing that was there. -/
import Derived.Test.YtmlfcfbblfcpdaaSte
import Derived.Test.YtmlfcfbblfcpdaaSsp
namespace Go.Proofs.Ytmlfcfbblfcpdaa.spaceTlb
open Go Go.Sl Go.RowKit Go.Proofs Go.Proofs.Ytmlfcfbblfcpdaa.T Go.Proofs.Ytmlfcfbblfcpdaa.Me Go.Proofs.Ytmlfcfbblfcpdaa.Pe Go.Proofs.Ytmlfcfbblfcpdaa.Pg Go.Proofs.Ytmlfcfbblfcpdaa.Sp
open Go.Proofs.Ytmlfcfbblfcpdaa.Fz (iv)
set_option linter.unusedVariables false
set_option linter.unusedSimpArgs false
set_option maxRecDepth 100000
/-- A world of one space. -/
structure TW where
  m : Nat
  f : Nat
  t : Nat
  s : Nat
  r : Nat
  σ : St
abbrev twG (x : TW) (Fr : List HProp) : List HProp := WG x.m x.f x.t 20 [14] x.σ (sb x.s 0 x.r x.m x.f x.t :: Fr)
abbrev twH (x : TW) : HProp := Star (twG x [])
abbrev LkT (o : Ob) (c : Nat) (x : TW) : Prop := Lk 20 [14] (fun k' => if k' = 0 then some x.r else none) o c x.σ
theorem tw_open {x : TW} {G : List HProp} : Imp (twH x :: G) (twG x G) := star_open
theorem tw_close {x : TW} {G : List HProp} : Imp (twG x G) (twH x :: G) := star_close (D := twG x [])
abbrev padP (g : TW → Nat) (xs : List TW) : List Value := (xs.map fun x => Value.pointer (some ⟨g x, 0, none⟩)) ++ List.replicate (3 - xs.length) (.pointer none)
theorem padP_set {g : TW → Nat} {xs : List TW} {x : TW} (h : xs.length < 3) : (padP g xs).set xs.length (.pointer (some ⟨g x, 0, none⟩)) = padP g (xs ++ [x]) := by
  unfold padP
  obtain ⟨d, hd⟩ : ∃ d, 3 - xs.length = d + 1 := ⟨3 - xs.length - 1, by omega⟩
  rw [hd, List.replicate_succ, List.set_append_right _ _ (by simp), List.length_map, Nat.sub_self, List.set_cons_zero, List.map_append, List.append_assoc, List.length_append]
  rw [show 3 - (xs.length + [x].length) = d by simp only [List.length_cons, List.length_nil]; omega]
  rfl
theorem padP_full {g : TW → Nat} {xs : List TW} (h : xs.length = 3) : padP g xs = xs.map fun x => Value.pointer (some ⟨g x, 0, none⟩) := by unfold padP; rw [h]; simp
abbrev o0 : Ob := ⟨fun _ _ => none, fun _ _ => false, 19⟩
/-- What lies in the memory. -/
abbrev GT (W : World) (b3 b4 : Nat) (xs : List TW) : List HProp := blk b3 (padP (·.s) xs) 93 :: blk b4 (padP (·.t) xs) 94 :: Star (xs.map twH) :: [old W]
def fstS (a : List UInt8) : Nat → ByteArray
  | 0 => strOf []
  | _ + 1 => strOf a
theorem pad_upd {g : TW → Nat} {xs : List TW} {k : Nat} {x y : TW} (hx : xs[k]? = some x) (h : g y = g x) : padP g (xs.set k y) = padP g xs := by
  unfold padP
  rw [List.length_set, List.map_set, h, Ms.set_self (by rw [List.getElem?_map, hx]; rfl)]
theorem gt_take {W : World} {b3 b4 k : Nat} {xs : List TW} {x : TW} (hx : xs[k]? = some x) : Imp (GT W b3 b4 xs) (twG x (old W :: Star ((xs.map twH).eraseIdx k) :: blk b3 (padP (·.s) xs) 93 :: blk b4 (padP (·.t) xs) 94 :: [])) := by
  refine Imp.trans (B := Star (xs.map twH) :: old W :: blk b3 (padP (·.s) xs) 93 :: blk b4 (padP (·.t) xs) 94 :: []) (by repeat (first | exact Imp.refl _ | exact Imp.none _ | apply Imp.pull (by repeat (first | exact Ext.here | apply Ext.there)) | apply Imp.trans Imp.drop)) ?_
  refine Imp.trans (star_take (i := k) (A := twH x) (by rw [List.getElem?_map, hx]; rfl)) ?_
  refine Imp.trans tw_open (by repeat (first | exact Imp.refl _ | exact Imp.none _ | apply Imp.pull (by repeat (first | exact Ext.here | apply Ext.there)) | apply Imp.trans Imp.drop))
theorem gt_put {W : World} {b3 b4 k : Nat} {xs : List TW} {x : TW} {σ' : St} (hx : xs[k]? = some x) : Imp (twG { x with σ := σ' } (old W :: Star ((xs.map twH).eraseIdx k) :: blk b3 (padP (·.s) xs) 93 :: blk b4 (padP (·.t) xs) 94 :: [])) (GT W b3 b4 (xs.set k { x with σ := σ' })) := by
  refine Imp.trans tw_close ?_
  refine Imp.trans (B := twH { x with σ := σ' } :: Star ((xs.map twH).eraseIdx k) :: old W :: blk b3 (padP (·.s) xs) 93 :: blk b4 (padP (·.t) xs) 94 :: []) (by repeat (first | exact Imp.refl _ | exact Imp.none _ | apply Imp.pull (by repeat (first | exact Ext.here | apply Ext.there)) | apply Imp.trans Imp.drop)) ?_
  refine Imp.trans (star_put (i := k) (A := twH x) (by rw [List.getElem?_map, hx]; rfl)) ?_
  dsimp only [GT]
  rw [pad_upd (g := (·.s)) (y := { x with σ := σ' }) hx rfl, pad_upd (g := (·.t)) (y := { x with σ := σ' }) hx rfl, List.map_set]
  exact (by repeat (first | exact Imp.refl _ | exact Imp.none _ | apply Imp.pull (by repeat (first | exact Ext.here | apply Ext.there)) | apply Imp.trans Imp.drop))
abbrev OT := Ob × List TW
set_option maxHeartbeats 8000000 in
theorem walk (W : World) {a0 : Option Addr} {c0 : Nat} {ops : List SOp} (hops : SlAt W 10 a0 ops.length ((ops.map SOp.cells).flatten)) (hok : ∀ o ∈ ops, o.OK W) :
    Ctr Try.prog W 8 [.slice a0 ops.length c0] [old W] (fun _ : Unit => True) (fun _ => .bool true) (fun _ => [old W]) := by
  have hq : ∀ q ∈ ([14] : List Int), 0 ≤ q ∧ q ≤ 1024 := by decide
  have hne : Fz.nerr 20 [14] = 0 := by decide
  refine Ctr.of_body Try.func8 rfl Try.ntmps8 rfl ?_
  refine CG.seq ?_
  refine CG.region ?_
  refine OG.yield (Yield.assign rfl) rfl ?_
  refine OG.nil ?_
  refine QG.then ?_
  refine CG.seq ?_
  refine CG.seq ?_
  refine CG.region ?_
  refine OG.callo call23 rfl (Imp.refl _) (works_spec W _) rfl ?_
  rintro ⟨⟩ -
  refine OG.yield (Yield.not rfl) rfl ?_
  refine OG.nil ?_
  refine QG.then ?_
  refine CG.cond_f rfl ?_
  refine CG.skip ?_
  refine QG.then ?_
  refine CG.seq ?_
  refine CG.region ?_
  refine OG.effd (Eff.alloc ti93) rfl ?_
  rintro b3 -
  refine OG.nil ?_
  refine QG.then ?_
  refine CG.seq ?_
  refine CG.region ?_
  refine OG.effd (Eff.alloc ti94) rfl ?_
  rintro b4 -
  refine OG.nil ?_
  refine QG.then ?_
  refine CG.seq ?_
  refine CG.region ?_
  refine OG.yield (Yield.buildArr (zs := [_, _, _]) (cells := [_, _, _]) Try.underlying95 ti95 ti3 rfl rfl) rfl ?_
  refine OG.effd (Eff.alloc ti95) rfl ?_
  rintro b5 -
  refine OG.eff (Eff.storeAll (vs := [.int .i64 1, .int .i64 64, .int .i64 3]) ti95 rfl rfl (by repeat (first | exact Foc.here | apply Foc.there)) rfl (by simp [one]) (by first | rfl | simp [Value.cells])) rfl ?_
  rintro ⟨⟩ -
  refine OG.nil ?_
  refine QG.then ?_
  refine CG.seq ?_
  refine CG.seq ?_
  refine CG.region ?_
  refine OG.yield (Yield.assign rfl) rfl ?_
  refine OG.nil ?_
  refine QG.then ?_
  refine CG.block ?_
  refine CG.loop (fun y : Nat × List TW => y.1 ≤ 3 ∧ y.2.length = y.1 ∧ ∀ x ∈ y.2, LkT o0 0 x) (fun y => [(0, .slice a0 ops.length c0), (3, .pointer (some ⟨b3, 0, none⟩)), (4, .pointer (some ⟨b4, 0, none⟩)), (5, .pointer (some ⟨b5, 0, none⟩)), (6, .int .i64 y.1)]) (fun y => blk b5 [.int .i64 1, .int .i64 64, .int .i64 3] 95 :: GT W b3 b4 y.2) (fun y => 3 - y.1) (0, []) ⟨Nat.zero_le _, rfl, fun x h => by cases h⟩ (by repeat (first | exact Env.sub_nil _ | refine Env.sub_cons rfl ?_)) (Imp.trans star_nil (by repeat (first | exact Imp.refl _ | exact Imp.none _ | apply Imp.pull (by repeat (first | exact Ext.here | apply Ext.there)) | apply Imp.trans Imp.drop))) ?_
  rintro ⟨i, xs⟩ ⟨hi3, hxl, hxs⟩
  dsimp only at hi3 hxl hxs ⊢
  refine CG.seq ?_
  refine CG.seq ?_
  refine CG.region ?_
  refine OG.yield (Yield.move rfl) rfl ?_
  refine OG.yield (by first | exact Yield.as (Yield.lss rfl rfl) (bT (by omega)) | exact Yield.as (Yield.lss rfl rfl) (bF (by omega)) | exact Yield.lss rfl rfl) rfl ?_
  refine OG.nil ?_
  refine QG.then ?_
  refine CG.cond rfl (fun hc => ?_) (fun hc => ?_)
  · try replace hc := of_decide_eq_true hc
    obtain ⟨sz, hsz, hs1, hs2⟩ : ∃ sz : Nat, ([.int .i64 1, .int .i64 64, .int .i64 3] : List Value)[xs.length]? = some (.int .i64 sz) ∧ 1 ≤ sz ∧ sz ≤ 64 := by
      rcases (show xs.length = 0 ∨ xs.length = 1 ∨ xs.length = 2 by omega) with q | q | q <;> rw [q]
      · exact ⟨1, rfl, by decide, by decide⟩
      · exact ⟨64, rfl, by decide, by decide⟩
      · exact ⟨3, rfl, by decide, by decide⟩
    obtain ⟨G0, e0⟩ := Good.start (n := 20) (m := sz) (Fz.inv_new hne) ⟨hs1, hs2⟩
    have L0 := Lk.intro (rt := fun _ => none) (c := 0) G0 rfl rfl e0 (Nat.le_refl 0)
    refine CG.skip ?_
    refine QG.then ?_
    refine CG.seq ?_
    refine CG.block ?_
    refine CG.seq ?_
    refine CG.region ?_
    refine OG.callo call10 rfl (Imp.refl _) (Me.new_spec W _ (n := 20) (by decide) (by decide)) rfl ?_
    rintro m -
    refine OG.yield (Yield.move rfl) rfl ?_
    refine OG.yield (Yield.extract rfl rfl) rfl ?_
    refine OG.yield (Yield.extract rfl rfl) rfl ?_
    refine OG.yield (Yield.assign rfl) rfl ?_
    refine OG.yield (Yield.assign rfl) rfl ?_
    refine OG.nil ?_
    refine QG.then ?_
    refine CG.seq ?_
    refine CG.region ?_
    refine OG.effd (Eff.lit1 Try.underlying63 ti3 rfl rfl rfl) rfl ?_
    rintro b31 -
    refine OG.callo call31 rfl (Imp.refl _) (Fz.new_ok W _ (total := 20) (qs := [14]) (by exact SlR.of_osl (E := 3) (a := some ⟨b31, 0, none⟩) (by repeat (first | exact Ext.here | apply Ext.there))) hne) rfl ?_
    rintro f -
    refine OG.yield (Yield.move rfl) rfl ?_
    refine OG.yield (Yield.extract rfl rfl) rfl ?_
    refine OG.yield (Yield.extract rfl rfl) rfl ?_
    refine OG.yield (Yield.assign rfl) rfl ?_
    refine OG.yield (Yield.assign rfl) rfl ?_
    refine OG.nil ?_
    refine QG.then ?_
    refine CG.seq ?_
    refine CG.region ?_
    refine OG.yield (Yield.move rfl) rfl ?_
    refine OG.yield (Yield.index_array Try.underlying95 ti3 rfl rfl (by omega) (by omega)) rfl ?_
    refine OG.yield (Yield.load (v := .int .i64 sz) ti3 rfl (by rw [show 0 + (i : Int).toNat * 1 = xs.length by omega]; exact Cel.of_blk (b := b5) (by repeat (first | exact Ext.here | apply Ext.there)) hsz)) rfl ?_
    refine OG.callo call32 rfl (Imp.refl _) (Tl.new_spec W _ (n := sz) hs1 hs2) rfl ?_
    rintro t -
    refine OG.yield (Yield.move rfl) rfl ?_
    refine OG.yield (Yield.extract rfl rfl) rfl ?_
    refine OG.yield (Yield.extract rfl rfl) rfl ?_
    refine OG.yield (Yield.assign rfl) rfl ?_
    refine OG.yield (Yield.assign rfl) rfl ?_
    refine OG.nil ?_
    refine QG.then ?_
    refine CG.seq ?_
    refine CG.seq ?_
    refine CG.region ?_
    refine OG.yield (Yield.move rfl) rfl ?_
    refine OG.yield (by first | exact Yield.as (Yield.neq rfl rfl) (bT (by omega)) | exact Yield.as (Yield.neq rfl rfl) (bF (by omega)) | exact Yield.neq rfl rfl) rfl ?_
    refine OG.yield (Yield.move rfl) rfl ?_
    refine OG.guard_yes rfl rfl rfl (by decide) ?_
    refine OG.yield (Yield.move rfl) rfl ?_
    refine OG.guard_yes rfl rfl rfl (by decide) ?_
    refine OG.yield (by first | exact Yield.as (Yield.neq rfl rfl) (bT (by omega)) | exact Yield.as (Yield.neq rfl rfl) (bF (by omega)) | exact Yield.neq rfl rfl) rfl ?_
    refine OG.yield (by first | exact Yield.pick_t rfl rfl | exact Yield.pick_f rfl rfl | exact Yield.pick rfl (fun _ => rfl) (fun _ => rfl)) rfl ?_
    refine OG.yield (Yield.move rfl) rfl ?_
    refine OG.guard_yes rfl rfl rfl (by decide) ?_
    refine OG.yield (Yield.move rfl) rfl ?_
    refine OG.guard_yes rfl rfl rfl (by decide) ?_
    refine OG.yield (by first | exact Yield.as (Yield.neq rfl rfl) (bT (by omega)) | exact Yield.as (Yield.neq rfl rfl) (bF (by omega)) | exact Yield.neq rfl rfl) rfl ?_
    refine OG.yield (by first | exact Yield.pick_t rfl rfl | exact Yield.pick_f rfl rfl | exact Yield.pick rfl (fun _ => rfl) (fun _ => rfl)) rfl ?_
    refine OG.yield (Yield.move rfl) rfl ?_
    refine OG.guard_yes rfl rfl rfl (by decide) ?_
    refine OG.yield (Yield.move rfl) rfl ?_
    refine OG.guard_yes rfl rfl rfl (by decide) ?_
    refine OG.yield (by first | exact Yield.ptr_nil Try.underlying24 rfl rfl | exact Yield.nil_nil Try.underlying24 rfl rfl) rfl ?_
    refine OG.yield (by first | exact Yield.pick_t rfl rfl | exact Yield.pick_f rfl rfl | exact Yield.pick rfl (fun _ => rfl) (fun _ => rfl)) rfl ?_
    refine OG.yield (Yield.move rfl) rfl ?_
    refine OG.guard_yes rfl rfl rfl (by decide) ?_
    refine OG.yield (Yield.move rfl) rfl ?_
    refine OG.guard_yes rfl rfl rfl (by decide) ?_
    refine OG.yield (by first | exact Yield.ptr_nil Try.underlying64 rfl rfl | exact Yield.nil_nil Try.underlying64 rfl rfl) rfl ?_
    refine OG.yield (by first | exact Yield.pick_t rfl rfl | exact Yield.pick_f rfl rfl | exact Yield.pick rfl (fun _ => rfl) (fun _ => rfl)) rfl ?_
    refine OG.yield (Yield.move rfl) rfl ?_
    refine OG.guard_yes rfl rfl rfl (by decide) ?_
    refine OG.yield (Yield.move rfl) rfl ?_
    refine OG.guard_yes rfl rfl rfl (by decide) ?_
    refine OG.yield (by first | exact Yield.ptr_nil Try.underlying65 rfl rfl | exact Yield.nil_nil Try.underlying65 rfl rfl) rfl ?_
    refine OG.yield (by first | exact Yield.pick_t rfl rfl | exact Yield.pick_f rfl rfl | exact Yield.pick rfl (fun _ => rfl) (fun _ => rfl)) rfl ?_
    refine OG.nil ?_
    refine QG.then ?_
    refine CG.cond_f rfl ?_
    refine CG.skip ?_
    refine QG.then ?_
    refine CG.seq ?_
    refine CG.region ?_
    refine OG.yield (Yield.move rfl) rfl ?_
    refine OG.yield (Yield.move rfl) rfl ?_
    refine OG.yield (Yield.move rfl) rfl ?_
    refine OG.callo call33 rfl ((by repeat (first | exact Imp.refl _ | exact Imp.none _ | apply Imp.pull (by repeat (first | exact Ext.here | apply Ext.there)) | apply Imp.trans Imp.drop))) (new_ok W _ (m := m) (f := f) (t := t) (k := 0) (qk := 14) L0 hq rfl rfl (by decide)) rfl ?_
    rintro ⟨s, r, σ⟩ L
    dsimp only at L ⊢
    refine OG.yield (Yield.move rfl) rfl ?_
    refine OG.yield (Yield.extract rfl rfl) rfl ?_
    refine OG.yield (Yield.extract rfl rfl) rfl ?_
    refine OG.yield (Yield.assign rfl) rfl ?_
    refine OG.yield (Yield.assign rfl) rfl ?_
    refine OG.nil ?_
    refine QG.then ?_
    refine CG.seq ?_
    refine CG.seq ?_
    refine CG.region ?_
    refine OG.yield (Yield.move rfl) rfl ?_
    refine OG.yield (by first | exact Yield.as (Yield.neq rfl rfl) (bT (by omega)) | exact Yield.as (Yield.neq rfl rfl) (bF (by omega)) | exact Yield.neq rfl rfl) rfl ?_
    refine OG.yield (Yield.move rfl) rfl ?_
    refine OG.guard_yes rfl rfl rfl (by decide) ?_
    refine OG.yield (Yield.move rfl) rfl ?_
    refine OG.guard_yes rfl rfl rfl (by decide) ?_
    refine OG.yield (by first | exact Yield.ptr_nil Try.underlying81 rfl rfl | exact Yield.nil_nil Try.underlying81 rfl rfl) rfl ?_
    refine OG.yield (by first | exact Yield.pick_t rfl rfl | exact Yield.pick_f rfl rfl | exact Yield.pick rfl (fun _ => rfl) (fun _ => rfl)) rfl ?_
    refine OG.nil ?_
    refine QG.then ?_
    refine CG.cond_f rfl ?_
    refine CG.skip ?_
    refine QG.then ?_
    refine CG.region ?_
    refine OG.yield (Yield.move rfl) rfl ?_
    refine OG.yield (Yield.move rfl) rfl ?_
    refine OG.yield (Yield.move rfl) rfl ?_
    refine OG.yield (Yield.move rfl) rfl ?_
    refine OG.yield (Yield.index_array Try.underlying93 ti81 rfl rfl (by omega) (by omega)) rfl ?_
    refine OG.eff (Eff.store1 (v := .pointer (some ⟨s, 0, none⟩)) ti81 rfl rfl (by repeat (first | exact Foc.here | apply Foc.there)) rfl (by simp only [padP, List.length_append, List.length_map, List.length_replicate]; omega)) rfl ?_
    rintro ⟨⟩ -
    rw [show 0 + (i : Int).toNat * 1 = xs.length by omega, padP_set (g := (·.s)) (x := ⟨m, f, t, s, r, σ⟩) (by omega)]
    refine OG.yield (Yield.index_array Try.underlying94 ti65 rfl rfl (by omega) (by omega)) rfl ?_
    refine OG.eff (Eff.store1 (v := .pointer (some ⟨t, 0, none⟩)) ti65 rfl rfl (by repeat (first | exact Foc.here | apply Foc.there)) rfl (by simp only [padP, List.length_append, List.length_map, List.length_replicate]; omega)) rfl ?_
    rintro ⟨⟩ -
    rw [show 0 + (i : Int).toNat * 1 = xs.length by omega, padP_set (g := (·.t)) (x := ⟨m, f, t, s, r, σ⟩) (by omega)]
    refine OG.nil ?_
    refine QG.block_normal ?_
    refine QG.then ?_
    refine CG.region ?_
    refine OG.yield (Yield.move rfl) rfl ?_
    refine OG.yield (Yield.add rfl rfl (w64 (by omega) (by omega))) rfl ?_
    refine OG.yield (Yield.assign rfl) rfl ?_
    refine OG.nil ?_
    refine QG.next (i + 1, xs ++ [⟨m, f, t, s, r, σ⟩]) ⟨by simp only; omega, by simp only [List.length_append, List.length_cons, List.length_nil]; omega, fun x hx => ?_⟩ (by simp only; omega) (by repeat (first | exact Env.sub_nil _ | refine Env.sub_cons rfl ?_)) (Imp.trans (B := twG ⟨m, f, t, s, r, σ⟩ (Star (xs.map twH) :: blk b5 [.int .i64 1, .int .i64 64, .int .i64 3] 95 :: blk b3 (padP (·.s) (xs ++ [⟨m, f, t, s, r, σ⟩])) 93 :: blk b4 (padP (·.t) (xs ++ [⟨m, f, t, s, r, σ⟩])) 94 :: [old W])) (by repeat (first | exact Imp.refl _ | exact Imp.none _ | apply Imp.pull (by repeat (first | exact Ext.here | apply Ext.there)) | apply Imp.trans Imp.drop)) (Imp.trans tw_close (Imp.trans star_add (by dsimp only [GT]; rw [List.map_append]; exact (by repeat (first | exact Imp.refl _ | exact Imp.none _ | apply Imp.pull (by repeat (first | exact Ext.here | apply Ext.there)) | apply Imp.trans Imp.drop))))))
    rcases List.mem_append.1 hx with hx | hx
    · exact hxs x hx
    · obtain rfl := List.mem_singleton.1 hx
      exact L
  · try replace hc := of_decide_eq_false hc
    refine CG.exit ?_
    refine QG.pass_exit ?_
    refine QG.pass_exit ?_
    refine QG.block_exit ?_
    refine QG.then ?_
    refine CG.cut (fun y : Nat × Ob × List TW => y.2.2.length = 3 ∧ ∀ x ∈ y.2.2, LkT y.2.1 y.1 x) (fun y => [(3, .pointer (some ⟨b3, 0, none⟩))]) (fun y => GT W b3 b4 y.2.2) ?_ ?_
    · skip
      refine CG.seq ?_
      refine CG.region ?_
      refine OG.yield (Yield.assign rfl) rfl ?_
      refine OG.nil ?_
      refine QG.then ?_
      refine CG.block ?_
      refine CG.loop (fun y : Nat × Ob × List TW => y.1 ≤ ops.length ∧ y.1 ≤ 80 ∧ y.2.2.length = 3 ∧ ∀ x ∈ y.2.2, LkT y.2.1 (y.1 * 8192) x) (fun y => [(0, .slice a0 ops.length c0), (3, .pointer (some ⟨b3, 0, none⟩)), (4, .pointer (some ⟨b4, 0, none⟩)), (15, .int .i64 y.1)]) (fun y => GT W b3 b4 y.2.2) (fun y => ops.length - y.1) (0, o0, xs) ⟨Nat.zero_le _, Nat.zero_le _, by simp only; omega, hxs⟩ (by repeat (first | exact Env.sub_nil _ | refine Env.sub_cons rfl ?_)) (by repeat (first | exact Imp.refl _ | exact Imp.none _ | apply Imp.pull (by repeat (first | exact Ext.here | apply Ext.there)) | apply Imp.trans Imp.drop)) ?_
      rintro ⟨i2, o, xs2⟩ ⟨hi, hi1, hx3, hL⟩
      dsimp only at hi hi1 hx3 hL ⊢
      refine CG.seq ?_
      refine CG.seq ?_
      rcases loop_head (i2) (ops.length) 80 with hh | hh | hh
      · skip
        refine CG.region ?_
        refine OG.yield (Yield.move rfl) rfl ?_
        refine OG.yield (Yield.move rfl) rfl ?_
        refine OG.yield (Yield.len_slice Try.underlying59 rfl rfl) rfl ?_
        refine OG.yield (by first | exact Yield.as (Yield.lss rfl rfl) (bT (by omega)) | exact Yield.as (Yield.lss rfl rfl) (bF (by omega)) | exact Yield.lss rfl rfl) rfl ?_
        refine OG.yield (Yield.move rfl) rfl ?_
        refine OG.guard_yes rfl rfl rfl (by decide) ?_
        refine OG.yield (Yield.move rfl) rfl ?_
        refine OG.guard_yes rfl rfl rfl (by decide) ?_
        refine OG.yield (by first | exact Yield.as (Yield.lss rfl rfl) (bT (by omega)) | exact Yield.as (Yield.lss rfl rfl) (bF (by omega)) | exact Yield.lss rfl rfl) rfl ?_
        refine OG.yield (by first | exact Yield.pick_t rfl rfl | exact Yield.pick_f rfl rfl | exact Yield.pick rfl (fun _ => rfl) (fun _ => rfl)) rfl ?_
        refine OG.nil ?_
        refine QG.then ?_
        refine CG.cond_t rfl ?_
        refine CG.skip ?_
        refine QG.then ?_
        refine CG.seq ?_
        refine CG.block ?_
        refine CG.seq ?_
        obtain ⟨h1, h2⟩ := hh
        have hget : ops[i2]? = some ops[i2] := by simp [h1]
        have hko := hok ops[i2] (List.getElem_mem h1)
        generalize ops[i2] = op at hget hko
        refine CG.pure (fun w hw => (hops.old (G := GT W b3 b4 xs2) (by repeat (first | exact Ext.here | apply Ext.there))).elem_shape SOp.len (by decide) h1 w hw) ?_
        rintro ⟨b, oo, rfl⟩
        have hrow : ∀ {G R : List HProp}, Ext G (old W) R → Row W G b (oo + i2 * 10) op.cells := fun x => (hops.old x).elem SOp.len hget
        refine CG.region ?_
        refine OG.yield (Yield.assign rfl) rfl ?_
        refine OG.nil ?_
        refine QG.then ?_
        refine CG.seq ?_
        refine CG.seq ?_
        refine CG.region ?_
        refine OG.yield (Yield.assign rfl) rfl ?_
        refine OG.nil ?_
        refine QG.then ?_
        refine CG.block ?_
        refine CG.loop (fun y : Nat × List TW => y.1 ≤ 3 ∧ y.2.length = 3 ∧ ∀ j x, y.2[j]? = some x → if j < y.1 then LkT (tellO 14 op 0 o).2 ((i2 + 1) * 8192) x else LkT o (i2 * 8192) x) (fun y => [(0, .slice (some ⟨b, oo, none⟩) ops.length c0), (3, .pointer (some ⟨b3, 0, none⟩)), (4, .pointer (some ⟨b4, 0, none⟩)), (15, .int .i64 i2), (16, .string (fstS (ansB (tellO 14 op 0 o).1) y.1)), (17, .int .i64 y.1)]) (fun y => GT W b3 b4 y.2) (fun y => 3 - y.1) (0, xs2) ⟨Nat.zero_le _, hx3, fun j x hx => by rw [if_neg (Nat.not_lt_zero _)]; exact hL x (List.mem_of_getElem? hx)⟩ (by repeat (first | exact Env.sub_nil _ | refine Env.sub_cons rfl ?_)) (by repeat (first | exact Imp.refl _ | exact Imp.none _ | apply Imp.pull (by repeat (first | exact Ext.here | apply Ext.there)) | apply Imp.trans Imp.drop)) ?_
        rintro ⟨k, xs3⟩ ⟨hk3, hl3, hL3⟩
        dsimp only at hk3 hl3 hL3 ⊢
        refine CG.seq ?_
        refine CG.seq ?_
        refine CG.region ?_
        refine OG.yield (Yield.move rfl) rfl ?_
        refine OG.yield (by first | exact Yield.as (Yield.lss rfl rfl) (bT (by omega)) | exact Yield.as (Yield.lss rfl rfl) (bF (by omega)) | exact Yield.lss rfl rfl) rfl ?_
        refine OG.nil ?_
        refine QG.then ?_
        refine CG.cond rfl (fun hc => ?_) (fun hc => ?_)
        · try replace hc := of_decide_eq_true hc
          obtain ⟨x, hx⟩ : ∃ x, xs3[k]? = some x := ⟨_, List.getElem?_eq_getElem (by omega)⟩
          have hLx := hL3 k x hx
          rw [if_neg (Nat.lt_irrefl _)] at hLx
          have hps : (padP (·.s) xs3)[k]? = some (.pointer (some ⟨x.s, 0, none⟩)) := by rw [padP_full hl3, List.getElem?_map, hx]; rfl
          have hinv : ∀ σ2, Lk 20 [14] (fun k' => if k' = 0 then some x.r else none) (tellO 14 op 0 o).2 (i2 * 8192 + 8192) σ2 → ∀ j y, (xs3.set k { x with σ := σ2 })[j]? = some y → if j < k + 1 then LkT (tellO 14 op 0 o).2 ((i2 + 1) * 8192) y else LkT o (i2 * 8192) y := by
            intro σ2 L2 j y hy
            by_cases hjk : k = j
            · subst hjk
              rw [List.getElem?_set_self (by omega)] at hy; cases hy
              rw [if_pos (by omega), show (i2 + 1) * 8192 = i2 * 8192 + 8192 by omega]; exact L2
            · rw [List.getElem?_set_ne hjk] at hy
              have := hL3 j y hy
              by_cases hj : j < k
              · rw [if_pos hj] at this; rw [if_pos (by omega)]; exact this
              · rw [if_neg hj] at this; rw [if_neg (by omega)]; exact this
          refine CG.imp (gt_take hx) ?_
          refine CG.skip ?_
          refine QG.then ?_
          refine CG.seq ?_
          refine CG.block ?_
          refine CG.seq ?_
          refine CG.draw (.look 0 1 (.look 1 1 (.look 2 1 (.look 3 1 (.look 4 1 (.look 5 1 (.look 6 1 (.eff1 7 false (.look 8 1 (.done)))))))))) [7] [] ([]) ([]) mixed (by kernel_rfl) (Imp.none _) (Imp.none _) ?_
          refine DG.look rfl rfl (Yield.move rfl) rfl ?_
          refine DG.look rfl rfl (Yield.index_array Try.underlying93 ti81 rfl rfl (by omega) (by omega)) rfl ?_
          refine DG.look rfl rfl (Yield.load (v := .pointer (some ⟨x.s, 0, none⟩)) ti81 rfl (by rw [show 0 + (k : Int).toNat * 1 = k by omega]; exact Cel.of_blk (b := b3) (by repeat (first | exact Ext.here | apply Ext.there)) hps)) rfl ?_
          refine DG.look rfl rfl (Yield.move rfl) rfl ?_
          refine DG.look rfl rfl (Yield.move rfl) rfl ?_
          refine DG.look rfl rfl (Yield.index_slice Try.underlying59 ti78 rfl rfl (by omega) (by omega)) rfl ?_
          refine DG.look rfl rfl (Yield.load_agg (vs := op.cells) ti78 rfl (SOp.len _) (hrow (by repeat (first | exact Ext.here | apply Ext.there)))) rfl ?_
          refine DG.eff1 ?_
          refine Chg.callo rfl rfl call34 rfl ((by repeat (first | exact Imp.refl _ | exact Imp.none _ | apply Imp.pull (by repeat (first | exact Ext.here | apply Ext.there)) | apply Imp.trans Imp.drop))) (tells_spec W _ (n := 20) (qs := [14]) (s := x.s) (m := x.m) (f := x.f) (t := x.t) (k := 0) (r := x.r) hko hLx hq (qk := 14) rfl rfl (by omega)) rfl (fun _ => (by repeat (first | exact Imp.refl _ | exact Imp.none _ | apply Imp.pull (by repeat (first | exact Ext.here | apply Ext.there)) | apply Imp.trans Imp.drop))) (fun _ => Imp.refl _) (fun _ => (by repeat (first | exact Imp.refl _ | exact Imp.none _ | apply Imp.pull (by repeat (first | exact Ext.here | apply Ext.there)) | apply Imp.trans Imp.drop))) ?_
          rintro σ2 L2
          refine DG.look rfl rfl (Yield.assign rfl) rfl ?_
          refine DG.done ?_
          refine QG.then ?_
          refine CG.seq ?_
          refine CG.seq ?_
          rcases (show k = 0 ∨ ∃ k', k = k' + 1 by cases k with | zero => exact .inl rfl | succ k' => exact .inr ⟨k', rfl⟩) with hk0 | ⟨k', hk0⟩
          · skip
            refine CG.region ?_
            refine OG.yield (Yield.move rfl) rfl ?_
            refine OG.yield (by first | exact Yield.as (Yield.gtr rfl rfl) (bT (by omega)) | exact Yield.as (Yield.gtr rfl rfl) (bF (by omega)) | exact Yield.gtr rfl rfl) rfl ?_
            refine OG.yield (Yield.move rfl) rfl ?_
            refine OG.guard_no rfl rfl rfl rfl rfl (by decide) (by decide) ?_
            refine OG.guard_no rfl rfl rfl rfl rfl (by decide) (by decide) ?_
            refine OG.guard_no rfl rfl rfl rfl rfl (by decide) (by decide) ?_
            refine OG.yield (by first | exact Yield.pick_t rfl rfl | exact Yield.pick_f rfl rfl | exact Yield.pick rfl (fun _ => rfl) (fun _ => rfl)) rfl ?_
            refine OG.nil ?_
            refine QG.then ?_
            refine CG.cond_f rfl ?_
            refine CG.skip ?_
            refine QG.then ?_
            refine CG.region ?_
            refine OG.yield (Yield.move rfl) rfl ?_
            refine OG.yield (Yield.assign rfl) rfl ?_
            refine OG.nil ?_
            refine QG.block_normal ?_
            refine QG.then ?_
            refine CG.region ?_
            refine OG.yield (Yield.move rfl) rfl ?_
            refine OG.yield (Yield.add rfl rfl (w64 (by omega) (by omega))) rfl ?_
            refine OG.yield (Yield.assign rfl) rfl ?_
            refine OG.nil ?_
            exact QG.next (k + 1, xs3.set k { x with σ := σ2 }) ⟨by simp only; omega, by simp only [List.length_set]; exact hl3, hinv σ2 L2⟩ (by simp only; omega) (by repeat (first | exact Env.sub_nil _ | refine Env.sub_cons rfl ?_)) (Imp.trans (B := twG { x with σ := σ2 } (old W :: Star ((xs3.map twH).eraseIdx k) :: blk b3 (padP (·.s) xs3) 93 :: blk b4 (padP (·.t) xs3) 94 :: [])) (by repeat (first | exact Imp.refl _ | exact Imp.none _ | apply Imp.pull (by repeat (first | exact Ext.here | apply Ext.there)) | apply Imp.trans Imp.drop)) (gt_put hx))
          · skip
            have hf : fstS (ansB (tellO 14 op 0 o).1) k = strOf (ansB (tellO 14 op 0 o).1) := by rw [hk0]; rfl
            refine CG.region ?_
            refine OG.yield (Yield.move rfl) rfl ?_
            refine OG.yield (by first | exact Yield.as (Yield.gtr rfl rfl) (bT (by omega)) | exact Yield.as (Yield.gtr rfl rfl) (bF (by omega)) | exact Yield.gtr rfl rfl) rfl ?_
            refine OG.yield (Yield.move rfl) rfl ?_
            refine OG.guard_yes rfl rfl rfl (by decide) ?_
            refine OG.yield (Yield.move rfl) rfl ?_
            refine OG.guard_yes rfl rfl rfl (by decide) ?_
            refine OG.yield (Yield.move rfl) rfl ?_
            refine OG.guard_yes rfl rfl rfl (by decide) ?_
            refine OG.yield (Yield.as (Yield.str_neq rfl rfl) (v' := .bool false) (by rw [hf]; simp)) rfl ?_
            refine OG.yield (by first | exact Yield.pick_t rfl rfl | exact Yield.pick_f rfl rfl | exact Yield.pick rfl (fun _ => rfl) (fun _ => rfl)) rfl ?_
            refine OG.nil ?_
            refine QG.then ?_
            refine CG.cond_f rfl ?_
            refine CG.skip ?_
            refine QG.then ?_
            refine CG.region ?_
            refine OG.yield (Yield.move rfl) rfl ?_
            refine OG.yield (Yield.assign rfl) rfl ?_
            refine OG.nil ?_
            refine QG.block_normal ?_
            refine QG.then ?_
            refine CG.region ?_
            refine OG.yield (Yield.move rfl) rfl ?_
            refine OG.yield (Yield.add rfl rfl (w64 (by omega) (by omega))) rfl ?_
            refine OG.yield (Yield.assign rfl) rfl ?_
            refine OG.nil ?_
            exact QG.next (k + 1, xs3.set k { x with σ := σ2 }) ⟨by simp only; omega, by simp only [List.length_set]; exact hl3, hinv σ2 L2⟩ (by simp only; omega) (by repeat (first | exact Env.sub_nil _ | refine Env.sub_cons rfl ?_)) (Imp.trans (B := twG { x with σ := σ2 } (old W :: Star ((xs3.map twH).eraseIdx k) :: blk b3 (padP (·.s) xs3) 93 :: blk b4 (padP (·.t) xs3) 94 :: [])) (by repeat (first | exact Imp.refl _ | exact Imp.none _ | apply Imp.pull (by repeat (first | exact Ext.here | apply Ext.there)) | apply Imp.trans Imp.drop)) (gt_put hx))
        · try replace hc := of_decide_eq_false hc
          obtain ⟨x, hx⟩ : ∃ x, xs3[2]? = some x := ⟨_, List.getElem?_eq_getElem (by omega)⟩
          have hall : ∀ y ∈ xs3, LkT (tellO 14 op 0 o).2 ((i2 + 1) * 8192) y := by
            intro y hy
            obtain ⟨j, hj⟩ := List.mem_iff_getElem?.1 hy
            have hjl := (List.getElem?_eq_some_iff.1 hj).1
            have := hL3 j y hj
            rw [if_pos (by omega)] at this; exact this
          have hLx := hall x (List.mem_of_getElem? hx)
          have hpt : (padP (·.t) xs3)[2]? = some (.pointer (some ⟨x.t, 0, none⟩)) := by rw [padP_full hl3, List.getElem?_map, hx]; rfl
          refine CG.imp (gt_take hx) ?_
          refine CG.exit ?_
          refine QG.pass_exit ?_
          refine QG.pass_exit ?_
          refine QG.block_exit ?_
          refine QG.then ?_
          refine CG.region ?_
          refine OG.yield (Yield.index_array Try.underlying94 ti65 rfl rfl (by omega) (by omega)) rfl ?_
          refine OG.yield (Yield.load (v := .pointer (some ⟨x.t, 0, none⟩)) ti65 rfl (Cel.of_blk (b := b4) (by repeat (first | exact Ext.here | apply Ext.there)) hpt)) rfl ?_
          refine OG.callo call35 rfl ((by repeat (first | exact Imp.refl _ | exact Imp.none _ | apply Imp.pull (by repeat (first | exact Ext.here | apply Ext.there)) | apply Imp.trans Imp.drop))) (flush_lk W _ (n := 20) (qs := [14]) (m := x.m) (f := x.f) (t := x.t) hLx) rfl ?_
          rintro σ3 L3
          refine OG.nil ?_
          refine QG.block_normal ?_
          refine QG.then ?_
          refine CG.region ?_
          refine OG.yield (Yield.move rfl) rfl ?_
          refine OG.yield (Yield.add rfl rfl (w64 (by omega) (by omega))) rfl ?_
          refine OG.yield (Yield.assign rfl) rfl ?_
          refine OG.nil ?_
          refine QG.next (i2 + 1, (tellO 14 op 0 o).2, xs3.set 2 { x with σ := σ3 }) ⟨by simp only; omega, by simp only; omega, by simp only [List.length_set]; exact hl3, fun y hy => ?_⟩ (by simp only; omega) (by repeat (first | exact Env.sub_nil _ | refine Env.sub_cons rfl ?_)) (Imp.trans (B := twG { x with σ := σ3 } (old W :: Star ((xs3.map twH).eraseIdx 2) :: blk b3 (padP (·.s) xs3) 93 :: blk b4 (padP (·.t) xs3) 94 :: [])) (by repeat (first | exact Imp.refl _ | exact Imp.none _ | apply Imp.pull (by repeat (first | exact Ext.here | apply Ext.there)) | apply Imp.trans Imp.drop)) (gt_put hx))
          rcases List.mem_or_eq_of_mem_set hy with hy | rfl
          · exact hall y hy
          · exact L3
      · skip
        refine CG.region ?_
        refine OG.yield (Yield.move rfl) rfl ?_
        refine OG.yield (Yield.move rfl) rfl ?_
        refine OG.yield (Yield.len_slice Try.underlying59 rfl rfl) rfl ?_
        refine OG.yield (by first | exact Yield.as (Yield.lss rfl rfl) (bT (by omega)) | exact Yield.as (Yield.lss rfl rfl) (bF (by omega)) | exact Yield.lss rfl rfl) rfl ?_
        refine OG.yield (Yield.move rfl) rfl ?_
        refine OG.guard_yes rfl rfl rfl (by decide) ?_
        refine OG.yield (Yield.move rfl) rfl ?_
        refine OG.guard_yes rfl rfl rfl (by decide) ?_
        refine OG.yield (by first | exact Yield.as (Yield.lss rfl rfl) (bT (by omega)) | exact Yield.as (Yield.lss rfl rfl) (bF (by omega)) | exact Yield.lss rfl rfl) rfl ?_
        refine OG.yield (by first | exact Yield.pick_t rfl rfl | exact Yield.pick_f rfl rfl | exact Yield.pick rfl (fun _ => rfl) (fun _ => rfl)) rfl ?_
        refine OG.nil ?_
        refine QG.then ?_
        refine CG.cond_f rfl ?_
        refine CG.exit ?_
        refine QG.pass_exit ?_
        refine QG.pass_exit ?_
        refine QG.block_exit ?_
        exact QG.mid (i2 * 8192, o, xs2) ⟨hx3, hL⟩ (by repeat (first | exact Env.sub_nil _ | refine Env.sub_cons rfl ?_)) (by repeat (first | exact Imp.refl _ | exact Imp.none _ | apply Imp.pull (by repeat (first | exact Ext.here | apply Ext.there)) | apply Imp.trans Imp.drop))
      · skip
        refine CG.region ?_
        refine OG.yield (Yield.move rfl) rfl ?_
        refine OG.yield (Yield.move rfl) rfl ?_
        refine OG.yield (Yield.len_slice Try.underlying59 rfl rfl) rfl ?_
        refine OG.yield (by first | exact Yield.as (Yield.lss rfl rfl) (bT (by omega)) | exact Yield.as (Yield.lss rfl rfl) (bF (by omega)) | exact Yield.lss rfl rfl) rfl ?_
        refine OG.yield (Yield.move rfl) rfl ?_
        refine OG.guard_no rfl rfl rfl rfl rfl (by decide) (by decide) ?_
        refine OG.guard_no rfl rfl rfl rfl rfl (by decide) (by decide) ?_
        refine OG.yield (by first | exact Yield.pick_t rfl rfl | exact Yield.pick_f rfl rfl | exact Yield.pick rfl (fun _ => rfl) (fun _ => rfl)) rfl ?_
        refine OG.nil ?_
        refine QG.then ?_
        refine CG.cond_f rfl ?_
        refine CG.exit ?_
        refine QG.pass_exit ?_
        refine QG.pass_exit ?_
        refine QG.block_exit ?_
        exact QG.mid (i2 * 8192, o, xs2) ⟨hx3, hL⟩ (by repeat (first | exact Env.sub_nil _ | refine Env.sub_cons rfl ?_)) (by repeat (first | exact Imp.refl _ | exact Imp.none _ | apply Imp.pull (by repeat (first | exact Ext.here | apply Ext.there)) | apply Imp.trans Imp.drop))
    rintro ⟨cc, o, ys⟩ ⟨h3, hL⟩
    dsimp only at h3 hL ⊢
    refine CG.seq ?_
    obtain ⟨x0, x1, x2, rfl⟩ : ∃ x0 x1 x2, ys = [x0, x1, x2] := by
      match ys, h3 with
      | [x0, x1, x2], _ => exact ⟨x0, x1, x2, rfl⟩
    have hL0 := hL x0 (by simp)
    have hL1 := hL x1 (by simp)
    have hL2 := hL x2 (by simp)
    refine CG.imp (G' := twG x2 (twG x1 (twG x0 (blk b3 (padP (·.s) [x0, x1, x2]) 93 :: [old W])))) (Imp.trans (B := Star ([x0, x1, x2].map twH) :: blk b3 (padP (·.s) [x0, x1, x2]) 93 :: [old W]) (by repeat (first | exact Imp.refl _ | exact Imp.none _ | apply Imp.pull (by repeat (first | exact Ext.here | apply Ext.there)) | apply Imp.trans Imp.drop)) (Imp.trans star_open (Imp.trans tw_open (Imp.trans (B := twH x1 :: twH x2 :: twG x0 (blk b3 (padP (·.s) [x0, x1, x2]) 93 :: [old W])) (by repeat (first | exact Imp.refl _ | exact Imp.none _ | apply Imp.pull (by repeat (first | exact Ext.here | apply Ext.there)) | apply Imp.trans Imp.drop)) (Imp.trans tw_open (Imp.trans (B := twH x2 :: twG x1 (twG x0 (blk b3 (padP (·.s) [x0, x1, x2]) 93 :: [old W]))) (by repeat (first | exact Imp.refl _ | exact Imp.none _ | apply Imp.pull (by repeat (first | exact Ext.here | apply Ext.there)) | apply Imp.trans Imp.drop)) (Imp.trans tw_open (by repeat (first | exact Imp.refl _ | exact Imp.none _ | apply Imp.pull (by repeat (first | exact Ext.here | apply Ext.there)) | apply Imp.trans Imp.drop))))))))) ?_
    refine CG.draw (.look 0 1 (.look 1 1 (.look 3 0 (.look 4 0 (.eff1 2 false (.eff1 5 false (.eff1 6 false (.look 7 1 (.look 8 1 (.look 9 1 (.look 11 0 (.look 12 0 (.eff1 10 false (.eff1 13 false (.eff1 14 false (.look 15 1 (.look 16 1 (.done)))))))))))))))))) [2, 5, 6, 10, 13, 14] [] ([blk b3 (padP (·.s) [x0, x1, x2]) 93]) ([]) mixed (by kernel_rfl) ((by repeat (first | exact Imp.refl _ | exact Imp.none _ | apply Imp.pull (by repeat (first | exact Ext.here | apply Ext.there)) | apply Imp.trans Imp.drop))) (Imp.none _) ?_
    refine DG.look rfl rfl (Yield.index_array Try.underlying93 ti81 rfl rfl (by omega) (by omega)) rfl ?_
    refine DG.look rfl rfl (Yield.load ti81 rfl (by first | exact Cel.of_blk (by repeat (first | exact Ext.here | apply Ext.there)) rfl | exact (hrow (by repeat (first | exact Ext.here | apply Ext.there))) _ _ rfl)) rfl ?_
    refine DG.look rfl rfl (Yield.index_array Try.underlying93 ti81 rfl rfl (by omega) (by omega)) rfl ?_
    refine DG.look rfl rfl (Yield.load ti81 rfl (by first | exact Cel.of_blk (by repeat (first | exact Ext.here | apply Ext.there)) rfl | exact (hrow (by repeat (first | exact Ext.here | apply Ext.there))) _ _ rfl)) rfl ?_
    refine DG.eff1 ?_
    refine Chg.callo rfl rfl call29 rfl ((by repeat (first | exact Imp.refl _ | exact Imp.none _ | apply Imp.pull (by repeat (first | exact Ext.here | apply Ext.there)) | apply Imp.trans Imp.drop))) (pages_of W _ (n := 20) (qs := [14]) (s := x0.s) (m := x0.m) (f := x0.f) (t := x0.t) (k := 0) (r := x0.r) hL0 rfl) rfl (fun _ => (by repeat (first | exact Imp.refl _ | exact Imp.none _ | apply Imp.pull (by repeat (first | exact Ext.here | apply Ext.there)) | apply Imp.trans Imp.drop))) (fun _ => Imp.refl _) (fun _ => (by repeat (first | exact Imp.refl _ | exact Imp.none _ | apply Imp.pull (by repeat (first | exact Ext.here | apply Ext.there)) | apply Imp.trans Imp.drop))) ?_
    rintro ⟨pa, pc, pl⟩ hp
    dsimp only [List.cons_append, List.nil_append] at hp ⊢
    have hpn : pl.length ≤ 1000000 := by rw [← List.length_map (f := PV.v), hp, pvTo_len]; exact Nat.le_trans (cN_le _ _) (by decide)
    refine DG.eff1 ?_
    refine Chg.callo rfl rfl call29 rfl ((by repeat (first | exact Imp.refl _ | exact Imp.none _ | apply Imp.pull (by repeat (first | exact Ext.here | apply Ext.there)) | apply Imp.trans Imp.drop))) (pages_of W _ (n := 20) (qs := [14]) (s := x1.s) (m := x1.m) (f := x1.f) (t := x1.t) (k := 0) (r := x1.r) hL1 rfl) rfl (fun _ => (by repeat (first | exact Imp.refl _ | exact Imp.none _ | apply Imp.pull (by repeat (first | exact Ext.here | apply Ext.there)) | apply Imp.trans Imp.drop))) (fun _ => Imp.refl _) (fun _ => (by repeat (first | exact Imp.refl _ | exact Imp.none _ | apply Imp.pull (by repeat (first | exact Ext.here | apply Ext.there)) | apply Imp.trans Imp.drop))) ?_
    rintro ⟨qa, qc, ql⟩ hq
    dsimp only [List.cons_append, List.nil_append] at hq ⊢
    have hqn : ql.length ≤ 1000000 := by rw [← List.length_map (f := PV.v), hq, pvTo_len]; exact Nat.le_trans (cN_le _ _) (by decide)
    refine DG.eff1 ?_
    refine Chg.callo rfl rfl call36 rfl (Imp.refl _) (same_spec W _ (a1 := pa) (a2 := qa) (c1 := pc) (c2 := qc) (l1 := pl) (l2 := ql) (by exact PVr.at (c := pc) (by repeat (first | exact Imp.refl _ | exact Imp.none _ | apply Imp.pull (by repeat (first | exact Ext.here | apply Ext.there)) | apply Imp.trans Imp.drop))) (by exact PVr.at (c := qc) (by repeat (first | exact Imp.refl _ | exact Imp.none _ | apply Imp.pull (by repeat (first | exact Ext.here | apply Ext.there)) | apply Imp.trans Imp.drop))) hpn) rfl (fun _ => (by repeat (first | exact Imp.refl _ | exact Imp.none _ | apply Imp.pull (by repeat (first | exact Ext.here | apply Ext.there)) | apply Imp.trans Imp.drop))) (fun _ => Imp.refl _) (fun _ => (by repeat (first | exact Imp.refl _ | exact Imp.none _ | apply Imp.pull (by repeat (first | exact Ext.here | apply Ext.there)) | apply Imp.trans Imp.drop))) ?_
    rintro ⟨⟩ -
    rw [decide_eq_true (show pl.map PV.v = ql.map PV.v from hp.trans hq.symm)]
    refine DG.look rfl rfl (Yield.move rfl) rfl ?_
    refine DG.look rfl rfl (Yield.index_array Try.underlying93 ti81 rfl rfl (by omega) (by omega)) rfl ?_
    refine DG.look rfl rfl (Yield.load ti81 rfl (by first | exact Cel.of_blk (by repeat (first | exact Ext.here | apply Ext.there)) rfl | exact (hrow (by repeat (first | exact Ext.here | apply Ext.there))) _ _ rfl)) rfl ?_
    refine DG.look rfl rfl (Yield.index_array Try.underlying93 ti81 rfl rfl (by omega) (by omega)) rfl ?_
    refine DG.look rfl rfl (Yield.load ti81 rfl (by first | exact Cel.of_blk (by repeat (first | exact Ext.here | apply Ext.there)) rfl | exact (hrow (by repeat (first | exact Ext.here | apply Ext.there))) _ _ rfl)) rfl ?_
    refine DG.eff1 ?_
    refine Chg.callo rfl rfl call29 rfl ((by repeat (first | exact Imp.refl _ | exact Imp.none _ | apply Imp.pull (by repeat (first | exact Ext.here | apply Ext.there)) | apply Imp.trans Imp.drop))) (pages_of W _ (n := 20) (qs := [14]) (s := x0.s) (m := x0.m) (f := x0.f) (t := x0.t) (k := 0) (r := x0.r) hL0 rfl) rfl (fun _ => (by repeat (first | exact Imp.refl _ | exact Imp.none _ | apply Imp.pull (by repeat (first | exact Ext.here | apply Ext.there)) | apply Imp.trans Imp.drop))) (fun _ => Imp.refl _) (fun _ => (by repeat (first | exact Imp.refl _ | exact Imp.none _ | apply Imp.pull (by repeat (first | exact Ext.here | apply Ext.there)) | apply Imp.trans Imp.drop))) ?_
    rintro ⟨ua, uc, ul⟩ hu
    dsimp only [List.cons_append, List.nil_append] at hu ⊢
    have hun : ul.length ≤ 1000000 := by rw [← List.length_map (f := PV.v), hu, pvTo_len]; exact Nat.le_trans (cN_le _ _) (by decide)
    refine DG.eff1 ?_
    refine Chg.callo rfl rfl call29 rfl ((by repeat (first | exact Imp.refl _ | exact Imp.none _ | apply Imp.pull (by repeat (first | exact Ext.here | apply Ext.there)) | apply Imp.trans Imp.drop))) (pages_of W _ (n := 20) (qs := [14]) (s := x2.s) (m := x2.m) (f := x2.f) (t := x2.t) (k := 0) (r := x2.r) hL2 rfl) rfl (fun _ => (by repeat (first | exact Imp.refl _ | exact Imp.none _ | apply Imp.pull (by repeat (first | exact Ext.here | apply Ext.there)) | apply Imp.trans Imp.drop))) (fun _ => Imp.refl _) (fun _ => (by repeat (first | exact Imp.refl _ | exact Imp.none _ | apply Imp.pull (by repeat (first | exact Ext.here | apply Ext.there)) | apply Imp.trans Imp.drop))) ?_
    rintro ⟨va, vc, vl⟩ hv
    dsimp only [List.cons_append, List.nil_append] at hv ⊢
    have hvn : vl.length ≤ 1000000 := by rw [← List.length_map (f := PV.v), hv, pvTo_len]; exact Nat.le_trans (cN_le _ _) (by decide)
    refine DG.eff1 ?_
    refine Chg.callo rfl rfl call36 rfl (Imp.refl _) (same_spec W _ (a1 := ua) (a2 := va) (c1 := uc) (c2 := vc) (l1 := ul) (l2 := vl) (by exact PVr.at (c := uc) (by repeat (first | exact Imp.refl _ | exact Imp.none _ | apply Imp.pull (by repeat (first | exact Ext.here | apply Ext.there)) | apply Imp.trans Imp.drop))) (by exact PVr.at (c := vc) (by repeat (first | exact Imp.refl _ | exact Imp.none _ | apply Imp.pull (by repeat (first | exact Ext.here | apply Ext.there)) | apply Imp.trans Imp.drop))) hun) rfl (fun _ => (by repeat (first | exact Imp.refl _ | exact Imp.none _ | apply Imp.pull (by repeat (first | exact Ext.here | apply Ext.there)) | apply Imp.trans Imp.drop))) (fun _ => Imp.refl _) (fun _ => (by repeat (first | exact Imp.refl _ | exact Imp.none _ | apply Imp.pull (by repeat (first | exact Ext.here | apply Ext.there)) | apply Imp.trans Imp.drop))) ?_
    rintro ⟨⟩ -
    rw [decide_eq_true (show ul.map PV.v = vl.map PV.v from hu.trans hv.symm)]
    refine DG.look rfl rfl (by first | exact Yield.pick_t rfl rfl | exact Yield.pick_f rfl rfl | exact Yield.pick rfl (fun _ => rfl) (fun _ => rfl)) rfl ?_
    refine DG.look rfl rfl (Yield.assign rfl) rfl ?_
    refine DG.done ?_
    refine QG.then ?_
    refine CG.ret ?_
    exact QG.ret1 rfl rfl () trivial rfl (by repeat (first | exact Imp.refl _ | exact Imp.none _ | apply Imp.pull (by repeat (first | exact Ext.here | apply Ext.there)) | apply Imp.trans Imp.drop))
open Go.ChangeShapes Go.WideShapes Go.ChangeAt
theorem own : ownKnob Try.prog.godebug = none := by kernel_rfl
theorem laid : laidOutB Try.prog = true := by kernel_rfl
set_option maxRecDepth 100000 in
theorem lifted (os : Os) (started : os.Started) (H : Type) (enc : TypeId × Value → H) :
    ReturnsInHanded {} Try.checked os 8 .any (Rows.spaceTlbSpec.pre6 enc Try.prog Try.f8 Rows.spaceTlbRow.domain false) (Rows.spaceTlbSpec.post enc Try.prog Try.f8 false true false false) := by
  refine returnsInHanded_of_change_sized (C := Try.checked) own started (by kernel_rfl) Try.func8
    (ChangeSpec.witness6 (enc := enc) (C := Try.checked) false ⟨#[], #[.slice none 0 0], []⟩ 8 (by kernel_rfl) (by kernel_rfl) (by kernel_rfl) (by kernel_rfl)) ?_
  intro W base args ds gs before hval0 hW hcnd hsz0 _
  have hsz : (DataW.weightsEach Try.prog (Try.f8.params.toList ++ Rows.spaceTlbSpec.plain.varTypes Try.prog) (ds ++ gs)).all (· ≤ reachBytes) = true := hsz0
  have hval : ∀ (j : Nat) t v, Try.f8.params[j]? = some t → args[j]? = some v → Value.okWide Try.prog W .any base t v := hval0
  have hW' := hW
  obtain ⟨p, q, hA0, hV, rfl, hfz, hnd⟩ := hW
  have hA : DataW.TrodAll enc Try.prog W 0 (fun _ => true) true Try.f8.params.toList args.toList ds p := hA0
  rw [Try.params8] at hA hval hsz
  obtain ⟨v0, vs0, d0, ds0, p0, q0, hargs, rfl, rfl, h0, r0⟩ := trodAll_cons hA
  obtain ⟨rfl, rfl, rfl⟩ := trodAll_nil r0
  obtain rfl : args = #[v0] := by cases args; simp_all
  obtain ⟨rfl, rfl⟩ := trodVars_none hV
  have k0 := weights_le hsz 0 (t := 59) (d := d0) rfl rfl
  have s0 := Opn.param Try.underlying59 (SOp.list W) (hval 0 59 v0 rfl rfl) h0 k0
  obtain ⟨x0, c0, ops, e0, l0, ok0, s0, m0⟩ := s0
  cases e0
  clear hA0 hval0 hsz0 hsz
  refine ((walk W s0 ok0) W (Sat.start W)).mono fun e W' he => ?_
  obtain ⟨_, _, he, hs⟩ := he
  subst he
  exact ⟨_, rfl, law_post laid (params_ok (by kernel_rfl)) rfl Try.underlying4 hW' rfl rfl (Sat.below (by repeat (first | exact Ext.here | apply Ext.there)) hs)⟩
theorem over : Rows.spaceTlbRow.holds Try.pinned (OpenSpec.ofChange Rows.spaceTlbSpec) :=
  OpenClaim.holds_of_wide 8 Try.f8 rfl rfl rfl rfl rfl rfl rfl ⟨rfl, rfl, rfl, rfl, rfl⟩ rfl rfl rfl rfl rfl (by kernel_rfl) Try.func8 (by kernel_rfl)
    (of_decide_eq_true (by kernel_rfl)) (by unfold Func.isWrapper; first | (rw [if_pos (by decide +kernel)]; kernel_rfl) | (rw [if_neg (by decide +kernel)]; exact ⟨rfl, rfl⟩))
    (fun os started H enc _ => lifted os started H enc)
theorem proved : Rows.SpaceTlbSaid := over
#print axioms proved
end Go.Proofs.Ytmlfcfbblfcpdaa.spaceTlb
