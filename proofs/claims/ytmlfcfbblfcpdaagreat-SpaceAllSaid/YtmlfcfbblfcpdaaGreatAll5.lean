/- A part of what the last text stands on: rules for steps of the model, and what functions of the program do. -/
import Derived.Test.YtmlfcfbblfcpdaaGreatAll4
set_option linter.unusedSimpArgs false
set_option linter.unusedVariables false
/- The document's space: Write. -/
namespace Go.Proofs.YtmlfcfbblfcpdaaGreat.Sp
open Go Go.Sl Go.RowKit Go.Proofs Go.Proofs.YtmlfcfbblfcpdaaGreat.T Go.Proofs.YtmlfcfbblfcpdaaGreat.Me Go.Proofs.YtmlfcfbblfcpdaaGreat.Pe Go.Proofs.YtmlfcfbblfcpdaaGreat.Pg
open Go.Proofs.YtmlfcfbblfcpdaaGreat.Fz (iv oiv)
set_option maxRecDepth 100000
theorem out_one {o : Ob} {k ad : Nat} {ys : List UInt8} {x : Nat × List UInt8} (hx : o.vw k (ad / 256) = some x) (hl : x.2.length = 256) (hs : ad % 256 + ys.length ≤ 256) (h0 : 0 < ys.length) : outO o k ad ys ys.length = ⟨up2 o.vw k (ad / 256) (some (x.1, overB x.2 (ad % 256) ys)), o.ts, o.fr⟩ := by
  have e : ends ad ys.length 0 = ys.length := by unfold ends; simp only [Nat.add_zero, Nat.zero_add]; omega
  have h := out_step (o := o) (k := k) (ad := ad) (j := 0) (b := ys) (p := x.1) (pg := x.2) (by rw [outO_zero, Nat.add_zero]; exact hx) hl h0
  rw [e, outO_zero, Nat.add_zero, List.drop_zero, Nat.sub_zero, List.take_length] at h
  exact h.symm
section
variable (W0 : World) (Fr : List HProp)
variable {o : Ob} {b w k : Nat} {ts : List Int}
theorem write_may {ad v : Nat} {sz : Int} (hs : sz = 1 ∨ sz = 2 ∨ sz = 4 ∨ sz = 8) (hal : (ad : Int) % sz = 0) : (rmay o k (ad : Int) 2 = false → writeO o k ad sz v = (90, o)) ∧ (∀ x, ad < 1048576 → o.vw k (ad / 256) = some x → may x.1 2 → writeO o k ad sz v = (0, ⟨up2 o.vw k (ad / 256) (some (x.1, overB x.2 (ad % 256) (putB v sz.toNat))), o.ts, o.fr⟩)) := by
  constructor
  · intro h
    unfold writeO
    rw [if_neg (fun q => q hs), if_neg (fun q => q hal)]
    by_cases h1 : 1048576 ≤ ad
    · rw [if_pos h1]
    · rw [if_neg h1]
      cases hx : o.vw k (ad / 256) with
      | none => rfl
      | some x =>
        simp only
        by_cases hm : may x.1 2
        · exfalso
          by_cases h0 : x.1 = 0
          · unfold may at hm
            rw [h0] at hm
            have : Go.bits .and .i64 ((0 : Nat) : Int) 2 = 0 := by decide
            omega
          · rw [rmay_iff.2 ⟨by omega, by decide, x, hx, h0, hm⟩] at h; cases h
        · rw [if_neg hm]
  · intro x h1 hx hm
    unfold writeO
    rw [if_neg (fun q => q hs), if_neg (fun q => q hal), if_neg (by omega), hx]
    simp only
    rw [if_pos hm]
set_option maxHeartbeats 2000000 in
theorem rwrite_spec (hK : ObK o k) {ad v : Nat} {sz : Int} (had : ad < 4294967296) (hv : v < 18446744073709551616) : Ctr Tryz.prog W0 34 [.pointer (some ⟨b, 0, none⟩), .int .u32 ad, .int .i64 sz, .int .u64 v] (RS b w k (pvs o k) ts :: Fr) (fun _ : Unit => True) (fun _ => .int .i64 (writeO o k ad sz v).1) (fun _ => RS b w k (pvs (writeO o k ad sz v).2 k) ts :: Fr) := by
  have hpl := pvs_len o k
  refine Ctr.of_body Tryz.func34 rfl Tryz.ntmps34 rfl ?_
  refine CG.seq ?_
  refine CG.region ?_
  refine OG.sg rfl rfl ?_
  refine OG.nil ?_
  refine QG.then ?_
  refine CG.seq ?_
  refine CG.region ?_
  refine OG.mv rfl rfl ?_
  refine OG.mv rfl rfl ?_
  refine OG.callo call73 rfl (iM) (rwrong_spec W0 _ (ad := ad) (sz := sz) had) rfl ?_
  rintro ⟨⟩ -
  refine OG.sg rfl rfl ?_
  refine OG.nil ?_
  refine QG.then ?_
  refine CG.seq ?_
  refine CG.seq ?_
  rcases (show ¬(sz = 1 ∨ sz = 2 ∨ sz = 4 ∨ sz = 8) ∨ ((sz = 1 ∨ sz = 2 ∨ sz = 4 ∨ sz = 8) ∧ (ad : Int) % sz ≠ 0) ∨ ((sz = 1 ∨ sz = 2 ∨ sz = 4 ∨ sz = 8) ∧ (ad : Int) % sz = 0) from (Decidable.em (sz = 1 ∨ sz = 2 ∨ sz = 4 ∨ sz = 8)).elim (fun h => (Decidable.em ((ad : Int) % sz = 0)).elim (fun q => .inr (.inr ⟨h, q⟩)) (fun q => .inr (.inl ⟨h, q⟩))) .inl) with hs | ⟨hs, hal⟩ | ⟨hs, hal⟩
  · skip
    rw [show wrongE ad sz = 5 by unfold wrongE; rw [if_pos hs], show writeO o k ad sz v = (5, o) by unfold writeO; rw [if_pos hs]]
    refine CG.region ?_
    refine OG.mv rfl rfl ?_
    refine OG.yield (Yield.as (Yield.neq rfl rfl) (v' := .bool true) rfl) rfl ?_
    refine OG.nil ?_
    refine QG.then ?_
    refine CG.cond_t rfl ?_
    refine CG.seq ?_
    refine CG.region ?_
    refine OG.mv rfl rfl ?_
    refine OG.sg rfl rfl ?_
    refine OG.nil ?_
    refine QG.then ?_
    refine CG.ret ?_
    refine QG.pass_ret ?_
    first | (rw [(write_may (v := v) hs hal).1 (by rw [hrm]; simpa using hc)]; exact QG.ret1 rfl rfl () trivial rfl iM) | exact QG.ret1 rfl rfl () trivial rfl iM
  · skip
    rw [show wrongE ad sz = 30 by unfold wrongE; rw [if_neg (fun q => q hs), if_pos hal], show writeO o k ad sz v = (30, o) by unfold writeO; rw [if_neg (fun q => q hs), if_pos hal]]
    refine CG.region ?_
    refine OG.mv rfl rfl ?_
    refine OG.yield (Yield.as (Yield.neq rfl rfl) (v' := .bool true) rfl) rfl ?_
    refine OG.nil ?_
    refine QG.then ?_
    refine CG.cond_t rfl ?_
    refine CG.seq ?_
    refine CG.region ?_
    refine OG.mv rfl rfl ?_
    refine OG.sg rfl rfl ?_
    refine OG.nil ?_
    refine QG.then ?_
    refine CG.ret ?_
    refine QG.pass_ret ?_
    first | (rw [(write_may (v := v) hs hal).1 (by rw [hrm]; simpa using hc)]; exact QG.ret1 rfl rfl () trivial rfl iM) | exact QG.ret1 rfl rfl () trivial rfl iM
  · skip
    rw [show wrongE ad sz = 0 by unfold wrongE; rw [if_neg (fun q => q hs), if_neg (fun q => q hal)]]
    refine CG.region ?_
    refine OG.mv rfl rfl ?_
    refine OG.yield (Yield.as (Yield.neq rfl rfl) (v' := .bool false) rfl) rfl ?_
    refine OG.nil ?_
    refine QG.then ?_
    refine CG.cond_f rfl ?_
    refine CG.skip ?_
    refine QG.then ?_
    refine CG.seq ?_
    refine CG.seq ?_
    refine CG.region ?_
    refine OG.mv rfl rfl ?_
    refine OG.mv rfl rfl ?_
    refine OG.yield (Yield.conv (c := (ad : Int)) Tryz.underlying3 rfl rfl (w64 (by omega) (by omega))) rfl ?_
    refine OG.callo call74 rfl (iM) (rmay_spec W0 _ (o := o) (b := b) (w := w) (k := k) (ts := ts) (a := (ad : Int)) (how := 2) (by decide)) rfl ?_
    rintro ⟨⟩ -
    generalize hrm : rmay o k (ad : Int) 2 = rm
    refine OG.yield (Yield.not rfl) rfl ?_
    refine OG.nil ?_
    refine QG.then ?_
    refine CG.cond rfl (fun hc => ?_) (fun hc => ?_)
    · try replace hc := of_decide_eq_true hc
      refine CG.seq ?_
      refine CG.region ?_
      refine OG.sg rfl rfl ?_
      refine OG.nil ?_
      refine QG.then ?_
      refine CG.ret ?_
      refine QG.pass_ret ?_
      first | (rw [(write_may (v := v) hs hal).1 (by rw [hrm]; simpa using hc)]; exact QG.ret1 rfl rfl () trivial rfl iM) | exact QG.ret1 rfl rfl () trivial rfl iM
    · try replace hc := of_decide_eq_false hc
      have hm : rmay o k (ad : Int) 2 = true := by rw [hrm]; simpa using hc
      obtain ⟨ha, hh0, x, hx, hx0, hmay⟩ := rmay_iff.1 hm
      have hro := (write_may (v := v) hs hal).2 x ha hx hmay
      have hxl := (hK _ _ hx).2
      have hq : ad / 256 < 4096 := by omega
      obtain ⟨s', rfl⟩ : ∃ s' : Nat, sz = (s' : Int) := ⟨sz.toNat, by omega⟩
      have hsum : ad % 256 + s' ≤ 256 := F0sum (by omega) (by omega)
      have hs0 : 0 < s' ∧ s' ≤ 8 := by omega
      have hpb : (putB v s').length = s' := putB_len v s'
      rw [Int.toNat_natCast, ← out_one hx hxl (by omega) (by omega), hpb] at hro
      rw [hro]
      refine CG.skip ?_
      refine QG.then ?_
      refine CG.seq ?_
      refine CG.region ?_
      refine OG.mv rfl rfl ?_
      refine OG.mv rfl rfl ?_
      refine OG.callo call78 rfl (Imp.refl _) (Me.rput_spec W0 _ (v := v) (s := s') hs0.2 hv) rfl ?_
      rintro ⟨pa, pc⟩ -
      refine OG.sg rfl rfl ?_
      refine OG.nil ?_
      refine QG.then ?_
      refine CG.seq ?_
      refine CG.seq ?_
      refine CG.region ?_
      refine OG.sg rfl rfl ?_
      refine OG.nil ?_
      refine QG.then ?_
      refine CG.block ?_
      refine CG.loop (fun i : Nat => i ≤ s') (fun i => [(0, .pointer (some ⟨b, 0, none⟩)), (1, .int .u32 ad), (2, .int .i64 s'), (10, .slice pa (putB v s').length pc), (11, .int .i64 i)]) (fun i => RS b w k (pvs (outO o k ad (putB v s') i) k) ts :: oby 5 pa pc (putB v s') :: Fr) (fun i => s' - i) 0 (Nat.zero_le _) eS (by rw [outO_zero]; exact iM) ?_
      intro j hj
      refine CG.seq ?_
      refine CG.seq ?_
      refine CG.region ?_
      refine OG.mv rfl rfl ?_
      refine OG.mv rfl rfl ?_
      refine OG.yield Yield.lssA rfl ?_
      refine OG.nil ?_
      refine QG.then ?_
      refine CG.cond rfl (fun hc => ?_) (fun hc => ?_)
      · try replace hc := of_decide_eq_true hc
        obtain ⟨cb, hcb⟩ : ∃ cb, (putB v s')[j]? = some cb := ⟨_, List.getElem?_eq_getElem (by omega)⟩
        have hdq : (ad + j) / 256 = ad / 256 := by omega
        rw [← hdq] at hx
        refine CG.pure (fun w hw => SlR.shape (SlR.of_osl (W0 := W0) (E := 5) (a := pa) (c := pc) eX) (fun q => by have := congrArg List.length q; rw [bytesV_length] at this; simp only [List.length_nil] at this; omega) w hw) ?_
        rintro ⟨bb, bo, rfl⟩
        refine CG.skip ?_
        refine QG.then ?_
        refine CG.seq ?_
        refine CG.block ?_
        refine CG.region ?_
        refine OG.mv rfl rfl ?_
        refine OG.mv rfl rfl ?_
        refine OG.yield (Yield.conv (c := (ad : Int)) Tryz.underlying3 rfl rfl (w64 (by omega) (by omega))) rfl ?_
        refine OG.mv rfl rfl ?_
        refine OG.yield (Yield.add (c := ((ad + j : Nat) : Int)) rfl rfl (by rw [w64 (by omega) (by omega)]; omega)) rfl ?_
        refine OG.mv rfl rfl ?_
        refine OG.mv rfl rfl ?_
        refine OG.yield (Yield.index_slice Tryz.underlying32 ti5 rfl rfl (by omega) (by rw [hpb]; omega)) rfl ?_
        refine OG.yield (Yield.load (v := byteV cb) ti5 rfl (by rw [show bo + (j : Int).toNat * 1 = bo + j * 1 by omega]; exact SlR.byte (SlR.of_osl (W0 := W0) (E := 5) (c := pc) eX) hcb)) rfl ?_
        refine OG.callo call79 rfl (iM) (rput_spec W0 _ (o := outO o k ad (putB v s') j) (b := b) (w := w) (k := k) (ts := ts) (a := ad + j) (c := cb) (by omega) (outO_vw hx) (by rw [putP_len]; exact hxl)) rfl ?_
        rintro ⟨⟩ -
        rw [outO_put hx hxl hcb]
        refine OG.nil ?_
        refine QG.block_normal ?_
        refine QG.then ?_
        refine CG.region ?_
        refine OG.mv rfl rfl ?_
        refine OG.yield (Yield.add rfl rfl (w64 (by omega) (by omega))) rfl ?_
        refine OG.sg rfl rfl ?_
        refine OG.nil ?_
        exact QG.next (j + 1) (by omega) (by first | omega | (simp only; omega)) eS iM
      · try replace hc := of_decide_eq_false hc
        refine CG.exit ?_
        refine QG.pass_exit ?_
        refine QG.pass_exit ?_
        refine QG.block_exit ?_
        refine QG.then ?_
        refine CG.seq ?_
        refine CG.region ?_
        refine OG.sg rfl rfl ?_
        refine OG.nil ?_
        refine QG.then ?_
        refine CG.ret ?_
        obtain rfl : j = s' := by omega
        exact QG.ret1 rfl rfl () trivial rfl iM
end
end Go.Proofs.YtmlfcfbblfcpdaaGreat.Sp
/- The document's space: Protect. -/
namespace Go.Proofs.YtmlfcfbblfcpdaaGreat.Sp
open Go Go.Sl Go.RowKit Go.Proofs Go.Proofs.YtmlfcfbblfcpdaaGreat.T Go.Proofs.YtmlfcfbblfcpdaaGreat.Me Go.Proofs.YtmlfcfbblfcpdaaGreat.Pe Go.Proofs.YtmlfcfbblfcpdaaGreat.Pg
open Go.Proofs.YtmlfcfbblfcpdaaGreat.Fz (iv oiv)
set_option maxRecDepth 100000
section
variable (W0 : World) (Fr : List HProp)
variable {o : Ob} {b w k : Nat} {ts : List Int}
set_option maxHeartbeats 1000000 in
theorem rprotect_spec (p pm : Int) : Ctr Tryz.prog W0 29 [.pointer (some ⟨b, 0, none⟩), .int .i64 p, .int .i64 pm] (RS b w k (pvs o k) ts :: Fr) (fun _ : Unit => True) (fun _ => .int .i64 (protO o k p pm).1) (fun _ => RS b w k (pvs (protO o k p pm).2 k) ts :: Fr) := by
  have hpl := pvs_len o k
  by_cases hg : (0 ≤ p ∧ p < 4096) ∧ 1 ≤ pm ∧ pm ≤ 7
  · obtain ⟨q, rfl⟩ := Int.eq_ofNat_of_zero_le hg.1.1
    obtain ⟨mm, rfl⟩ := Int.eq_ofNat_of_zero_le (show 0 ≤ pm by omega)
    have hq : q < 4096 := by omega
    cases hx : o.vw k q with
    | none =>
      have e := fnd_none (o := o) (k := k) (p := (q : Int)) (by rw [vI_nat hq, hx])
      rw [show protO o k (q : Int) (mm : Int) = (90, o) by unfold protO; rw [if_neg (by omega), Int.toNat_natCast, hx]]
      refine Ctr.of_body Tryz.func29 rfl Tryz.ntmps29 rfl ?_
      refine CG.seq ?_
      refine CG.region ?_
      refine OG.sg rfl rfl ?_
      refine OG.nil ?_
      refine QG.then ?_
      refine CG.seq ?_
      refine CG.seq ?_
      refine CG.region ?_
      refine OG.mv rfl rfl ?_
      refine OG.callo call64 rfl (iM) (rpages_ok W0 _ (q : Int)) rfl ?_
      rintro ⟨⟩ -
      rw [decide_eq_true hg.1]
      refine OG.yield (Yield.not rfl) rfl ?_
      refine OG.mv rfl rfl ?_
      refine OG.gy rfl rfl rfl ?_
      refine OG.mv rfl rfl ?_
      refine OG.gy rfl rfl rfl ?_
      refine OG.callo call65 rfl (iM) (rperms_ok W0 _ (mm : Int)) rfl ?_
      rintro ⟨⟩ -
      rw [decide_eq_true hg.2]
      refine OG.gy rfl rfl rfl ?_
      refine OG.yield (Yield.not rfl) rfl ?_
      refine OG.yield Yield.pickA rfl ?_
      refine OG.nil ?_
      refine QG.then ?_
      refine CG.cond_f rfl ?_
      refine CG.skip ?_
      refine QG.then ?_
      refine CG.seq ?_
      refine CG.region ?_
      refine OG.mv rfl rfl ?_
      refine OG.mv rfl rfl ?_
      refine OG.callo call70 rfl (iM) (rfind_spec W0 _ (b := b) (w := w) (k := k) (L := pvs o k) (ts := ts) (by omega) (q : Int)) rfl ?_
      rintro ⟨⟩ -
      rw [e]
      refine OG.sg rfl rfl ?_
      refine OG.nil ?_
      refine QG.then ?_
      refine CG.seq ?_
      refine CG.seq ?_
      refine CG.region ?_
      refine OG.mv rfl rfl ?_
      refine OG.yield Yield.lssA rfl ?_
      refine OG.nil ?_
      refine QG.then ?_
      refine CG.cond_t rfl ?_
      refine CG.seq ?_
      refine CG.region ?_
      refine OG.sg rfl rfl ?_
      refine OG.nil ?_
      refine QG.then ?_
      refine CG.ret ?_
      refine QG.pass_ret ?_
      exact QG.ret1 rfl rfl () trivial rfl iM
    | some x =>
      obtain ⟨e, -⟩ := fnd_some hq hx
      rw [show protO o k (q : Int) (mm : Int) = (0, ⟨up2 o.vw k q (some (mm, x.2)), o.ts, o.fr⟩) by unfold protO; rw [if_neg (by omega), Int.toNat_natCast, hx]; rfl]
      have hps := pvs_set (o := o) (k := k) (v := (mm, x.2)) (tb := o.ts) (fr := o.fr) hq hx
      refine Ctr.of_body Tryz.func29 rfl Tryz.ntmps29 rfl ?_
      refine CG.seq ?_
      refine CG.region ?_
      refine OG.sg rfl rfl ?_
      refine OG.nil ?_
      refine QG.then ?_
      refine CG.seq ?_
      refine CG.seq ?_
      refine CG.region ?_
      refine OG.mv rfl rfl ?_
      refine OG.callo call64 rfl (iM) (rpages_ok W0 _ (q : Int)) rfl ?_
      rintro ⟨⟩ -
      rw [decide_eq_true hg.1]
      refine OG.yield (Yield.not rfl) rfl ?_
      refine OG.mv rfl rfl ?_
      refine OG.gy rfl rfl rfl ?_
      refine OG.mv rfl rfl ?_
      refine OG.gy rfl rfl rfl ?_
      refine OG.callo call65 rfl (iM) (rperms_ok W0 _ (mm : Int)) rfl ?_
      rintro ⟨⟩ -
      rw [decide_eq_true hg.2]
      refine OG.gy rfl rfl rfl ?_
      refine OG.yield (Yield.not rfl) rfl ?_
      refine OG.yield Yield.pickA rfl ?_
      refine OG.nil ?_
      refine QG.then ?_
      refine CG.cond_f rfl ?_
      refine CG.skip ?_
      refine QG.then ?_
      refine CG.seq ?_
      refine CG.region ?_
      refine OG.mv rfl rfl ?_
      refine OG.mv rfl rfl ?_
      refine OG.callo call70 rfl (iM) (rfind_spec W0 _ (b := b) (w := w) (k := k) (L := pvs o k) (ts := ts) (by omega) (q : Int)) rfl ?_
      rintro ⟨⟩ -
      rw [e]
      refine OG.sg rfl rfl ?_
      refine OG.nil ?_
      refine QG.then ?_
      refine CG.seq ?_
      refine CG.seq ?_
      refine CG.region ?_
      refine OG.mv rfl rfl ?_
      refine OG.yield Yield.lssA rfl ?_
      refine OG.nil ?_
      refine QG.then ?_
      refine CG.cond_f rfl ?_
      refine CG.skip ?_
      refine QG.then ?_
      refine CG.seq ?_
      refine CG.ex (A := RS b w k (pvs o k) ts) eX rs_open ?_
      rintro ⟨za, zc, zl, zta, ztc⟩ hz
      refine CG.imp star_open ?_
      dsimp only [RSO, List.cons_append, List.nil_append] at hz ⊢
      obtain ⟨y, hy, y1, y2, y3⟩ := pv_at (z := ⟨za, zc, zl, zta, ztc⟩) hz hq hx
      dsimp only at hy
      have hil := (List.getElem?_eq_some_iff.1 hy).1
      refine CG.pure (fun w hw => SlR.elem_shape (W0 := W0) (f := PV.cells) (xs := zl) (i := (pvTo o k q).length) (SlR.of_osl (E := 61) (a := za) (c := zc) eX) PV.len (by decide) hil w hw) ?_
      rintro ⟨ol, oo, rfl⟩
      generalize (pvTo o k q).length = ii at *
      obtain ⟨yp, ypm, ya, yc, yb⟩ := y
      dsimp only at y1 y2 y3
      subst y1 y2 y3
      refine CG.region ?_
      refine OG.mv rfl rfl ?_
      refine OG.yield (Yield.nilCheck rfl) rfl ?_
      refine OG.yield (Yield.fieldAddr fa109_2 rfl) rfl ?_
      refine OG.yield (Yield.loadA ti49 rfl) rfl ?_
      refine OG.mv rfl rfl ?_
      refine OG.mv rfl rfl ?_
      refine OG.yield (Yield.as (Yield.index_slice Tryz.underlying49 ti61 rfl rfl (by omega) (by omega)) (v' := .pointer (some ⟨ol, oo + ii * 3, none⟩)) (by rw [Int.toNat_natCast])) rfl ?_
      refine OG.yield (Yield.fieldAddr fa61_1 rfl) rfl ?_
      refine OG.eff (Eff.storeFld 1 (b := ol) (o := oo) (i := ii) (fc' := PV.cells) (r := ⟨yp, x.1, ya, yc, x.2⟩) (r' := ⟨yp, mm, ya, yc, x.2⟩) (rs := zl) PV.len hy rfl (by decide) ti3 rfl rfl fC rfl rfl) rfl ?_
      rintro ⟨⟩ -
      refine OG.nil ?_
      refine QG.then ?_
      refine CG.seq ?_
      refine CG.region ?_
      refine OG.sg rfl rfl ?_
      refine OG.nil ?_
      refine QG.then ?_
      refine CG.ret ?_
      refine QG.ret1 rfl rfl () trivial rfl (Imp.trans (B := RSO b w k ts ⟨some ⟨ol, oo, none⟩, zc, zl.set ii ⟨yp, mm, ya, yc, x.2⟩, zta, ztc⟩ ++ Fr) ?_ (rs_close _ (by rw [List.map_set, hz]; exact hps)))
      dsimp only [RSO, List.cons_append, List.nil_append]
      rw [List.length_set, List.map_set (f := fun x : PV => oby 5 x.a x.c x.b), Ms.set_self (l := zl.map fun x => oby 5 x.a x.c x.b) (by rw [List.getElem?_map, hy]; rfl)]
      exact iM
  · rw [show protO o k p pm = (2, o) by unfold protO; rw [if_pos hg]]
    refine Ctr.of_body Tryz.func29 rfl Tryz.ntmps29 rfl ?_
    refine CG.seq ?_
    refine CG.region ?_
    refine OG.sg rfl rfl ?_
    refine OG.nil ?_
    refine QG.then ?_
    refine CG.seq ?_
    refine CG.seq ?_
    rcases Decidable.em (0 ≤ p ∧ p < 4096) with hp | hp
    · skip
      refine CG.region ?_
      refine OG.mv rfl rfl ?_
      refine OG.callo call64 rfl (iM) (rpages_ok W0 _ p) rfl ?_
      rintro ⟨⟩ -
      rw [decide_eq_true hp]
      refine OG.yield (Yield.not rfl) rfl ?_
      refine OG.mv rfl rfl ?_
      refine OG.gy rfl rfl rfl ?_
      refine OG.mv rfl rfl ?_
      refine OG.gy rfl rfl rfl ?_
      refine OG.callo call65 rfl (iM) (rperms_ok W0 _ pm) rfl ?_
      rintro ⟨⟩ -
      rw [decide_eq_false (fun q => hg ⟨hp, q⟩)]
      refine OG.gy rfl rfl rfl ?_
      refine OG.yield (Yield.not rfl) rfl ?_
      refine OG.yield Yield.pickA rfl ?_
      refine OG.nil ?_
      refine QG.then ?_
      refine CG.cond_t rfl ?_
      refine CG.seq ?_
      refine CG.region ?_
      refine OG.sg rfl rfl ?_
      refine OG.nil ?_
      refine QG.then ?_
      refine CG.ret ?_
      refine QG.pass_ret ?_
      exact QG.ret1 rfl rfl () trivial rfl iM
    · skip
      refine CG.region ?_
      refine OG.mv rfl rfl ?_
      refine OG.callo call64 rfl (iM) (rpages_ok W0 _ p) rfl ?_
      rintro ⟨⟩ -
      rw [decide_eq_false hp]
      refine OG.yield (Yield.not rfl) rfl ?_
      refine OG.mv rfl rfl ?_
      refine OG.gn rfl rfl rfl rfl rfl ?_
      refine OG.gn rfl rfl rfl rfl rfl ?_
      refine OG.gn rfl rfl rfl rfl rfl ?_
      refine OG.yield Yield.pickA rfl ?_
      refine OG.nil ?_
      refine QG.then ?_
      refine CG.cond_t rfl ?_
      refine CG.seq ?_
      refine CG.region ?_
      refine OG.sg rfl rfl ?_
      refine OG.nil ?_
      refine QG.then ?_
      refine CG.ret ?_
      refine QG.pass_ret ?_
      exact QG.ret1 rfl rfl () trivial rfl iM
end
end Go.Proofs.YtmlfcfbblfcpdaaGreat.Sp
/- The document's space: Pages. -/
namespace Go.Proofs.YtmlfcfbblfcpdaaGreat.Sp
open Go Go.Sl Go.RowKit Go.Proofs Go.Proofs.YtmlfcfbblfcpdaaGreat.T Go.Proofs.YtmlfcfbblfcpdaaGreat.Me Go.Proofs.YtmlfcfbblfcpdaaGreat.Pe Go.Proofs.YtmlfcfbblfcpdaaGreat.Pg
open Go.Proofs.YtmlfcfbblfcpdaaGreat.Fz (iv oiv)
set_option maxRecDepth 100000
section
variable (W0 : World) (Fr : List HProp)
variable {b w k : Nat} {ts : List Int} {L : List PGv}
end
end Go.Proofs.YtmlfcfbblfcpdaaGreat.Sp
/- The document's space: a page is laid in its place. -/
namespace Go.Proofs.YtmlfcfbblfcpdaaGreat.Sp
open Go Go.Sl Go.RowKit Go.Proofs Go.Proofs.YtmlfcfbblfcpdaaGreat.T Go.Proofs.YtmlfcfbblfcpdaaGreat.Me Go.Proofs.YtmlfcfbblfcpdaaGreat.Pe Go.Proofs.YtmlfcfbblfcpdaaGreat.Pg
open Go.Proofs.YtmlfcfbblfcpdaaGreat.Fz (iv oiv)
set_option maxRecDepth 100000
/-- A list with one more. -/
def insP (zl : List PV) (pos : Nat) (x : PV) : List PV := zl.take pos ++ x :: zl.drop pos
/-- How many of it are there after some rounds. -/
def cutP (pos i : Nat) : Nat := if i ≤ pos then i else i + 1
theorem insP_len {zl : List PV} {pos : Nat} {x : PV} (h : pos ≤ zl.length) : (insP zl pos x).length = zl.length + 1 := by unfold insP; rw [List.length_append, List.length_cons, List.length_take, List.length_drop]; omega
theorem insP_at {zl : List PV} {pos : Nat} {x : PV} (h : pos ≤ zl.length) : (insP zl pos x)[pos]? = some x := by
  unfold insP
  have e : (zl.take pos).length = pos := by rw [List.length_take]; omega
  rw [List.getElem?_append_right (by omega), e, Nat.sub_self]; rfl
theorem insP_lo {zl : List PV} {pos i : Nat} {x : PV} (h : pos ≤ zl.length) (hi : i < pos) : (insP zl pos x)[i]? = zl[i]? := by
  unfold insP
  have e : (zl.take pos).length = pos := by rw [List.length_take]; omega
  rw [List.getElem?_append_left (by omega), List.getElem?_take, if_pos hi]
theorem insP_hi {zl : List PV} {pos i : Nat} {x : PV} (h : pos ≤ zl.length) (hi : pos ≤ i) : (insP zl pos x)[i + 1]? = zl[i]? := by
  unfold insP
  have e : (zl.take pos).length = pos := by rw [List.length_take]; omega
  rw [List.getElem?_append_right (by omega), e, show i + 1 - pos = (i - pos) + 1 by omega, List.getElem?_cons_succ, List.getElem?_drop]; congr 1; omega
theorem take_snoc {l : List PV} {i : Nat} {x : PV} (hx : l[i]? = some x) : l.take (i + 1) = l.take i ++ [x] := by
  obtain ⟨q1, q2⟩ := List.getElem?_eq_some_iff.1 hx
  rw [List.take_succ_eq_append_getElem q1, q2]
/-- Where a page goes. -/
theorem pos_cmp {o : Ob} {k p : Nat} {zl : List PV} {i : Nat} {y : PV} (hz : zl.map PV.v = pvs o k) (hp : p < 4096) (hn : o.vw k p = none) (hy : zl[i]? = some y) : (i < (pvTo o k p).length → y.p < p) ∧ ((pvTo o k p).length ≤ i → p < y.p) := by
  have e := pvs_cut o k hp
  rw [hn, ← hz] at e
  have h : (zl.map PV.v)[i]? = some y.v := by rw [List.getElem?_map, hy]; rfl
  rw [e, show optP p none = [] from rfl, List.append_nil] at h
  constructor
  · intro hi
    rw [List.getElem?_append_left hi] at h
    exact (pvTo_in (List.mem_of_getElem? h)).1
  · intro hi
    rw [List.getElem?_append_right hi] at h
    have := pvR_in (List.mem_of_getElem? h)
    have e2 : y.v.1 = y.p := rfl
    omega
theorem ins_pvs {o : Ob} {k fr : Nat} {x : PV} {zl : List PV} {tb : Nat → Nat → Bool} (hz : zl.map PV.v = pvs o k) (hp : x.p < 4096) (hn : o.vw k x.p = none) : (insP zl (pvTo o k x.p).length x).map PV.v = pvs ⟨up2 o.vw k x.p (some (x.pm, x.b)), tb, fr⟩ k := by
  have e := pvs_cut o k hp
  rw [hn, show optP x.p none = [] from rfl, List.append_nil] at e
  unfold insP
  rw [List.map_append, List.map_cons, List.map_take, List.map_drop, hz, e, pvs_upd hp, List.take_left' rfl, List.drop_left' rfl]
  simp [optP, PV.v]
end Go.Proofs.YtmlfcfbblfcpdaaGreat.Sp
/- The document's space: which tables there are; plain. -/
namespace Go.Proofs.YtmlfcfbblfcpdaaGreat.Sp
open Go Go.Sl Go.RowKit Go.Proofs Go.Proofs.YtmlfcfbblfcpdaaGreat.T Go.Proofs.YtmlfcfbblfcpdaaGreat.Me Go.Proofs.YtmlfcfbblfcpdaaGreat.Pe Go.Proofs.YtmlfcfbblfcpdaaGreat.Pg
open Go.Proofs.YtmlfcfbblfcpdaaGreat.Fz (iv oiv)
set_option maxRecDepth 100000
/-- The list of tables is the space's. -/
structure TsOk (o : Ob) (k : Nat) (ts : List Int) : Prop where
  mem : ∀ g : Nat, o.ts k g = true ↔ (g : Int) ∈ ts
  len : ts.length = cN (o.ts k) 64
theorem TsOk.le {o : Ob} {k : Nat} {ts : List Int} (h : TsOk o k ts) : ts.length ≤ 64 := by rw [h.len]; exact cN_le _ _
/-- A page's table is there then. -/
def insT (ts : List Int) (p : Nat) : List Int := if ((p / 64 : Nat) : Int) ∈ ts then ts else ts ++ [((p / 64 : Nat) : Int)]
theorem tsOk_up {o o' : Ob} {k p : Nat} {ts : List Int} (h : TsOk o k ts) (hp : p < 4096) (e : o'.ts = up2 o.ts k (p / 64) true) : TsOk o' k (insT ts p) := by
  have hc := cN_ts (h := o.ts) (k := k) (g := p / 64) (k' := k) (m := 64) (by omega)
  have hm := h.mem (p / 64)
  have hl := h.len
  unfold insT
  constructor
  · intro g
    rw [e]
    by_cases hg : g = p / 64
    · subst hg
      rw [up2_at]
      split <;> simp_all
    · rw [up2_ne (by omega), h.mem g]
      split
      · rfl
      · simp only [List.mem_append, List.mem_singleton]
        constructor
        · exact .inl
        · rintro (q | q)
          · exact q
          · omega
  · rw [e]
    by_cases hq : ((p / 64 : Nat) : Int) ∈ ts
    · rw [if_pos hq, hl, hc, if_neg (by rw [hm.2 hq]; simp)]; rfl
    · rw [if_neg hq, List.length_append, hl, hc, if_pos ⟨rfl, by cases h2 : o.ts k (p / 64) with | false => rfl | true => exact absurd (hm.1 h2) hq⟩]; rfl
def layT (ts : List Int) : List PGv → List Int
  | [] => ts
  | x :: l => layT (insT ts x.1) l
theorem layT_snoc {x : PGv} : ∀ {l : List PGv} {ts : List Int}, layT ts (l ++ [x]) = insT (layT ts l) x.1
  | [], _ => rfl
  | y :: l, ts => by show layT (insT ts y.1) (l ++ [x]) = _; rw [layT_snoc]; rfl
theorem tsOk_lay {k : Nat} : ∀ {l : List PGv} {o : Ob} {ts : List Int}, (∀ x ∈ l, x.1 < 4096) → TsOk o k ts → TsOk (layL o k l) k (layT ts l)
  | [], _, _, _, h => h
  | x :: l, o, ts, hl, h => tsOk_lay (l := l) (o := lay1 o k x) (ts := insT ts x.1) (fun y hy => hl y (List.mem_cons_of_mem _ hy)) (tsOk_up h (hl x (List.mem_cons_self ..)) rfl)
theorem tsOk_same {o o' : Ob} {k : Nat} {ts : List Int} (h : TsOk o k ts) (e : o'.ts k = o.ts k) : TsOk o' k ts := ⟨fun g => by rw [e]; exact h.mem g, by rw [e]; exact h.len⟩
theorem take_snoc' {α : Type} {l : List α} {i : Nat} {x : α} (hx : l[i]? = some x) : l.take (i + 1) = l.take i ++ [x] := by
  obtain ⟨q1, q2⟩ := List.getElem?_eq_some_iff.1 hx
  rw [List.take_succ_eq_append_getElem q1, q2]
/-- The tables that are new to some pages. -/
def newT (o : Ob) (k : Nat) : List Int → List PGv → List Int
  | tb, [] => tb
  | tb, x :: l => newT o k (if o.ts k (x.1 / 64) = true ∨ ((x.1 / 64 : Nat) : Int) ∈ tb then tb else tb ++ [((x.1 / 64 : Nat) : Int)]) l
theorem newT_snoc {o : Ob} {k : Nat} {x : PGv} : ∀ {l : List PGv} {tb : List Int}, newT o k tb (l ++ [x]) = (if o.ts k (x.1 / 64) = true ∨ ((x.1 / 64 : Nat) : Int) ∈ newT o k tb l then newT o k tb l else newT o k tb l ++ [((x.1 / 64 : Nat) : Int)])
  | [], _ => rfl
  | y :: l, tb => by simp only [List.cons_append, newT]; exact newT_snoc
theorem newT_in {o : Ob} {k : Nat} : ∀ {l : List PGv} {o' : Ob} {tb : List Int}, (∀ g : Nat, o'.ts k g = true ↔ (o.ts k g = true ∨ (g : Int) ∈ tb)) → ∀ g : Nat, (layL o' k l).ts k g = true ↔ (o.ts k g = true ∨ (g : Int) ∈ newT o k tb l)
  | [], _, _, h => h
  | x :: l, o', tb, h => by
    refine newT_in (l := l) (o' := lay1 o' k x) fun g => ?_
    show up2 o'.ts k (x.1 / 64) true k g = true ↔ _
    by_cases hg : g = x.1 / 64
    · subst hg
      rw [up2_at]
      split
      · rename_i q; simpa using q
      · simp
    · rw [up2_ne (by omega), h g]
      split
      · rfl
      · simp only [List.mem_append, List.mem_singleton]
        constructor
        · rintro (q | q)
          · exact .inl q
          · exact .inr (.inl q)
        · rintro (q | q | q)
          · exact .inl q
          · exact .inr q
          · omega
theorem newT_len {o : Ob} {k : Nat} : ∀ {l : List PGv} {tb : List Int}, (newT o k tb l).length ≤ tb.length + l.length
  | [], _ => Nat.le_refl _
  | x :: l, tb => by
    have := newT_len (o := o) (k := k) (l := l) (tb := if o.ts k (x.1 / 64) = true ∨ ((x.1 / 64 : Nat) : Int) ∈ tb then tb else tb ++ [((x.1 / 64 : Nat) : Int)])
    unfold newT
    rw [List.length_cons]
    split at this <;> simp_all <;> omega
theorem needL_le {k : Nat} : ∀ {l : List PGv} {o : Ob}, l.length ≤ needL o k l ∧ needL o k l ≤ 2 * l.length
  | [], _ => ⟨Nat.le_refl _, Nat.le_refl _⟩
  | x :: l, o => by
    have := needL_le (k := k) (l := l) (o := lay1 o k x)
    have h : 1 ≤ cost1 o k x.1 ∧ cost1 o k x.1 ≤ 2 := by unfold cost1; split <;> omega
    simp only [needL, List.length_cons]; omega
theorem layL_len {k : Nat} : ∀ {l : List PGv} {o : Ob}, (layL o k l).fr = o.fr - needL o k l
  | [], _ => rfl
  | x :: l, o => by
    show (layL (lay1 o k x) k l).fr = o.fr - (cost1 o k x.1 + needL (lay1 o k x) k l)
    rw [layL_len]; show o.fr - cost1 o k x.1 - _ = _; omega
theorem nob_all {o : Ob} {k : Nat} {l : List PGv} {i : Nat} {x : PGv} (hx : l[i]? = some x) (h : ∀ y ∈ l.take i, o.vw k y.1 = none) (hp : o.vw k x.1 = none) : ∀ y ∈ l.take (i + 1), o.vw k y.1 = none := take_all (P := fun y => o.vw k y.1 = none) hx h hp
end Go.Proofs.YtmlfcfbblfcpdaaGreat.Sp
/- The document's space: lay, walked. -/
namespace Go.Proofs.YtmlfcfbblfcpdaaGreat.Sp
open Go Go.Sl Go.RowKit Go.Proofs Go.Proofs.YtmlfcfbblfcpdaaGreat.T Go.Proofs.YtmlfcfbblfcpdaaGreat.Me Go.Proofs.YtmlfcfbblfcpdaaGreat.Pe Go.Proofs.YtmlfcfbblfcpdaaGreat.Pg
open Go.Proofs.YtmlfcfbblfcpdaaGreat.Fz (iv oiv iv_append iv_ones)
set_option maxRecDepth 100000
abbrev outL (zl : List PV) (pos : Nat) (x : PV) (i : Nat) : List PV := (insP zl pos x).take (cutP pos i)
theorem outL_lo {zl : List PV} {pos i : Nat} {x y : PV} (h : pos ≤ zl.length) (hi : i < pos) (hy : zl[i]? = some y) : outL zl pos x (i + 1) = outL zl pos x i ++ [y] := by
  unfold outL cutP; rw [if_pos (by omega), if_pos (by omega)]; exact take_snoc (by rw [insP_lo h hi]; exact hy)
theorem outL_at {zl : List PV} {pos : Nat} {x y : PV} (h : pos ≤ zl.length) (hy : zl[pos]? = some y) : outL zl pos x (pos + 1) = outL zl pos x pos ++ [x] ++ [y] := by
  unfold outL cutP; rw [if_neg (by omega), if_pos (Nat.le_refl _), take_snoc (by rw [insP_hi h (Nat.le_refl _)]; exact hy), take_snoc (insP_at h)]
theorem outL_hi {zl : List PV} {pos i : Nat} {x y : PV} (h : pos ≤ zl.length) (hi : pos < i) (hy : zl[i]? = some y) : outL zl pos x (i + 1) = outL zl pos x i ++ [y] := by
  unfold outL cutP; rw [if_neg (by omega), if_neg (by omega)]; exact take_snoc (by rw [insP_hi h (by omega)]; exact hy)
theorem outL_end {zl : List PV} {pos : Nat} {x : PV} (h : pos < zl.length) : outL zl pos x zl.length = insP zl pos x := by
  unfold outL cutP; rw [if_neg (by omega)]; exact List.take_of_length_le (by rw [insP_len (by omega)]; omega)
theorem outL_last {zl : List PV} {x : PV} : insP zl zl.length x = outL zl zl.length x zl.length ++ [x] := by
  unfold outL cutP; rw [if_pos (Nat.le_refl _)]
  have h1 := take_snoc (insP_at (zl := zl) (x := x) (Nat.le_refl zl.length))
  rw [← h1]; exact (List.take_of_length_le (by rw [insP_len (Nat.le_refl _)]; omega)).symm
theorem outL_len {zl : List PV} {pos i : Nat} {x : PV} (h : pos ≤ zl.length) : (outL zl pos x i).length ≤ zl.length + 1 := by
  unfold outL; rw [List.length_take, insP_len h]; omega
theorem osl_snoc {a : Option Addr} {c : Nat} {l : List PV} {x : PV} {G : List HProp} : Imp (osl 61 3 a c (l.length + 1) ((l.map PV.cells).flatten ++ x.cells) :: G) (osl 61 3 a c (l ++ [x]).length (((l ++ [x]).map PV.cells).flatten) :: G) := by
  rw [show osl 61 3 a c (l ++ [x]).length (((l ++ [x]).map PV.cells).flatten) = osl 61 3 a c (l.length + 1) ((l.map PV.cells).flatten ++ x.cells) by simp]
  exact Imp.refl _
abbrev obx (x : PV) : HProp := oby 5 x.a x.c x.b
theorem star_ins {zl : List PV} {pos : Nat} {x : PV} {G : List HProp} (h : pos ≤ zl.length) : Imp (obx x :: Star (zl.map obx) :: G) (Star ((insP zl pos x).map obx) :: G) := by
  have h1 : ((insP zl pos x).map obx)[pos]? = some (obx x) := by rw [List.getElem?_map, insP_at h]; rfl
  have h2 := star_put (B := obx x) (G := G) h1
  have e1 : ((insP zl pos x).map obx).eraseIdx pos = zl.map obx := by
    unfold insP
    have el : ((zl.take pos).map obx).length = pos := by rw [List.length_map, List.length_take]; omega
    rw [List.map_append, List.eraseIdx_append_of_length_le (by omega), el, Nat.sub_self, List.map_cons, List.eraseIdx_zero, List.tail_cons, ← List.map_append, List.take_append_drop]
  rw [e1, Ms.set_self h1] at h2
  exact h2
section
variable (W0 : World) (Fr : List HProp)
variable {o : Ob} {b w k : Nat} {ts : List Int}
set_option maxHeartbeats 2000000 in
theorem rlay_spec {x : PV} {fr : Nat} {tb : Nat → Nat → Bool} (hp : x.p < 4096) (hn : o.vw k x.p = none) (hts : ts.length ≤ 64) : Ctr Tryz.prog W0 97 [.pointer (some ⟨b, 0, none⟩), .agg x.cells.toArray] (oby 5 x.a x.c x.b :: RS b w k (pvs o k) ts :: Fr) (fun _ : Unit => True) (fun _ => .tuple #[])
    (fun _ => RS b w k (pvs ⟨up2 o.vw k x.p (some (x.pm, x.b)), tb, fr⟩ k) (insT ts x.p) :: Fr) := by
  have hpl := pvs_len o k
  refine Ctr.imp (Imp.trans (B := RS b w k (pvs o k) ts :: oby 5 x.a x.c x.b :: Fr) iM (Imp.refl _)) ?_
  refine Ctr.ex Ext.here rs_open ?_
  rintro ⟨za, zc, zl, zta, ztc⟩ hz
  refine Ctr.imp star_open ?_
  dsimp only [RSO, List.cons_append, List.nil_append] at hz ⊢
  have hzl : zl.length = (pvs o k).length := by rw [← hz, List.length_map]
  have hins := ins_pvs (fr := fr) (tb := tb) hz hp hn
  have hcmp := fun (i : Nat) (y : PV) => pos_cmp (i := i) (y := y) hz hp hn
  have hpos : (pvTo o k x.p).length ≤ zl.length := by
    have e := pvs_cut o k hp
    rw [hzl, e]; simp only [List.length_append]; omega
  generalize (pvTo o k x.p).length = pos at *
  have hzl4 : zl.length ≤ 4096 := by omega
  refine Ctr.of_body Tryz.func97 rfl Tryz.ntmps97 rfl ?_
  refine CG.seq ?_
  refine CG.region ?_
  refine OG.effd (Eff.box rfl) rfl ?_
  rintro b3 -
  refine OG.nil ?_
  refine QG.then ?_
  refine CG.seq ?_
  refine CG.region ?_
  refine OG.sg rfl rfl ?_
  refine OG.nil ?_
  refine QG.then ?_
  refine CG.seq ?_
  refine CG.region ?_
  refine OG.sg rfl rfl ?_
  refine OG.nil ?_
  refine QG.then ?_
  refine CG.seq ?_
  refine CG.seq ?_
  refine CG.region ?_
  refine OG.sg rfl rfl ?_
  refine OG.nil ?_
  refine QG.then ?_
  refine CG.block ?_
  refine CG.loop (fun y : Nat × Option Addr × Nat => y.1 ≤ zl.length) (fun y => [(0, .pointer (some ⟨b, 0, none⟩)), (3, .pointer (some ⟨b3, 0, none⟩)), (4, .slice y.2.1 (outL zl pos x y.1).length y.2.2), (5, .bool (decide (pos < y.1))), (6, .int .i64 y.1)]) (fun y => osl 61 3 y.2.1 y.2.2 (outL zl pos x y.1).length (((outL zl pos x y.1).map PV.cells).flatten) :: blk b3 x.cells 61 :: (RSO b w k ts ⟨za, zc, zl, zta, ztc⟩ ++ (oby 5 x.a x.c x.b :: Fr))) (fun y => zl.length - y.1) (0, none, 0) (Nat.zero_le _) eS (Imp.trans osl_nil iM) ?_
  rintro ⟨i, ya, yc⟩ hi
  dsimp only [RSO, List.cons_append, List.nil_append] at hi ⊢
  have hol := outL_len (i := i) (x := x) hpos
  refine CG.seq ?_
  refine CG.seq ?_
  refine CG.region ?_
  refine OG.mv rfl rfl ?_
  refine OG.mv rfl rfl ?_
  refine OG.yield (Yield.nilCheck rfl) rfl ?_
  refine OG.yield (Yield.fieldAddr fa109_2 rfl) rfl ?_
  refine OG.yield (Yield.loadA ti49 rfl) rfl ?_
  refine OG.yield (Yield.len_slice Tryz.underlying49 rfl rfl) rfl ?_
  refine OG.yield Yield.lssA rfl ?_
  refine OG.nil ?_
  refine QG.then ?_
  refine CG.cond rfl (fun hc => ?_) (fun hc => ?_)
  · try replace hc := of_decide_eq_true hc
    obtain ⟨y, hy⟩ : ∃ y, zl[i]? = some y := ⟨_, List.getElem?_eq_getElem (by omega)⟩
    have hil := (List.getElem?_eq_some_iff.1 hy).1
    obtain ⟨hc1, hc2⟩ := hcmp i y hy
    refine CG.pure (fun w hw => SlR.elem_shape (W0 := W0) (f := PV.cells) (xs := zl) (i := i) (SlR.of_osl (E := 61) (a := za) (c := zc) eX) PV.len (by decide) hil w hw) ?_
    rintro ⟨ol, oo, rfl⟩
    refine CG.skip ?_
    refine QG.then ?_
    refine CG.seq ?_
    refine CG.block ?_
    refine CG.seq ?_
    refine CG.seq ?_
    rcases (show i < pos ∨ i = pos ∨ pos < i by omega) with hh | hh | hh
    · skip
      have e1 := outL_lo (x := x) hpos hh hy
      have hlt := hc1 hh
      rw [show decide (pos < i) = false from decide_eq_false (by omega)]
      generalize outL zl pos x i = out at e1 hol ⊢
      refine CG.draw (.look 0 1 (.look 1 1 (.look 2 1 (.look 3 1 (.look 4 1 (.look 5 1 (.look 6 1 (.look 7 1 (.look 8 1 (.look 9 1 (.look 10 1 (.look 11 1 (.look 12 1 (.look 13 1 (.look 14 1 (.done)))))))))))))))) [] [] ([]) ([]) mixed (by kernel_rfl) (Imp.none _) (Imp.none _) ?_
      refine DG.look rfl rfl (Yield.move rfl) rfl ?_
      refine DG.look rfl rfl (Yield.not rfl) rfl ?_
      refine DG.look rfl rfl (Yield.move rfl) rfl ?_
      refine DG.look rfl rfl (Yield.move rfl) rfl ?_
      refine DG.look rfl rfl (Yield.nilCheck rfl) rfl ?_
      refine DG.look rfl rfl (Yield.fieldAddr fa109_2 rfl) rfl ?_
      refine DG.look rfl rfl (Yield.loadA ti49 rfl) rfl ?_
      refine DG.look rfl rfl (Yield.move rfl) rfl ?_
      refine DG.look rfl rfl (Yield.index_slice Tryz.underlying49 ti61 rfl rfl (by omega) (by omega)) rfl ?_
      refine DG.look rfl rfl (Yield.fieldAddr fa61_0 rfl) rfl ?_
      refine DG.look rfl rfl (Yield.load (v := .int .i64 y.p) ti3 rfl (by rw [show oo + (i : Int).toNat * 3 = oo + i * 3 by omega]; exact (SlR.elem (f := PV.cells) (xs := zl) (i := i) (SlR.of_osl (W0 := W0) (E := 61) (a := some ⟨ol, oo, none⟩) (c := zc) eX) PV.len hy) 0 _ rfl)) rfl ?_
      refine DG.look rfl rfl (Yield.fieldAddr fa61_0 rfl) rfl ?_
      refine DG.look rfl rfl (Yield.load (v := .int .i64 x.p) ti3 rfl (Cel.of_blk eX rfl)) rfl ?_
      refine DG.look rfl rfl Yield.gtrA rfl ?_
      refine DG.look rfl rfl Yield.pickA rfl ?_
      refine DG.done ?_
      refine QG.then ?_
      refine CG.cond_f rfl ?_
      refine CG.skip ?_
      refine QG.then ?_
      refine CG.region ?_
      refine OG.mv rfl rfl ?_
      refine OG.mv rfl rfl ?_
      refine OG.yield (Yield.nilCheck rfl) rfl ?_
      refine OG.yield (Yield.fieldAddr fa109_2 rfl) rfl ?_
      refine OG.yield (Yield.loadA ti49 rfl) rfl ?_
      refine OG.mv rfl rfl ?_
      refine OG.yield (Yield.index_slice Tryz.underlying49 ti61 rfl rfl (by omega) (by omega)) rfl ?_
      refine OG.yield (Yield.load_agg (vs := y.cells) ti61 rfl (PV.len _) (by rw [show oo + (i : Int).toNat * 3 = oo + i * 3 by omega]; exact SlR.elem (f := PV.cells) (xs := zl) (i := i) (SlR.of_osl (W0 := W0) (E := 61) (a := some ⟨ol, oo, none⟩) (c := zc) eX) PV.len hy)) rfl ?_
      refine OG.effd (Eff.lit [.tmp 42] (vs := [.agg y.cells.toArray]) (cells := y.cells) Tryz.underlying49 ti61 rfl rfl rfl rfl (by decide) (by simp [Value.cells, PV.cells]) (by simp [Value.cells])) rfl ?_
      rintro b43 -
      refine OG.effd (Eff.append (a := ya) (c := yc) (m := out.length) (xs := (out.map PV.cells).flatten) (k := 1) (ys := y.cells) rfl rfl rfl Tryz.underlying49 Tryz.underlying49 ti61 rfl (by decide) fC (SlR.of_osl (a := some ⟨b43, 0, none⟩) eX) (PV.ones _) (by omega)) rfl ?_
      rintro ⟨yb, yd⟩ -
      refine OG.sg rfl rfl ?_
      refine OG.nil ?_
      refine QG.block_normal ?_
      refine QG.then ?_
      refine CG.region ?_
      refine OG.mv rfl rfl ?_
      refine OG.yield (Yield.add rfl rfl (w64 (by omega) (by omega))) rfl ?_
      refine OG.sg rfl rfl ?_
      refine OG.nil ?_
      refine QG.next (i + 1, yb, yd) (by simp only; omega) (by simp only; omega) ?_ ?_
      · dsimp only; rw [e1, List.length_append, show decide (pos < i + 1) = false from decide_eq_false (by omega)]; exact eS
      · dsimp only; rw [e1]; exact Imp.trans (B := osl 61 3 yb yd (out.length + 1) ((out.map PV.cells).flatten ++ y.cells) :: blk b3 x.cells 61 :: (RSO b w k ts ⟨some ⟨ol, oo, none⟩, zc, zl, zta, ztc⟩ ++ (oby 5 x.a x.c x.b :: Fr))) iM osl_snoc
    · skip
      subst hh
      have e1 := outL_at (x := x) hpos hy
      have hlt := hc2 (Nat.le_refl _)
      rw [show decide (i < i) = false from decide_eq_false (by omega)]
      generalize outL zl i x i = out at e1 hol ⊢
      refine CG.draw (.look 0 1 (.look 1 1 (.look 2 1 (.look 3 1 (.look 4 1 (.look 5 1 (.look 6 1 (.look 7 1 (.look 8 1 (.look 9 1 (.look 10 1 (.look 11 1 (.look 12 1 (.look 13 1 (.look 14 1 (.done)))))))))))))))) [] [] ([]) ([]) mixed (by kernel_rfl) (Imp.none _) (Imp.none _) ?_
      refine DG.look rfl rfl (Yield.move rfl) rfl ?_
      refine DG.look rfl rfl (Yield.not rfl) rfl ?_
      refine DG.look rfl rfl (Yield.move rfl) rfl ?_
      refine DG.look rfl rfl (Yield.move rfl) rfl ?_
      refine DG.look rfl rfl (Yield.nilCheck rfl) rfl ?_
      refine DG.look rfl rfl (Yield.fieldAddr fa109_2 rfl) rfl ?_
      refine DG.look rfl rfl (Yield.loadA ti49 rfl) rfl ?_
      refine DG.look rfl rfl (Yield.move rfl) rfl ?_
      refine DG.look rfl rfl (Yield.index_slice Tryz.underlying49 ti61 rfl rfl (by omega) (by omega)) rfl ?_
      refine DG.look rfl rfl (Yield.fieldAddr fa61_0 rfl) rfl ?_
      refine DG.look rfl rfl (Yield.load (v := .int .i64 y.p) ti3 rfl (by rw [show oo + (i : Int).toNat * 3 = oo + i * 3 by omega]; exact (SlR.elem (f := PV.cells) (xs := zl) (i := i) (SlR.of_osl (W0 := W0) (E := 61) (a := some ⟨ol, oo, none⟩) (c := zc) eX) PV.len hy) 0 _ rfl)) rfl ?_
      refine DG.look rfl rfl (Yield.fieldAddr fa61_0 rfl) rfl ?_
      refine DG.look rfl rfl (Yield.load (v := .int .i64 x.p) ti3 rfl (Cel.of_blk eX rfl)) rfl ?_
      refine DG.look rfl rfl Yield.gtrA rfl ?_
      refine DG.look rfl rfl Yield.pickA rfl ?_
      refine DG.done ?_
      refine QG.then ?_
      refine CG.cond_t rfl ?_
      refine CG.seq ?_
      refine CG.region ?_
      refine OG.mv rfl rfl ?_
      refine OG.yield (Yield.load_agg (vs := x.cells) ti61 rfl (PV.len _) (Row.of_blk (b := b3) eX rfl)) rfl ?_
      refine OG.effd (Eff.lit [.tmp 32] (vs := [.agg x.cells.toArray]) (cells := x.cells) Tryz.underlying49 ti61 rfl rfl rfl rfl (by decide) (by simp [Value.cells, PV.cells]) (by simp [Value.cells])) rfl ?_
      rintro b33 -
      refine OG.effd (Eff.append (a := ya) (c := yc) (m := out.length) (xs := (out.map PV.cells).flatten) (k := 1) (ys := x.cells) rfl rfl rfl Tryz.underlying49 Tryz.underlying49 ti61 rfl (by decide) fC (SlR.of_osl (a := some ⟨b33, 0, none⟩) eX) (PV.ones _) (by omega)) rfl ?_
      rintro ⟨ya2, yc2⟩ -
      refine OG.sg rfl rfl ?_
      refine OG.nil ?_
      refine QG.then ?_
      refine CG.region ?_
      refine OG.sg rfl rfl ?_
      refine OG.nil ?_
      refine QG.then ?_
      refine CG.region ?_
      refine OG.mv rfl rfl ?_
      refine OG.mv rfl rfl ?_
      refine OG.yield (Yield.nilCheck rfl) rfl ?_
      refine OG.yield (Yield.fieldAddr fa109_2 rfl) rfl ?_
      refine OG.yield (Yield.loadA ti49 rfl) rfl ?_
      refine OG.mv rfl rfl ?_
      refine OG.yield (Yield.index_slice Tryz.underlying49 ti61 rfl rfl (by omega) (by omega)) rfl ?_
      refine OG.yield (Yield.load_agg (vs := y.cells) ti61 rfl (PV.len _) (by rw [show oo + (i : Int).toNat * 3 = oo + i * 3 by omega]; exact SlR.elem (f := PV.cells) (xs := zl) (i := i) (SlR.of_osl (W0 := W0) (E := 61) (a := some ⟨ol, oo, none⟩) (c := zc) eX) PV.len hy)) rfl ?_
      refine OG.effd (Eff.lit [.tmp 42] (vs := [.agg y.cells.toArray]) (cells := y.cells) Tryz.underlying49 ti61 rfl rfl rfl rfl (by decide) (by simp [Value.cells, PV.cells]) (by simp [Value.cells])) rfl ?_
      rintro b43 -
      refine OG.effd (Eff.append (a := ya2) (c := yc2) (m := out.length + 1) (xs := (out.map PV.cells).flatten ++ x.cells) (k := 1) (ys := y.cells) rfl rfl rfl Tryz.underlying49 Tryz.underlying49 ti61 rfl (by decide) fC (SlR.of_osl (a := some ⟨b43, 0, none⟩) eX) (PV.ones _) (by omega)) rfl ?_
      rintro ⟨yb, yd⟩ -
      refine OG.sg rfl rfl ?_
      refine OG.nil ?_
      refine QG.block_normal ?_
      refine QG.then ?_
      refine CG.region ?_
      refine OG.mv rfl rfl ?_
      refine OG.yield (Yield.add rfl rfl (w64 (by omega) (by omega))) rfl ?_
      refine OG.sg rfl rfl ?_
      refine OG.nil ?_
      refine QG.next (i + 1, yb, yd) (by simp only; omega) (by simp only; omega) ?_ ?_
      · dsimp only; rw [e1, List.length_append, List.length_append, show decide (i < i + 1) = true from decide_eq_true (by omega)]; exact eS
      · dsimp only; rw [e1]; refine Imp.trans (B := osl 61 3 yb yd ((out ++ [x]).length + 1) (((out ++ [x]).map PV.cells).flatten ++ y.cells) :: blk b3 x.cells 61 :: (RSO b w k ts ⟨some ⟨ol, oo, none⟩, zc, zl, zta, ztc⟩ ++ (oby 5 x.a x.c x.b :: Fr))) ?_ osl_snoc
        rw [show osl 61 3 yb yd ((out ++ [x]).length + 1) (((out ++ [x]).map PV.cells).flatten ++ y.cells) = osl 61 3 yb yd (out.length + 1 + 1) ((out.map PV.cells).flatten ++ x.cells ++ y.cells) by simp]
        exact iM
    · skip
      have e1 := outL_hi (x := x) hpos hh hy
      rw [show decide (pos < i) = true from decide_eq_true hh]
      generalize outL zl pos x i = out at e1 hol ⊢
      refine CG.draw (.look 0 1 (.look 1 1 (.look 2 1 (.look 3 1 (.look 4 1 (.look 5 1 (.look 6 1 (.look 7 1 (.look 8 1 (.look 9 1 (.look 10 1 (.look 11 1 (.look 12 1 (.look 13 1 (.look 14 1 (.done)))))))))))))))) [] [] ([]) ([]) mixed (by kernel_rfl) (Imp.none _) (Imp.none _) ?_
      refine DG.look rfl rfl (Yield.move rfl) rfl ?_
      refine DG.look rfl rfl (Yield.not rfl) rfl ?_
      refine DG.look rfl rfl (Yield.move rfl) rfl ?_
      refine DG.pass rfl rfl rfl ?_
      refine DG.pass rfl rfl rfl ?_
      refine DG.pass rfl rfl rfl ?_
      refine DG.pass rfl rfl rfl ?_
      refine DG.pass rfl rfl rfl ?_
      refine DG.pass rfl rfl rfl ?_
      refine DG.pass rfl rfl rfl ?_
      refine DG.pass rfl rfl rfl ?_
      refine DG.pass rfl rfl rfl ?_
      refine DG.pass rfl rfl rfl ?_
      refine DG.pass rfl rfl rfl ?_
      refine DG.look rfl rfl Yield.pickA rfl ?_
      refine DG.done ?_
      refine QG.then ?_
      refine CG.cond_f rfl ?_
      refine CG.skip ?_
      refine QG.then ?_
      refine CG.region ?_
      refine OG.mv rfl rfl ?_
      refine OG.mv rfl rfl ?_
      refine OG.yield (Yield.nilCheck rfl) rfl ?_
      refine OG.yield (Yield.fieldAddr fa109_2 rfl) rfl ?_
      refine OG.yield (Yield.loadA ti49 rfl) rfl ?_
      refine OG.mv rfl rfl ?_
      refine OG.yield (Yield.index_slice Tryz.underlying49 ti61 rfl rfl (by omega) (by omega)) rfl ?_
      refine OG.yield (Yield.load_agg (vs := y.cells) ti61 rfl (PV.len _) (by rw [show oo + (i : Int).toNat * 3 = oo + i * 3 by omega]; exact SlR.elem (f := PV.cells) (xs := zl) (i := i) (SlR.of_osl (W0 := W0) (E := 61) (a := some ⟨ol, oo, none⟩) (c := zc) eX) PV.len hy)) rfl ?_
      refine OG.effd (Eff.lit [.tmp 42] (vs := [.agg y.cells.toArray]) (cells := y.cells) Tryz.underlying49 ti61 rfl rfl rfl rfl (by decide) (by simp [Value.cells, PV.cells]) (by simp [Value.cells])) rfl ?_
      rintro b43 -
      refine OG.effd (Eff.append (a := ya) (c := yc) (m := out.length) (xs := (out.map PV.cells).flatten) (k := 1) (ys := y.cells) rfl rfl rfl Tryz.underlying49 Tryz.underlying49 ti61 rfl (by decide) fC (SlR.of_osl (a := some ⟨b43, 0, none⟩) eX) (PV.ones _) (by omega)) rfl ?_
      rintro ⟨yb, yd⟩ -
      refine OG.sg rfl rfl ?_
      refine OG.nil ?_
      refine QG.block_normal ?_
      refine QG.then ?_
      refine CG.region ?_
      refine OG.mv rfl rfl ?_
      refine OG.yield (Yield.add rfl rfl (w64 (by omega) (by omega))) rfl ?_
      refine OG.sg rfl rfl ?_
      refine OG.nil ?_
      refine QG.next (i + 1, yb, yd) (by simp only; omega) (by simp only; omega) ?_ ?_
      · dsimp only; rw [e1, List.length_append, show decide (pos < i + 1) = true from decide_eq_true (by omega)]; exact eS
      · dsimp only; rw [e1]; exact Imp.trans (B := osl 61 3 yb yd (out.length + 1) ((out.map PV.cells).flatten ++ y.cells) :: blk b3 x.cells 61 :: (RSO b w k ts ⟨some ⟨ol, oo, none⟩, zc, zl, zta, ztc⟩ ++ (oby 5 x.a x.c x.b :: Fr))) iM osl_snoc
  · try replace hc := of_decide_eq_false hc
    refine CG.exit ?_
    refine QG.pass_exit ?_
    refine QG.pass_exit ?_
    refine QG.block_exit ?_
    refine QG.then ?_
    refine CG.cut (fun y : Option Addr × Nat => True) (fun y => [(0, .pointer (some ⟨b, 0, none⟩)), (3, .pointer (some ⟨b3, 0, none⟩)), (4, .slice y.1 (insP zl pos x).length y.2)]) (fun y => osl 61 3 y.1 y.2 (insP zl pos x).length (((insP zl pos x).map PV.cells).flatten) :: blk b3 x.cells 61 :: (RSO b w k ts ⟨za, zc, zl, zta, ztc⟩ ++ (oby 5 x.a x.c x.b :: Fr))) ?_ ?_
    · skip
      refine CG.seq ?_
      rcases (show pos < zl.length ∨ pos = zl.length by omega) with hh | hh
      · skip
        obtain rfl : i = zl.length := by omega
        rw [show decide (pos < zl.length) = true from decide_eq_true hh, outL_end hh]
        refine CG.region ?_
        refine OG.mv rfl rfl ?_
        refine OG.yield (Yield.not rfl) rfl ?_
        refine OG.nil ?_
        refine QG.then ?_
        refine CG.cond_f rfl ?_
        refine CG.skip ?_
        exact QG.mid (ya, yc) trivial eS iM
      · skip
        obtain rfl : i = zl.length := by omega
        subst hh
        have e2 := outL_last (zl := zl) (x := x)
        rw [show decide (zl.length < zl.length) = false from decide_eq_false (by omega)]
        generalize outL zl zl.length x zl.length = out at e2 hol ⊢
        refine CG.region ?_
        refine OG.mv rfl rfl ?_
        refine OG.yield (Yield.not rfl) rfl ?_
        refine OG.nil ?_
        refine QG.then ?_
        refine CG.cond_t rfl ?_
        refine CG.region ?_
        refine OG.mv rfl rfl ?_
        refine OG.yield (Yield.load_agg (vs := x.cells) ti61 rfl (PV.len _) (Row.of_blk (b := b3) eX rfl)) rfl ?_
        refine OG.effd (Eff.lit [.tmp 48] (vs := [.agg x.cells.toArray]) (cells := x.cells) Tryz.underlying49 ti61 rfl rfl rfl rfl (by decide) (by simp [Value.cells, PV.cells]) (by simp [Value.cells])) rfl ?_
        rintro b49 -
        refine OG.effd (Eff.append (a := ya) (c := yc) (m := out.length) (xs := (out.map PV.cells).flatten) (k := 1) (ys := x.cells) rfl rfl rfl Tryz.underlying49 Tryz.underlying49 ti61 rfl (by decide) fC (SlR.of_osl (a := some ⟨b49, 0, none⟩) eX) (PV.ones _) (by omega)) rfl ?_
        rintro ⟨ya2, yc2⟩ -
        refine OG.sg rfl rfl ?_
        refine OG.nil ?_
        refine QG.mid (ya2, yc2) trivial ?_ ?_
        · dsimp only; rw [e2, List.length_append]; exact eS
        · dsimp only; rw [e2]; exact Imp.trans (B := osl 61 3 ya2 yc2 (out.length + 1) ((out.map PV.cells).flatten ++ x.cells) :: blk b3 x.cells 61 :: (RSO b w k ts ⟨za, zc, zl, zta, ztc⟩ ++ (oby 5 x.a x.c x.b :: Fr))) iM osl_snoc
    rintro ⟨fa, fc⟩ -
    dsimp only [RSO, List.cons_append, List.nil_append]
    refine CG.seq ?_
    refine CG.region ?_
    refine OG.mv rfl rfl ?_
    refine OG.mv rfl rfl ?_
    refine OG.yield (Yield.nilCheck rfl) rfl ?_
    refine OG.yield (Yield.fieldAddr fa109_2 rfl) rfl ?_
    refine OG.eff (Eff.store1 ti49 rfl rfl fC rfl (by first | (simp; done) | decide)) rfl ?_
    rintro ⟨⟩ -
    refine OG.nil ?_
    refine QG.then ?_
    refine CG.seq ?_
    refine CG.region ?_
    refine OG.mv rfl rfl ?_
    refine OG.yield (Yield.fieldAddr fa61_0 rfl) rfl ?_
    refine OG.yield (Yield.load (v := .int .i64 x.p) ti3 rfl (Cel.of_blk eX rfl)) rfl ?_
    refine OG.yield (Yield.as (Yield.quo rfl rfl (by omega) (tdiv_pos (by omega) (by omega) (by omega))) (v' := .int .i64 ((x.p / 64 : Nat) : Int)) (by congr 1)) rfl ?_
    refine OG.callo call96 rfl ((Imp.trans (B := obx x :: Star (zl.map obx) :: blk b [.pointer (some ⟨w, 0, none⟩), .int .i64 k, .slice fa (insP zl pos x).length fc, .slice zta ts.length ztc] 109 :: osl 61 3 fa fc (insP zl pos x).length (((insP zl pos x).map PV.cells).flatten) :: oiv zta ztc ts :: blk b3 x.cells 61 :: Fr) iM (Imp.trans (star_ins hpos) (Imp.trans (B := RSO b w k ts ⟨fa, fc, insP zl pos x, zta, ztc⟩ ++ (blk b3 x.cells 61 :: Fr)) iM (rs_close _ hins))))) (rtable_spec W0 (blk b3 x.cells 61 :: Fr) (b := b) (w := w) (k := k) (L := pvs ⟨up2 o.vw k x.p (some (x.pm, x.b)), tb, fr⟩ k) (ts := ts) (by omega) ((x.p / 64 : Nat) : Int)) rfl ?_
    rintro ⟨⟩ -
    refine OG.yield (Yield.not rfl) rfl ?_
    refine OG.nil ?_
    refine QG.then ?_
    refine CG.cond rfl (fun hc => ?_) (fun hc => ?_)
    · try replace hc := of_decide_eq_true hc
      have hg : ¬ ((x.p / 64 : Nat) : Int) ∈ ts := by simpa using hc
      rw [show insT ts x.p = ts ++ [((x.p / 64 : Nat) : Int)] from if_neg hg]
      refine CG.ex (A := RS b w k (pvs ⟨up2 o.vw k x.p (some (x.pm, x.b)), tb, fr⟩ k) ts) eX rs_open ?_
      rintro ⟨za2, zc2, zl2, zta2, ztc2⟩ hz2
      refine CG.imp star_open ?_
      dsimp only [RSO, List.cons_append, List.nil_append] at hz2 ⊢
      refine CG.draw (.look 0 0 (.look 1 0 (.look 2 0 (.look 3 0 (.look 4 2 (.look 5 1 (.look 6 1 (.look 7 1 (.eff1 8 false (.eff1 9 false (.look 10 1 (.look 11 1 (.eff1 12 true (.done)))))))))))))) [8, 9, 12] [4] ([]) ([blk b [.pointer (some ⟨w, 0, none⟩), .int .i64 k, .slice za2 zl2.length zc2, .slice zta2 ts.length ztc2] 109]) mixed (by kernel_rfl) (Imp.none _) iM ?_
      refine DG.look rfl rfl (Yield.move rfl) rfl ?_
      refine DG.look rfl rfl (Yield.move rfl) rfl ?_
      refine DG.look rfl rfl (Yield.nilCheck rfl) rfl ?_
      refine DG.look rfl rfl (Yield.fieldAddr fa109_3 rfl) rfl ?_
      refine DG.look rfl rfl (Yield.loadA ti22 rfl) rfl ?_
      refine DG.look rfl rfl (Yield.fieldAddr fa61_0 rfl) rfl ?_
      refine DG.look rfl rfl (Yield.load (v := .int .i64 x.p) ti3 rfl (Cel.of_blk eX rfl)) rfl ?_
      refine DG.look rfl rfl (Yield.as (Yield.quo rfl rfl (by omega) (tdiv_pos (by omega) (by omega) (by omega))) (v' := .int .i64 ((x.p / 64 : Nat) : Int)) (by congr 1)) rfl ?_
      refine DG.eff1 ?_
      refine Chg.eff rfl rfl (Eff.lit1 Tryz.underlying22 ti3 rfl rfl rfl) rfl (fun _ => iM) (fun _ => Imp.refl _) (fun _ => iM) ?_
      rintro b69 -
      refine DG.eff1 ?_
      refine Chg.eff rfl rfl (Eff.append (a := zta2) (c := ztc2) (m := ts.length) (xs := iv ts) (k := 1) (ys := iv [((x.p / 64 : Nat) : Int)]) rfl rfl rfl Tryz.underlying22 Tryz.underlying22 ti3 rfl (by decide) fC (SlR.of_osl (a := some ⟨b69, 0, none⟩) eX) (iv_ones _) (by omega)) rfl (fun _ => iM) (fun _ => Imp.refl _) (fun _ => iM) ?_
      rintro ⟨a70, c70⟩ -
      refine DG.look rfl rfl (Yield.nilCheck rfl) rfl ?_
      refine DG.look rfl rfl (Yield.fieldAddr fa109_3 rfl) rfl ?_
      refine DG.eff1 ?_
      refine Chg.eff rfl rfl (Eff.store1 ti22 rfl rfl fC rfl (by first | (simp; done) | decide)) rfl (fun _ => iM) (fun _ => Imp.refl _) (fun _ => iM) ?_
      rintro ⟨⟩ -
      refine DG.done ?_
      first
      | (refine QG.end0 rfl () trivial rfl (Imp.trans (B := RSO b w k (ts ++ [((x.p / 64 : Nat) : Int)]) ⟨za2, zc2, zl2, a70, c70⟩ ++ Fr) ?_ (rs_close _ hz2))
         dsimp only [RSO, oiv, List.cons_append, List.nil_append]
         rw [List.length_append, iv_append]
         exact iM)
      | exact QG.end0 rfl () trivial rfl iM
    · try replace hc := of_decide_eq_false hc
      have hg : ((x.p / 64 : Nat) : Int) ∈ ts := by simpa using hc
      rw [show insT ts x.p = ts from if_pos hg]
      refine CG.skip ?_
      first
      | (refine QG.end0 rfl () trivial rfl (Imp.trans (B := RSO b w k (ts ++ [((x.p / 64 : Nat) : Int)]) ⟨za2, zc2, zl2, a70, c70⟩ ++ Fr) ?_ (rs_close _ hz2))
         dsimp only [RSO, oiv, List.cons_append, List.nil_append]
         rw [List.length_append, iv_append]
         exact iM)
      | exact QG.end0 rfl () trivial rfl iM
end
end Go.Proofs.YtmlfcfbblfcpdaaGreat.Sp
/- The document's space: all: some pages are laid, or none. -/
namespace Go.Proofs.YtmlfcfbblfcpdaaGreat.Sp
open Go Go.Sl Go.RowKit Go.Proofs Go.Proofs.YtmlfcfbblfcpdaaGreat.T Go.Proofs.YtmlfcfbblfcpdaaGreat.Me Go.Proofs.YtmlfcfbblfcpdaaGreat.Pe Go.Proofs.YtmlfcfbblfcpdaaGreat.Pg
open Go.Proofs.YtmlfcfbblfcpdaaGreat.Fz (iv oiv iv_append iv_ones iv_get)
set_option maxRecDepth 100000
/-- What 'all' answers, and does; q: how many frames are left. -/
def allR (q : Int) (o : Ob) (k : Nat) (L : List PGv) : Int × Ob :=
  if ∃ x ∈ L, (o.vw k x.1).isSome = true then (91, o) else if q < needL o k L then (141, o) else (0, layL o k L)
/-- .. and costs. -/
def allN (q : Int) (o : Ob) (k : Nat) (L : List PGv) : Nat := if (allR q o k L).1 = 0 then needL o k L else 0
theorem load_all {qk : Int} {o : Ob} {k : Nat} {en : Int} {l : List SSec} : loadO qk o k en l = if chk en l ≠ 0 then (chk en l, o) else allR (qk - used o k) o k (imgP l) := rfl
theorem all_there {q : Int} {o : Ob} {k : Nat} {L : List PGv} {x : PGv} (hx : x ∈ L) (h : (o.vw k x.1).isSome = true) : allR q o k L = (91, o) ∧ allN q o k L = 0 := by
  have e : allR q o k L = (91, o) := if_pos ⟨x, hx, h⟩
  refine ⟨e, ?_⟩
  unfold allN; rw [e, if_neg (show (91 : Int) ≠ 0 by decide)]
theorem all_quota {q : Int} {o : Ob} {k : Nat} {L : List PGv} (h : ∀ x ∈ L, o.vw k x.1 = none) (hq : q < needL o k L) : allR q o k L = (141, o) ∧ allN q o k L = 0 := by
  have e : allR q o k L = (141, o) := by
    unfold allR; rw [if_neg (by rintro ⟨x, hx, h2⟩; rw [h x hx] at h2; cases h2), if_pos hq]
  refine ⟨e, ?_⟩
  unfold allN; rw [e, if_neg (show (141 : Int) ≠ 0 by decide)]
theorem all_done {q : Int} {o : Ob} {k : Nat} {L : List PGv} (h : ∀ x ∈ L, o.vw k x.1 = none) (hq : ¬ q < needL o k L) : allR q o k L = (0, layL o k L) ∧ allN q o k L = needL o k L := by
  have e : allR q o k L = (0, layL o k L) := by
    unfold allR; rw [if_neg (by rintro ⟨x, hx, h2⟩; rw [h x hx] at h2; cases h2), if_neg hq]
  refine ⟨e, ?_⟩
  unfold allN; rw [e]; rfl
theorem cost_known {o : Ob} {k p : Nat} {ts : List Int} {L : List PGv} (hT : TsOk o k ts) : cost1 (layL o k L) k p = (if ((p / 64 : Nat) : Int) ∈ ts ∨ ((p / 64 : Nat) : Int) ∈ newT o k [] L then 1 else 2) := by
  have h := newT_in (o := o) (k := k) (l := L) (o' := o) (tb := []) (fun g => by simp) (p / 64)
  unfold cost1
  by_cases q : (layL o k L).ts k (p / 64) = true
  · rw [if_pos q, if_pos]
    rcases h.1 q with q2 | q2
    · exact .inl ((hT.mem _).1 q2)
    · exact .inr q2
  · rw [if_neg q, if_neg]
    rintro (q2 | q2)
    · exact q (h.2 (.inl ((hT.mem _).2 q2)))
    · exact q (h.2 (.inr q2))
theorem newT_step {o : Ob} {k : Nat} {ts : List Int} {x : PGv} {L : List PGv} (hT : TsOk o k ts) : newT o k [] (L ++ [x]) = (if ((x.1 / 64 : Nat) : Int) ∈ ts ∨ ((x.1 / 64 : Nat) : Int) ∈ newT o k [] L then newT o k [] L else newT o k [] L ++ [((x.1 / 64 : Nat) : Int)]) := by
  rw [newT_snoc]
  by_cases h : o.ts k (x.1 / 64) = true ∨ ((x.1 / 64 : Nat) : Int) ∈ newT o k [] L
  · rw [if_pos h, if_pos (h.imp (hT.mem _).1 id)]
  · rw [if_neg h, if_neg (fun q => h (q.imp (hT.mem _).2 id))]
theorem star_uncons {A : HProp} {D G : List HProp} : Imp (Star (A :: D) :: G) (A :: Star D :: G) := Imp.trans star_open (Imp.cons star_close)
theorem oiv_snoc {a : Option Addr} {c : Nat} {l : List Int} {x : Int} {G : List HProp} : Imp (osl 3 1 a c (l.length + 1) (iv l ++ iv [x]) :: G) (oiv a c (l ++ [x]) :: G) := by
  rw [show oiv a c (l ++ [x]) = osl 3 1 a c (l.length + 1) (iv l ++ iv [x]) by dsimp only [oiv]; rw [List.length_append, iv_append]; rfl]
  exact Imp.refl _
theorem mem_take1 {l : List Int} {j : Nat} {z g : Int} (hz : l[j]? = some z) : g ∈ l.take (j + 1) ↔ g ∈ l.take j ∨ g = z := by
  obtain ⟨q1, q2⟩ := List.getElem?_eq_some_iff.1 hz
  rw [List.take_succ_eq_append_getElem q1, q2]; simp
section
variable (W0 : World) (Fr : List HProp)
variable {o : Ob} {b w k : Nat} {ts : List Int}
set_option maxHeartbeats 4000000 in
theorem rall_spec {a : Option Addr} {c : Nat} {l : List PV} {fr q : Int} {ls : List Int} (hA : Asc (-1) (l.map PV.v)) (hT : TsOk o k ts) (hk : ls[k]? = some q) (hls : ls.length ≤ 1024) (hq : -1000000 ≤ q ∧ q ≤ 1000000) (hf : q ≤ fr ∧ fr ≤ 1000000) :
    Ctr Tryz.prog W0 66 [.pointer (some ⟨b, 0, none⟩), .slice a l.length c] (PLU a c l ++ (RS b w k (pvs o k) ts :: RW w fr ls :: Fr)) (fun ts' : List Int => TsOk (allR q o k (l.map PV.v)).2 k ts') (fun _ => .int .i64 (allR q o k (l.map PV.v)).1)
      (fun ts' => RS b w k (pvs (allR q o k (l.map PV.v)).2 k) ts' :: RW w (fr - allN q o k (l.map PV.v)) (ls.set k (q - allN q o k (l.map PV.v))) :: Fr) := by
  have hpl := pvs_len o k
  have htl := hT.le
  have hll : l.length ≤ 4096 := by have := hA.len (by decide) (by decide); rw [List.length_map] at this; omega
  have hLv : ∀ {i : Nat} {y : PV}, l[i]? = some y → (l.map PV.v)[i]? = some y.v := fun h => by rw [List.getElem?_map, h]; rfl
  have hset : ls.set k q = ls := Ms.set_self hk
  obtain ⟨L, hL⟩ : ∃ L, L = l.map PV.v := ⟨_, rfl⟩
  rw [← hL] at hA hLv ⊢
  have hLl : L.length = l.length := by rw [hL, List.length_map]
  have hwn : ∀ i, (needL o k (L.take i) ≤ 8192 ∧ (newT o k [] (L.take i)).length ≤ 4096) := fun i => by
    have h1 := needL_le (k := k) (l := L.take i) (o := o)
    have h2 := newT_len (o := o) (k := k) (l := L.take i) (tb := [])
    have h3 : (L.take i).length ≤ 4096 := by rw [List.length_take]; omega
    simp only [List.length_nil] at h2; omega
  dsimp only [PLU, List.cons_append, List.nil_append]
  refine Ctr.of_body Tryz.func66 rfl Tryz.ntmps66 rfl ?_
  refine CG.seq ?_
  refine CG.region ?_
  refine OG.sg rfl rfl ?_
  refine OG.nil ?_
  refine QG.then ?_
  refine CG.seq ?_
  refine CG.region ?_
  refine OG.sg rfl rfl ?_
  refine OG.nil ?_
  refine QG.then ?_
  refine CG.seq ?_
  refine CG.region ?_
  refine OG.sg rfl rfl ?_
  refine OG.nil ?_
  refine QG.then ?_
  refine CG.seq ?_
  refine CG.seq ?_
  refine CG.region ?_
  refine OG.sg rfl rfl ?_
  refine OG.nil ?_
  refine QG.then ?_
  refine CG.block ?_
  refine CG.loop (fun y : Nat × Option Addr × Nat => y.1 ≤ l.length ∧ ∀ x ∈ L.take y.1, o.vw k x.1 = none) (fun y => [(0, .pointer (some ⟨b, 0, none⟩)), (1, .slice a l.length c), (5, .int .i64 (needL o k (L.take y.1) : Nat)), (6, .slice y.2.1 (newT o k [] (L.take y.1)).length y.2.2), (7, .int .i64 y.1)]) (fun y => oiv y.2.1 y.2.2 (newT o k [] (L.take y.1)) :: (PLU a c l ++ (RS b w k (pvs o k) ts :: RW w fr ls :: Fr))) (fun y => l.length - y.1) (0, none, 0) ⟨Nat.zero_le _, fun x h => by cases h⟩ eS (Imp.trans osl_nil iM) ?_
  rintro ⟨i, ta, tc⟩ ⟨hi, hno⟩
  dsimp only [PLU, List.cons_append, List.nil_append] at hi hno ⊢
  obtain ⟨hw1, hw2⟩ := hwn i
  refine CG.seq ?_
  refine CG.seq ?_
  refine CG.region ?_
  refine OG.mv rfl rfl ?_
  refine OG.mv rfl rfl ?_
  refine OG.yield (Yield.len_slice Tryz.underlying49 rfl rfl) rfl ?_
  refine OG.yield Yield.lssA rfl ?_
  refine OG.nil ?_
  refine QG.then ?_
  refine CG.cond rfl (fun hc => ?_) (fun hc => ?_)
  · try replace hc := of_decide_eq_true hc
    obtain ⟨y, hy⟩ : ∃ y, l[i]? = some y := ⟨_, List.getElem?_eq_getElem (by omega)⟩
    have hyv := hLv hy
    have hil := (List.getElem?_eq_some_iff.1 hy).1
    have hp4 : y.p < 4096 := (hA.mem y.v (List.mem_of_getElem? hyv)).2.1
    refine CG.pure (fun w hw => SlR.elem_shape (W0 := W0) (f := PV.cells) (xs := l) (i := i) (SlR.of_osl (E := 61) (a := a) (c := c) eX) PV.len (by decide) hil w hw) ?_
    rintro ⟨ol, oo, rfl⟩
    refine CG.skip ?_
    refine QG.then ?_
    refine CG.seq ?_
    refine CG.block ?_
    refine CG.seq ?_
    refine CG.seq ?_
    rcases hv : o.vw k y.p with _ | v
    · skip
      refine CG.region ?_
      refine OG.mv rfl rfl ?_
      refine OG.mv rfl rfl ?_
      refine OG.mv rfl rfl ?_
      refine OG.yield (Yield.index_slice Tryz.underlying49 ti61 rfl rfl (by omega) (by omega)) rfl ?_
      refine OG.yield (Yield.fieldAddr fa61_0 rfl) rfl ?_
      refine OG.yield (Yield.load (v := .int .i64 y.p) ti3 rfl (by rw [show oo + (i : Int).toNat * 3 = oo + i * 3 by omega]; exact (SlR.elem (f := PV.cells) (xs := l) (i := i) (SlR.of_osl (W0 := W0) (E := 61) (a := some ⟨ol, oo, none⟩) (c := c) eX) PV.len hy) 0 _ rfl)) rfl ?_
      refine OG.callo call70 rfl (iM) (rfind_spec W0 _ (b := b) (w := w) (k := k) (L := pvs o k) (ts := ts) (by omega) (y.p : Int)) rfl ?_
      rintro ⟨⟩ -
      rw [fnd_none (by rw [vI_nat hp4]; exact hv)]
      refine OG.yield Yield.geqA rfl ?_
      refine OG.nil ?_
      refine QG.then ?_
      refine CG.cond_f rfl ?_
      refine CG.skip ?_
      refine QG.then ?_
      refine CG.seq ?_
      refine CG.region ?_
      refine OG.mv rfl rfl ?_
      refine OG.yield (Yield.add rfl rfl (w64 (by omega) (by omega))) rfl ?_
      refine OG.sg rfl rfl ?_
      refine OG.nil ?_
      refine QG.then ?_
      refine CG.seq ?_
      refine CG.region ?_
      refine OG.mv rfl rfl ?_
      refine OG.mv rfl rfl ?_
      refine OG.yield (Yield.index_slice Tryz.underlying49 ti61 rfl rfl (by omega) (by omega)) rfl ?_
      refine OG.yield (Yield.fieldAddr fa61_0 rfl) rfl ?_
      refine OG.yield (Yield.load (v := .int .i64 y.p) ti3 rfl (by rw [show oo + (i : Int).toNat * 3 = oo + i * 3 by omega]; exact (SlR.elem (f := PV.cells) (xs := l) (i := i) (SlR.of_osl (W0 := W0) (E := 61) (a := some ⟨ol, oo, none⟩) (c := c) eX) PV.len hy) 0 _ rfl)) rfl ?_
      refine OG.yield (Yield.as (Yield.quo rfl rfl (by omega) (tdiv_pos (by omega) (by omega) (by omega))) (v' := .int .i64 ((y.p / 64 : Nat) : Int)) (by congr 1)) rfl ?_
      refine OG.sg rfl rfl ?_
      refine OG.nil ?_
      refine QG.then ?_
      refine CG.seq ?_
      refine CG.region ?_
      refine OG.mv rfl rfl ?_
      refine OG.mv rfl rfl ?_
      refine OG.callo call96 rfl (iM) (rtable_spec W0 _ (b := b) (w := w) (k := k) (L := pvs o k) (ts := ts) (by omega) ((y.p / 64 : Nat) : Int)) rfl ?_
      rintro ⟨⟩ -
      refine OG.sg rfl rfl ?_
      refine OG.nil ?_
      refine QG.then ?_
      have hcost := cost_known (p := y.p) (L := L.take i) hT
      have hns := newT_step (x := y.v) (L := L.take i) hT
      rw [← take_snoc' hyv, show y.v.1 = y.p from rfl] at hns
      have hnd := needL_snoc (k := k) (x := y.v) (l := L.take i) (o := o)
      rw [← take_snoc' hyv, show y.v.1 = y.p from rfl, hcost] at hnd
      have hno2 := nob_all hyv hno hv
      clear hcost
      generalize ((y.p / 64 : Nat) : Int) = g at hns hnd ⊢
      generalize newT o k [] (L.take i) = tb at hns hnd hw2 ⊢
      refine CG.seq ?_
      refine CG.seq ?_
      refine CG.region ?_
      refine OG.sg rfl rfl ?_
      refine OG.nil ?_
      refine QG.then ?_
      refine CG.block ?_
      refine CG.loop (fun j : Nat => j ≤ tb.length) (fun j => [(0, .pointer (some ⟨b, 0, none⟩)), (1, .slice (some ⟨ol, oo, none⟩) l.length c), (5, .int .i64 ((needL o k (L.take i) : Int) + 1)), (6, .slice ta tb.length tc), (7, .int .i64 i), (8, .int .i64 g), (9, .bool (decide (g ∈ ts) || decide (g ∈ tb.take j))), (10, .int .i64 j)]) (fun j => oiv ta tc tb :: (PLU (some ⟨ol, oo, none⟩) c l ++ (RS b w k (pvs o k) ts :: RW w fr ls :: Fr))) (fun j => tb.length - j) 0 (Nat.zero_le _) (by simp only [List.take_zero, List.not_mem_nil, decide_false, Bool.or_false]; exact eS) iM ?_
      rintro j hj
      dsimp only [PLU, List.cons_append, List.nil_append] at hj ⊢
      refine CG.seq ?_
      refine CG.seq ?_
      refine CG.region ?_
      refine OG.mv rfl rfl ?_
      refine OG.mv rfl rfl ?_
      refine OG.yield (Yield.len_slice Tryz.underlying22 rfl rfl) rfl ?_
      refine OG.yield Yield.lssA rfl ?_
      refine OG.nil ?_
      refine QG.then ?_
      refine CG.cond rfl (fun hc => ?_) (fun hc => ?_)
      · try replace hc := of_decide_eq_true hc
        obtain ⟨z, hz⟩ : ∃ z, tb[j]? = some z := ⟨_, List.getElem?_eq_getElem (by omega)⟩
        have hmt := mem_take1 (g := g) hz
        refine CG.pure (fun w hw => iv_shape (SlR.of_osl (W0 := W0) (E := 3) (a := ta) (c := tc) eX) (by omega) w hw) ?_
        rintro ⟨tl, to, rfl⟩
        refine CG.skip ?_
        refine QG.then ?_
        refine CG.seq ?_
        refine CG.block ?_
        rcases hkn : (decide (g ∈ ts) || decide (g ∈ tb.take j))
        · skip
          refine CG.region ?_
          refine OG.mv rfl rfl ?_
          refine OG.mv rfl rfl ?_
          refine OG.gy rfl rfl rfl ?_
          refine OG.mv rfl rfl ?_
          refine OG.gy rfl rfl rfl ?_
          refine OG.mv rfl rfl ?_
          refine OG.gy rfl rfl rfl ?_
          refine OG.yield (Yield.index_slice Tryz.underlying22 ti3 rfl rfl (by omega) (by omega)) rfl ?_
          refine OG.gy rfl rfl rfl ?_
          refine OG.yield (Yield.load (v := .int .i64 z) ti3 rfl (by rw [show to + (j : Int).toNat * 1 = to + j by omega]; exact (SlR.of_osl (W0 := W0) (E := 3) (a := some ⟨tl, to, none⟩) (c := tc) eX).cel (iv_get hz))) rfl ?_
          refine OG.gy rfl rfl rfl ?_
          refine OG.mv rfl rfl ?_
          refine OG.gy rfl rfl rfl ?_
          refine OG.yield (Yield.eql rfl rfl) rfl ?_
          refine OG.yield Yield.pickA rfl ?_
          refine OG.sg rfl rfl ?_
          refine OG.nil ?_
          refine QG.block_normal ?_
          refine QG.then ?_
          refine CG.region ?_
          refine OG.mv rfl rfl ?_
          refine OG.yield (Yield.add rfl rfl (w64 (by omega) (by omega))) rfl ?_
          refine OG.sg rfl rfl ?_
          refine OG.nil ?_
          refine QG.next (j + 1) (by omega) (by omega) ?_ iM
          have e1 : (decide (g ∈ ts) || decide (g ∈ tb.take (j + 1))) = decide (z = g) := by
            simp only [Bool.or_eq_false_iff, decide_eq_false_iff_not] at hkn
            rw [decide_eq_false hkn.1, Bool.false_or]
            refine decide_eq_decide.2 ⟨fun q => ?_, fun q => hmt.2 (.inr q.symm)⟩
            rcases hmt.1 q with q | q
            · exact absurd q hkn.2
            · exact q.symm
          try dsimp only
          rw [e1]; exact eS
        · skip
          refine CG.region ?_
          refine OG.mv rfl rfl ?_
          refine OG.mv rfl rfl ?_
          refine OG.gn rfl rfl rfl rfl rfl ?_
          refine OG.gn rfl rfl rfl rfl rfl ?_
          refine OG.gn rfl rfl rfl rfl rfl ?_
          refine OG.gn rfl rfl rfl rfl rfl ?_
          refine OG.gn rfl rfl rfl rfl rfl ?_
          refine OG.gn rfl rfl rfl rfl rfl ?_
          refine OG.yield Yield.pickA rfl ?_
          refine OG.sg rfl rfl ?_
          refine OG.nil ?_
          refine QG.block_normal ?_
          refine QG.then ?_
          refine CG.region ?_
          refine OG.mv rfl rfl ?_
          refine OG.yield (Yield.add rfl rfl (w64 (by omega) (by omega))) rfl ?_
          refine OG.sg rfl rfl ?_
          refine OG.nil ?_
          refine QG.next (j + 1) (by omega) (by omega) ?_ iM
          have e1 : (decide (g ∈ ts) || decide (g ∈ tb.take (j + 1))) = true := by
            simp only [Bool.or_eq_true, decide_eq_true_iff] at hkn ⊢
            rcases hkn with q | q
            · exact .inl q
            · exact .inr (hmt.2 (.inl q))
          try dsimp only
          rw [e1]; exact eS
      · try replace hc := of_decide_eq_false hc
        refine CG.exit ?_
        refine QG.pass_exit ?_
        refine QG.pass_exit ?_
        refine QG.block_exit ?_
        refine QG.then ?_
        refine CG.seq ?_
        rcases Decidable.em (g ∈ ts ∨ g ∈ tb) with hg | hg
        · skip
          rw [List.take_of_length_le (show tb.length ≤ j by omega), show (decide (g ∈ ts) || decide (g ∈ tb)) = true by simpa using hg]
          rw [if_pos hg] at hns hnd
          refine CG.region ?_
          refine OG.mv rfl rfl ?_
          refine OG.yield (Yield.not rfl) rfl ?_
          refine OG.nil ?_
          refine QG.then ?_
          refine CG.cond_f rfl ?_
          refine CG.skip ?_
          refine QG.block_normal ?_
          refine QG.then ?_
          refine CG.region ?_
          refine OG.mv rfl rfl ?_
          refine OG.yield (Yield.add rfl rfl (w64 (by omega) (by omega))) rfl ?_
          refine OG.sg rfl rfl ?_
          refine OG.nil ?_
          refine QG.next (i + 1, ta, tc) ⟨by simp only; omega, hno2⟩ (by simp only; omega) ?_ ?_
          · dsimp only; rw [hns, hnd]; exact eS
          · dsimp only; rw [hns]; exact iM
        · skip
          rw [List.take_of_length_le (show tb.length ≤ j by omega), show (decide (g ∈ ts) || decide (g ∈ tb)) = false by simpa using hg]
          rw [if_neg hg] at hns hnd
          refine CG.region ?_
          refine OG.mv rfl rfl ?_
          refine OG.yield (Yield.not rfl) rfl ?_
          refine OG.nil ?_
          refine QG.then ?_
          refine CG.cond_t rfl ?_
          refine CG.seq ?_
          refine CG.region ?_
          refine OG.mv rfl rfl ?_
          refine OG.mv rfl rfl ?_
          refine OG.effd (Eff.lit1 Tryz.underlying22 ti3 rfl rfl rfl) rfl ?_
          rintro b57 -
          refine OG.effd (Eff.append (a := ta) (c := tc) (m := tb.length) (xs := iv tb) (k := 1) (ys := iv [g]) rfl rfl rfl Tryz.underlying22 Tryz.underlying22 ti3 rfl (by decide) fC (SlR.of_osl (a := some ⟨b57, 0, none⟩) eX) (iv_ones _) (by omega)) rfl ?_
          rintro ⟨a58, c58⟩ -
          refine OG.sg rfl rfl ?_
          refine OG.nil ?_
          refine QG.then ?_
          refine CG.region ?_
          refine OG.mv rfl rfl ?_
          refine OG.yield (Yield.add rfl rfl (w64 (by omega) (by omega))) rfl ?_
          refine OG.sg rfl rfl ?_
          refine OG.nil ?_
          refine QG.block_normal ?_
          refine QG.then ?_
          refine CG.region ?_
          refine OG.mv rfl rfl ?_
          refine OG.yield (Yield.add rfl rfl (w64 (by omega) (by omega))) rfl ?_
          refine OG.sg rfl rfl ?_
          refine OG.nil ?_
          refine QG.next (i + 1, a58, c58) ⟨by simp only; omega, hno2⟩ (by simp only; omega) ?_ ?_
          · dsimp only; rw [hns, hnd, List.length_append, show ((needL o k (L.take i) + 2 : Nat) : Int) = (needL o k (L.take i) : Int) + 1 + 1 by omega]; exact eS
          · dsimp only; rw [hns]; exact Imp.trans (B := osl 3 1 a58 c58 (tb.length + 1) (iv tb ++ iv [g]) :: (PLU (some ⟨ol, oo, none⟩) c l ++ (RS b w k (pvs o k) ts :: RW w fr ls :: Fr))) iM oiv_snoc
    · skip
      refine CG.region ?_
      refine OG.mv rfl rfl ?_
      refine OG.mv rfl rfl ?_
      refine OG.mv rfl rfl ?_
      refine OG.yield (Yield.index_slice Tryz.underlying49 ti61 rfl rfl (by omega) (by omega)) rfl ?_
      refine OG.yield (Yield.fieldAddr fa61_0 rfl) rfl ?_
      refine OG.yield (Yield.load (v := .int .i64 y.p) ti3 rfl (by rw [show oo + (i : Int).toNat * 3 = oo + i * 3 by omega]; exact (SlR.elem (f := PV.cells) (xs := l) (i := i) (SlR.of_osl (W0 := W0) (E := 61) (a := some ⟨ol, oo, none⟩) (c := c) eX) PV.len hy) 0 _ rfl)) rfl ?_
      refine OG.callo call70 rfl (iM) (rfind_spec W0 _ (b := b) (w := w) (k := k) (L := pvs o k) (ts := ts) (by omega) (y.p : Int)) rfl ?_
      rintro ⟨⟩ -
      rw [(fnd_some hp4 hv).1]
      refine OG.yield Yield.geqA rfl ?_
      refine OG.nil ?_
      refine QG.then ?_
      refine CG.cond_t rfl ?_
      refine CG.seq ?_
      refine CG.region ?_
      refine OG.sg rfl rfl ?_
      refine OG.nil ?_
      refine QG.then ?_
      refine CG.ret ?_
      refine QG.pass_ret ?_
      refine QG.block_ret ?_
      refine QG.pass_ret ?_
      refine QG.pass_ret ?_
      refine QG.block_ret ?_
      refine QG.pass_ret ?_
      obtain ⟨e1, e2⟩ := all_there (q := q) (o := o) (k := k) (L := L) (x := y.v) (List.mem_of_getElem? hyv) (by show (o.vw k y.p).isSome = true; rw [hv]; rfl)
      rw [e1, e2]
      exact QG.ret1 rfl rfl ts hT rfl (by rw [show q - ((0 : Nat) : Int) = q by omega, show fr - ((0 : Nat) : Int) = fr by omega, hset]; exact iM)
  · try replace hc := of_decide_eq_false hc
    refine CG.exit ?_
    refine QG.pass_exit ?_
    refine QG.pass_exit ?_
    refine QG.block_exit ?_
    refine QG.then ?_
    obtain rfl : i = l.length := by omega
    have hTk : L.take l.length = L := by rw [← hLl, List.take_length]
    rw [hTk] at hno hw1 hw2 ⊢
    refine CG.seq ?_
    rcases Decidable.em (q < needL o k L) with hh | hh
    · skip
      refine CG.ex (A := RS b w k (pvs o k) ts) eX rs_open ?_
      rintro ⟨za, zc, zl, zta, ztc⟩ hz
      refine CG.imp star_open ?_
      dsimp only [RSO, List.cons_append, List.nil_append] at hz ⊢
      refine CG.draw (.look 0 1 (.look 1 1 (.look 2 1 (.look 3 1 (.look 4 1 (.look 5 1 (.look 6 1 (.look 7 1 (.look 8 1 (.eff1 9 false (.look 10 1 (.done)))))))))))) [9] [] ([]) ([]) mixed (by kernel_rfl) (Imp.none _) (Imp.none _) ?_
      refine DG.look rfl rfl (Yield.move rfl) rfl ?_
      refine DG.look rfl rfl (Yield.nilCheck rfl) rfl ?_
      refine DG.look rfl rfl (Yield.fieldAddr fa109_0 rfl) rfl ?_
      refine DG.look rfl rfl (Yield.loadA ti44 rfl) rfl ?_
      refine DG.look rfl rfl (Yield.move rfl) rfl ?_
      refine DG.look rfl rfl (Yield.nilCheck rfl) rfl ?_
      refine DG.look rfl rfl (Yield.fieldAddr fa109_1 rfl) rfl ?_
      refine DG.look rfl rfl (Yield.loadA ti3 rfl) rfl ?_
      refine DG.look rfl rfl (Yield.move rfl) rfl ?_
      refine DG.eff1 ?_
      refine Chg.callo rfl rfl call60 rfl (iM) (rtake_spec W0 _ (b := w) (fr := fr) (q := q) (l := ls) (k := k) (d := needL o k L) hk hls hq (by omega) (by omega)) rfl (fun _ => iM) (fun _ => Imp.refl _) (fun _ => iM) ?_
      rintro ⟨⟩ -
      rw [if_pos hh, if_pos (.inl hh)]
      refine DG.look rfl rfl (Yield.assign rfl) rfl ?_
      refine DG.done ?_
      refine QG.then ?_
      refine CG.seq ?_
      refine CG.seq ?_
      refine CG.region ?_
      refine OG.sg rfl rfl ?_
      refine OG.nil ?_
      refine QG.then ?_
      refine CG.block ?_
      refine CG.loop (fun _ : Unit => True) (fun _ => [(11, .int .i64 141), (12, .int .i64 0), (1, .slice a l.length c)]) (fun _ => RS b w k (pvs o k) ts :: RW w fr ls :: Fr) (fun _ => 0) () trivial eS (Imp.trans (B := RSO b w k ts ⟨za, zc, zl, zta, ztc⟩ ++ (RW w fr ls :: Fr)) iM (rs_close _ hz)) ?_
      rintro ⟨⟩ -
      refine CG.seq ?_
      refine CG.seq ?_
      rcases (show 0 < l.length ∨ ¬ 0 < l.length by omega) with h0 | h0
      · skip
        refine CG.region ?_
        refine OG.mv rfl rfl ?_
        refine OG.mv rfl rfl ?_
        refine OG.yield (Yield.len_slice Tryz.underlying49 rfl rfl) rfl ?_
        refine OG.yield Yield.lssA rfl ?_
        refine OG.mv rfl rfl ?_
        refine OG.gy rfl rfl rfl ?_
        refine OG.mv rfl rfl ?_
        refine OG.gy rfl rfl rfl ?_
        refine OG.yield Yield.eqlA rfl ?_
        refine OG.yield Yield.pickA rfl ?_
        refine OG.nil ?_
        refine QG.then ?_
        refine CG.cond_f rfl ?_
        refine CG.exit ?_
        refine QG.pass_exit ?_
        refine QG.pass_exit ?_
        refine QG.block_exit ?_
        refine QG.then ?_
        refine CG.seq ?_
        refine CG.region ?_
        refine OG.mv rfl rfl ?_
        refine OG.sg rfl rfl ?_
        refine OG.nil ?_
        refine QG.then ?_
        refine CG.ret ?_
        obtain ⟨e1, e2⟩ := all_quota (q := q) hno hh
        rw [e1, e2]
        exact QG.ret1 rfl rfl ts hT rfl (by rw [show q - ((0 : Nat) : Int) = q by omega, show fr - ((0 : Nat) : Int) = fr by omega, hset]; exact iM)
      · skip
        refine CG.region ?_
        refine OG.mv rfl rfl ?_
        refine OG.mv rfl rfl ?_
        refine OG.yield (Yield.len_slice Tryz.underlying49 rfl rfl) rfl ?_
        refine OG.yield Yield.lssA rfl ?_
        refine OG.mv rfl rfl ?_
        refine OG.gn rfl rfl rfl rfl rfl ?_
        refine OG.gn rfl rfl rfl rfl rfl ?_
        refine OG.yield Yield.pickA rfl ?_
        refine OG.nil ?_
        refine QG.then ?_
        refine CG.cond_f rfl ?_
        refine CG.exit ?_
        refine QG.pass_exit ?_
        refine QG.pass_exit ?_
        refine QG.block_exit ?_
        refine QG.then ?_
        refine CG.seq ?_
        refine CG.region ?_
        refine OG.mv rfl rfl ?_
        refine OG.sg rfl rfl ?_
        refine OG.nil ?_
        refine QG.then ?_
        refine CG.ret ?_
        obtain ⟨e1, e2⟩ := all_quota (q := q) hno hh
        rw [e1, e2]
        exact QG.ret1 rfl rfl ts hT rfl (by rw [show q - ((0 : Nat) : Int) = q by omega, show fr - ((0 : Nat) : Int) = fr by omega, hset]; exact iM)
    · skip
      refine CG.ex (A := RS b w k (pvs o k) ts) eX rs_open ?_
      rintro ⟨za, zc, zl, zta, ztc⟩ hz
      refine CG.imp star_open ?_
      dsimp only [RSO, List.cons_append, List.nil_append] at hz ⊢
      refine CG.draw (.look 0 1 (.look 1 1 (.look 2 1 (.look 3 1 (.look 4 1 (.look 5 1 (.look 6 1 (.look 7 1 (.look 8 1 (.eff1 9 false (.look 10 1 (.done)))))))))))) [9] [] ([]) ([]) mixed (by kernel_rfl) (Imp.none _) (Imp.none _) ?_
      refine DG.look rfl rfl (Yield.move rfl) rfl ?_
      refine DG.look rfl rfl (Yield.nilCheck rfl) rfl ?_
      refine DG.look rfl rfl (Yield.fieldAddr fa109_0 rfl) rfl ?_
      refine DG.look rfl rfl (Yield.loadA ti44 rfl) rfl ?_
      refine DG.look rfl rfl (Yield.move rfl) rfl ?_
      refine DG.look rfl rfl (Yield.nilCheck rfl) rfl ?_
      refine DG.look rfl rfl (Yield.fieldAddr fa109_1 rfl) rfl ?_
      refine DG.look rfl rfl (Yield.loadA ti3 rfl) rfl ?_
      refine DG.look rfl rfl (Yield.move rfl) rfl ?_
      refine DG.eff1 ?_
      refine Chg.callo rfl rfl call60 rfl (iM) (rtake_spec W0 _ (b := w) (fr := fr) (q := q) (l := ls) (k := k) (d := needL o k L) hk hls hq (by omega) (by omega)) rfl (fun _ => iM) (fun _ => Imp.refl _) (fun _ => iM) ?_
      rintro ⟨⟩ -
      rw [if_neg hh, if_neg (show ¬ fr < (needL o k L : Nat) by omega), if_neg (show ¬ (q < (needL o k L : Nat) ∨ fr < (needL o k L : Nat)) by omega)]
      refine DG.look rfl rfl (Yield.assign rfl) rfl ?_
      refine DG.done ?_
      refine QG.then ?_
      refine CG.seq ?_
      refine CG.seq ?_
      refine CG.region ?_
      refine OG.sg rfl rfl ?_
      refine OG.nil ?_
      refine QG.then ?_
      refine CG.block ?_
      refine CG.loop (fun i : Nat => i ≤ l.length) (fun i => [(0, .pointer (some ⟨b, 0, none⟩)), (1, .slice a l.length c), (11, .int .i64 0), (12, .int .i64 i)]) (fun i => RS b w k (pvs (layL o k (L.take i)) k) (layT ts (L.take i)) :: osl 61 3 a c l.length ((l.map PV.cells).flatten) :: Star ((l.drop i).map obx) :: RW w (fr - (needL o k L : Nat)) (ls.set k (q - (needL o k L : Nat))) :: Fr) (fun i => l.length - i) 0 (Nat.zero_le _) eS (Imp.trans (B := RSO b w k ts ⟨za, zc, zl, zta, ztc⟩ ++ (osl 61 3 a c l.length ((l.map PV.cells).flatten) :: Star (l.map obx) :: RW w (fr - (needL o k L : Nat)) (ls.set k (q - (needL o k L : Nat))) :: Fr)) iM (rs_close _ hz)) ?_
      rintro i hi
      try dsimp only at hi ⊢
      refine CG.seq ?_
      refine CG.seq ?_
      rcases (show i < l.length ∨ i = l.length by omega) with h0 | h0
      · skip
        obtain ⟨y, hy⟩ : ∃ y, l[i]? = some y := ⟨_, List.getElem?_eq_getElem h0⟩
        have hyv := hLv hy
        have hmem := hA.mem y.v (List.mem_of_getElem? hyv)
        have hvn : (layL o k (L.take i)).vw k y.p = none := by
          rw [layL_vw (fun x hx => by have := hA.before hyv x hx; have e2 : y.v.1 = y.p := rfl; omega)]
          exact hno y.v (List.mem_of_getElem? hyv)
        have hts2 := (tsOk_lay (l := L.take i) (fun x hx => (hA.mem x (List.mem_of_mem_take hx)).2.1) hT).le
        refine CG.pure (fun w hw => SlR.elem_shape (W0 := W0) (f := PV.cells) (xs := l) (i := i) (SlR.of_osl (E := 61) (a := a) (c := c) eX) PV.len (by decide) h0 w hw) ?_
        rintro ⟨ol, oo, rfl⟩
        have hdr : (l.drop i).map obx = obx y :: (l.drop (i + 1)).map obx := by
          obtain ⟨q1, q2⟩ := List.getElem?_eq_some_iff.1 hy
          rw [List.drop_eq_getElem_cons q1, q2, List.map_cons]
        rw [hdr]
        refine CG.imp (Imp.trans (B := Star (obx y :: (l.drop (i + 1)).map obx) :: RS b w k (pvs (layL o k (L.take i)) k) (layT ts (L.take i)) :: osl 61 3 (some ⟨ol, oo, none⟩) c l.length ((l.map PV.cells).flatten) :: RW w (fr - (needL o k L : Nat)) (ls.set k (q - (needL o k L : Nat))) :: Fr) iM star_uncons) ?_
        refine CG.region ?_
        refine OG.mv rfl rfl ?_
        refine OG.mv rfl rfl ?_
        refine OG.yield (Yield.len_slice Tryz.underlying49 rfl rfl) rfl ?_
        refine OG.yield Yield.lssA rfl ?_
        refine OG.mv rfl rfl ?_
        refine OG.gy rfl rfl rfl ?_
        refine OG.mv rfl rfl ?_
        refine OG.gy rfl rfl rfl ?_
        refine OG.yield Yield.eqlA rfl ?_
        refine OG.yield Yield.pickA rfl ?_
        refine OG.nil ?_
        refine QG.then ?_
        refine CG.cond_t rfl ?_
        refine CG.skip ?_
        refine QG.then ?_
        refine CG.seq ?_
        refine CG.block ?_
        refine CG.region ?_
        refine OG.mv rfl rfl ?_
        refine OG.mv rfl rfl ?_
        refine OG.mv rfl rfl ?_
        refine OG.yield (Yield.index_slice Tryz.underlying49 ti61 rfl rfl (by omega) (by omega)) rfl ?_
        refine OG.yield (Yield.load_agg (vs := y.cells) ti61 rfl (PV.len _) (by rw [show oo + (i : Int).toNat * 3 = oo + i * 3 by omega]; exact SlR.elem (f := PV.cells) (xs := l) (i := i) (SlR.of_osl (W0 := W0) (E := 61) (a := some ⟨ol, oo, none⟩) (c := c) eX) PV.len hy)) rfl ?_
        refine OG.callo call97 rfl (iM) (rlay_spec W0 _ (o := layL o k (L.take i)) (b := b) (w := w) (k := k) (ts := layT ts (L.take i)) (x := y) (fr := (layL o k (L.take i)).fr - cost1 (layL o k (L.take i)) k y.p) (tb := up2 (layL o k (L.take i)).ts k (y.p / 64) true) hmem.2.1 hvn hts2) rfl ?_
        rintro ⟨⟩ -
        refine OG.nil ?_
        refine QG.block_normal ?_
        refine QG.then ?_
        refine CG.region ?_
        refine OG.mv rfl rfl ?_
        refine OG.yield (Yield.add rfl rfl (w64 (by omega) (by omega))) rfl ?_
        refine OG.sg rfl rfl ?_
        refine OG.nil ?_
        refine QG.next (i + 1) (by omega) (by omega) eS ?_
        try dsimp only
        rw [take_snoc' hyv, layL_snoc, layT_snoc]
        exact iM
      · skip
        subst h0
        rw [hTk]
        refine CG.region ?_
        refine OG.mv rfl rfl ?_
        refine OG.mv rfl rfl ?_
        refine OG.yield (Yield.len_slice Tryz.underlying49 rfl rfl) rfl ?_
        refine OG.yield Yield.lssA rfl ?_
        refine OG.mv rfl rfl ?_
        refine OG.gn rfl rfl rfl rfl rfl ?_
        refine OG.gn rfl rfl rfl rfl rfl ?_
        refine OG.yield Yield.pickA rfl ?_
        refine OG.nil ?_
        refine QG.then ?_
        refine CG.cond_f rfl ?_
        refine CG.exit ?_
        refine QG.pass_exit ?_
        refine QG.pass_exit ?_
        refine QG.block_exit ?_
        refine QG.then ?_
        refine CG.seq ?_
        refine CG.region ?_
        refine OG.mv rfl rfl ?_
        refine OG.sg rfl rfl ?_
        refine OG.nil ?_
        refine QG.then ?_
        refine CG.ret ?_
        obtain ⟨e1, e2⟩ := all_done (q := q) hno hh
        rw [e1, e2]
        exact QG.ret1 rfl rfl (layT ts L) (tsOk_lay (fun x hx => (hA.mem x hx).2.1) hT) rfl iM
end
end Go.Proofs.YtmlfcfbblfcpdaaGreat.Sp
/- The document's space: Map, Unmap, Load; what they cost. -/
namespace Go.Proofs.YtmlfcfbblfcpdaaGreat.Sp
open Go Go.Sl Go.RowKit Go.Proofs Go.Proofs.YtmlfcfbblfcpdaaGreat.T Go.Proofs.YtmlfcfbblfcpdaaGreat.Me Go.Proofs.YtmlfcfbblfcpdaaGreat.Pe Go.Proofs.YtmlfcfbblfcpdaaGreat.Pg
open Go.Proofs.YtmlfcfbblfcpdaaGreat.Fz (iv oiv iv_append iv_ones iv_get iv_len)
set_option maxRecDepth 100000
theorem flat_drop {α : Type} {f : α → List Value} {sz : Nat} (hf : ∀ x, (f x).length = sz) : ∀ (xs : List α) (i : Nat), ((xs.map f).flatten).drop (i * sz) = ((xs.drop i).map f).flatten
  | xs, 0 => by simp
  | [], i + 1 => by simp
  | x :: xs, i + 1 => by
    rw [List.map_cons, List.flatten_cons, List.drop_append, List.drop_of_length_le (by rw [hf, Nat.add_mul]; omega), hf, show (i + 1) * sz - sz = i * sz by rw [Nat.add_mul]; omega, flat_drop hf xs i]; rfl
theorem flat_take {α : Type} {f : α → List Value} {sz : Nat} (hf : ∀ x, (f x).length = sz) : ∀ (xs : List α) (i : Nat), ((xs.map f).flatten).take (i * sz) = ((xs.take i).map f).flatten
  | xs, 0 => by simp
  | [], i + 1 => by simp
  | x :: xs, i + 1 => by
    rw [List.map_cons, List.flatten_cons, List.take_append, List.take_of_length_le (by rw [hf, Nat.add_mul]; omega), hf, show (i + 1) * sz - sz = i * sz by rw [Nat.add_mul]; omega, flat_take hf xs i]; rfl
/-- What an operation costs a partition. -/
def dO (o o' : Ob) (k : Nat) : Int := (used o' k : Int) - used o k
theorem dO_same {o : Ob} {k : Nat} : dO o o k = 0 := by unfold dO; omega
theorem dO_all {q : Int} {o : Ob} {k : Nat} {L : List PGv} (hA : Asc (-1) L) : dO o (allR q o k L).2 k = (allN q o k L : Int) := by
  by_cases h1 : ∃ x ∈ L, (o.vw k x.1).isSome = true
  · obtain ⟨x, hx, h⟩ := h1
    obtain ⟨e1, e2⟩ := all_there (q := q) hx h
    rw [e1, e2]; exact dO_same
  · have h2 : ∀ x ∈ L, o.vw k x.1 = none := fun x hx => by
      cases h3 : o.vw k x.1 with
      | none => rfl
      | some y => exact absurd ⟨x, hx, by rw [h3]; rfl⟩ h1
    by_cases h3 : q < needL o k L
    · obtain ⟨e1, e2⟩ := all_quota h2 h3
      rw [e1, e2]; exact dO_same
    · obtain ⟨e1, e2⟩ := all_done h2 h3
      rw [e1, e2]
      unfold dO
      have := used_lay hA h2
      dsimp only
      omega
theorem map_all {qk : Int} {o : Ob} {k : Nat} {p pm : Int} (h : (0 ≤ p ∧ p < 4096) ∧ 1 ≤ pm ∧ pm ≤ 7) : mapO qk o k p pm = allR (qk - used o k) o k [(p.toNat, pm.toNat, zs)] := by
  unfold mapO allR
  rw [if_neg (fun q => q h)]
  by_cases h1 : (o.vw k p.toNat).isSome = true
  · rw [if_pos h1, if_pos ⟨_, List.mem_cons_self .., h1⟩]
  · have hne : ¬ ∃ x ∈ [(p.toNat, pm.toNat, zs)], (o.vw k x.1).isSome = true := by
      rintro ⟨x, hx, h2⟩
      rw [List.mem_singleton] at hx
      subst hx; exact h1 h2
    rw [if_neg h1, if_neg hne]
    rfl
theorem asc_one {p pm : Int} (h : (0 ≤ p ∧ p < 4096) ∧ 1 ≤ pm ∧ pm ≤ 7) : Asc (-1) [(p.toNat, pm.toNat, zs)] := .cons (by simp only; omega) (by simp only; omega) ⟨by simp only; omega, by simp only; omega⟩ (by simp) .nil
theorem dO_unmap {o : Ob} {k : Nat} {p : Int} : dO o (unmapO o k p).2 k = if (unmapO o k p).1 = 0 then -1 else 0 := by
  have := used_unmap (o := o) (k := k) (k' := k) (p := p)
  unfold dO
  by_cases h : (unmapO o k p).1 = 0
  · rw [if_pos ⟨rfl, h⟩] at this; rw [if_pos h]; omega
  · rw [if_neg (fun q => h q.2)] at this; rw [if_neg h]; omega
theorem tsOk_unmap {o : Ob} {k : Nat} {p : Int} {ts : List Int} (h : TsOk o k ts) : TsOk (unmapO o k p).2 k ts := by
  refine tsOk_same h ?_
  unfold unmapO
  split
  · rfl
  · split <;> rfl
section
variable (W0 : World) (Fr : List HProp)
variable {o : Ob} {b w k : Nat} {ts : List Int} {fr qk : Int} {ls : List Int}
/-- What is left behind an operation. -/
abbrev RWd (w k : Nat) (o o' : Ob) (fr q : Int) (ls : List Int) : HProp := RW w (fr - dO o o' k) (ls.set k (q - dO o o' k))
theorem rwd_same {w k : Nat} {o : Ob} {fr q : Int} {ls : List Int} (hk : ls[k]? = some q) : RWd w k o o fr q ls = RW w fr ls := by
  unfold RWd; rw [dO_same, Int.sub_zero, Int.sub_zero, Ms.set_self hk]
theorem rmap_spec (p pm : Int) (hT : TsOk o k ts) (hk : ls[k]? = some (qk - used o k)) (hls : ls.length ≤ 1024) (hq : -1000000 ≤ qk - used o k) (hf : qk - used o k ≤ fr ∧ fr ≤ 1000000) :
    Ctr Tryz.prog W0 25 [.pointer (some ⟨b, 0, none⟩), .int .i64 p, .int .i64 pm] (RS b w k (pvs o k) ts :: RW w fr ls :: Fr) (fun ts' : List Int => TsOk (mapO qk o k p pm).2 k ts') (fun _ => .int .i64 (mapO qk o k p pm).1)
      (fun ts' => RS b w k (pvs (mapO qk o k p pm).2 k) ts' :: RWd w k o (mapO qk o k p pm).2 fr (qk - used o k) ls :: Fr) := by
  refine Ctr.of_body Tryz.func25 rfl Tryz.ntmps25 rfl ?_
  refine CG.seq ?_
  refine CG.region ?_
  refine OG.sg rfl rfl ?_
  refine OG.nil ?_
  refine QG.then ?_
  refine CG.seq ?_
  refine CG.seq ?_
  rcases (show ¬(0 ≤ p ∧ p < 4096) ∨ ((0 ≤ p ∧ p < 4096) ∧ ¬(1 ≤ pm ∧ pm ≤ 7)) ∨ ((0 ≤ p ∧ p < 4096) ∧ 1 ≤ pm ∧ pm ≤ 7) by omega) with hh | hh | hh
  · skip
    have e : mapO qk o k p pm = (2, o) := if_pos (by omega)
    rw [e, rwd_same hk]
    refine CG.region ?_
    refine OG.mv rfl rfl ?_
    refine OG.callo call64 rfl (iM) (rpages_ok W0 _ p) rfl ?_
    rintro ⟨⟩ -
    rw [decide_eq_false hh]
    refine OG.yield (Yield.not rfl) rfl ?_
    refine OG.mv rfl rfl ?_
    refine OG.gn rfl rfl rfl rfl rfl ?_
    refine OG.gn rfl rfl rfl rfl rfl ?_
    refine OG.gn rfl rfl rfl rfl rfl ?_
    refine OG.yield Yield.pickA rfl ?_
    refine OG.nil ?_
    refine QG.then ?_
    refine CG.cond_t rfl ?_
    refine CG.seq ?_
    refine CG.region ?_
    refine OG.sg rfl rfl ?_
    refine OG.nil ?_
    refine QG.then ?_
    refine CG.ret ?_
    refine QG.pass_ret ?_
    exact QG.ret1 rfl rfl ts hT rfl iM
  · skip
    have e : mapO qk o k p pm = (2, o) := if_pos (by omega)
    rw [e, rwd_same hk]
    refine CG.region ?_
    refine OG.mv rfl rfl ?_
    refine OG.callo call64 rfl (iM) (rpages_ok W0 _ p) rfl ?_
    rintro ⟨⟩ -
    rw [decide_eq_true hh.1]
    refine OG.yield (Yield.not rfl) rfl ?_
    refine OG.mv rfl rfl ?_
    refine OG.gy rfl rfl rfl ?_
    refine OG.mv rfl rfl ?_
    refine OG.gy rfl rfl rfl ?_
    refine OG.callo call65 rfl (iM) (rperms_ok W0 _ pm) rfl ?_
    rintro ⟨⟩ -
    rw [decide_eq_false hh.2]
    refine OG.gy rfl rfl rfl ?_
    refine OG.yield (Yield.not rfl) rfl ?_
    refine OG.yield Yield.pickA rfl ?_
    refine OG.nil ?_
    refine QG.then ?_
    refine CG.cond_t rfl ?_
    refine CG.seq ?_
    refine CG.region ?_
    refine OG.sg rfl rfl ?_
    refine OG.nil ?_
    refine QG.then ?_
    refine CG.ret ?_
    refine QG.pass_ret ?_
    exact QG.ret1 rfl rfl ts hT rfl iM
  · skip
    have hA := asc_one hh
    have ed := dO_all (q := qk - used o k) (o := o) (k := k) hA
    rw [← map_all hh] at ed
    unfold RWd
    rw [ed, map_all hh]
    refine CG.region ?_
    refine OG.mv rfl rfl ?_
    refine OG.callo call64 rfl (iM) (rpages_ok W0 _ p) rfl ?_
    rintro ⟨⟩ -
    rw [decide_eq_true hh.1]
    refine OG.yield (Yield.not rfl) rfl ?_
    refine OG.mv rfl rfl ?_
    refine OG.gy rfl rfl rfl ?_
    refine OG.mv rfl rfl ?_
    refine OG.gy rfl rfl rfl ?_
    refine OG.callo call65 rfl (iM) (rperms_ok W0 _ pm) rfl ?_
    rintro ⟨⟩ -
    rw [decide_eq_true hh.2]
    refine OG.gy rfl rfl rfl ?_
    refine OG.yield (Yield.not rfl) rfl ?_
    refine OG.yield Yield.pickA rfl ?_
    refine OG.nil ?_
    refine QG.then ?_
    refine CG.cond_f rfl ?_
    refine CG.skip ?_
    refine QG.then ?_
    refine CG.seq ?_
    refine CG.region ?_
    refine OG.mv rfl rfl ?_
    refine OG.mv rfl rfl ?_
    refine OG.mv rfl rfl ?_
    refine OG.effd (Eff.makeB (k := 256) Tryz.underlying32 ti5 rfl rfl (by decide)) rfl ?_
    rintro b18 -
    refine OG.yield (Yield.as (Yield.build (pvs := [(0, .int .i64 p), (1, .int .i64 pm), (2, .slice (some ⟨b18, 0, none⟩) 256 256)]) bu61 ti61 rfl (cells := [.int .i64 p, .int .i64 pm, .slice (some ⟨b18, 0, none⟩) 256 256]) rfl) (v' := .agg (PV.cells ⟨p.toNat, pm.toNat, some ⟨b18, 0, none⟩, 256, zs⟩).toArray) (by unfold PV.cells; dsimp only; rw [Int.toNat_of_nonneg hh.1.1, Int.toNat_of_nonneg (by omega)]; rfl)) rfl ?_
    refine OG.effd (Eff.lit [.tmp 19] (vs := [.agg (PV.cells ⟨p.toNat, pm.toNat, some ⟨b18, 0, none⟩, 256, zs⟩).toArray]) (cells := PV.cells ⟨p.toNat, pm.toNat, some ⟨b18, 0, none⟩, 256, zs⟩) Tryz.underlying49 ti61 rfl rfl rfl rfl (by decide) (by simp [Value.cells, PV.cells]) (by simp [Value.cells])) rfl ?_
    rintro b20 -
    refine OG.callo call66 rfl ((Imp.trans (B := obx ⟨p.toNat, pm.toNat, some ⟨b18, 0, none⟩, 256, zs⟩ :: Star [] :: osl 61 3 (some ⟨b20, 0, none⟩) 1 1 (PV.cells ⟨p.toNat, pm.toNat, some ⟨b18, 0, none⟩, 256, zs⟩ ++ []) :: RS b w k (pvs o k) ts :: RW w fr ls :: Fr) (Imp.trans (Imp.trans star_nil iM) (Imp.refl _)) (Imp.trans star_add iM))) (rall_spec W0 _ (o := o) (b := b) (w := w) (k := k) (ts := ts) (fr := fr) (q := qk - used o k) (ls := ls) (a := some ⟨b20, 0, none⟩) (c := 1) (l := [⟨p.toNat, pm.toNat, some ⟨b18, 0, none⟩, 256, zs⟩]) hA hT hk hls (by omega) hf) rfl ?_
    rintro ts' hT'
    refine OG.sg rfl rfl ?_
    refine OG.nil ?_
    refine QG.then ?_
    refine CG.ret ?_
    exact QG.ret1 rfl rfl ts' hT' rfl iM
theorem rload_spec {en : Int} {a : Option Addr} {l : List SSec} {c : Nat} (hen : 0 ≤ en) (hen2 : en ≤ 4294967295) (h : SecR W0 Fr a l) (hT : TsOk o k ts) (hk : ls[k]? = some (qk - used o k)) (hls : ls.length ≤ 1024) (hq : -1000000 ≤ qk - used o k) (hf : qk - used o k ≤ fr ∧ fr ≤ 1000000) :
    Ctr Tryz.prog W0 37 [.pointer (some ⟨b, 0, none⟩), imgV en a l c] (RS b w k (pvs o k) ts :: RW w fr ls :: Fr) (fun ts' : List Int => TsOk (loadO qk o k en l).2 k ts') (fun _ => .int .i64 (loadO qk o k en l).1)
      (fun ts' => RS b w k (pvs (loadO qk o k en l).2 k) ts' :: RWd w k o (loadO qk o k en l).2 fr (qk - used o k) ls :: Fr) := by
  refine Ctr.of_body Tryz.func37 rfl Tryz.ntmps37 rfl ?_
  refine CG.seq ?_
  refine CG.region ?_
  refine OG.effd (Eff.box rfl) rfl ?_
  rintro b3 -
  refine OG.sg rfl rfl ?_
  refine OG.nil ?_
  refine QG.then ?_
  refine CG.seq ?_
  refine CG.region ?_
  refine OG.yield (Yield.load_agg (vs := [.int .u32 en, .slice a l.length c]) ti35 rfl rfl (Row.of_blk (b := b3) eX rfl)) rfl ?_
  refine OG.callo call57 rfl (iM) (rcheck_spec W0 (blk b3 [.int .u32 en, .slice a l.length c] 35 :: RS b w k (pvs o k) ts :: RW w fr ls :: Fr) (en := en) (a := a) (l := l) (c := c) hen hen2 (h.imp iM)) rfl ?_
  rintro ⟨⟩ -
  refine OG.sg rfl rfl ?_
  refine OG.nil ?_
  refine QG.then ?_
  refine CG.seq ?_
  refine CG.seq ?_
  rcases Decidable.em (chk en l = 0) with hh | hh
  · skip
    have hA := chk_asc hh
    have ed := dO_all (q := qk - used o k) (o := o) (k := k) hA
    have el : loadO qk o k en l = allR (qk - used o k) o k (imgP l) := by rw [load_all, if_neg (fun q => q hh)]
    have ei : pagesImg en l = imgP l := if_pos hh
    rw [el]
    unfold RWd
    rw [ed, hh]
    refine CG.region ?_
    refine OG.mv rfl rfl ?_
    refine OG.yield Yield.neqA rfl ?_
    refine OG.nil ?_
    refine QG.then ?_
    refine CG.cond_f rfl ?_
    refine CG.skip ?_
    refine QG.then ?_
    refine CG.seq ?_
    refine CG.region ?_
    refine OG.mv rfl rfl ?_
    refine OG.yield (Yield.load_agg (vs := [.int .u32 en, .slice a l.length c]) ti35 rfl rfl (Row.of_blk (b := b3) eX rfl)) rfl ?_
    refine OG.callo call18 rfl (iM) (rpages_img W0 (blk b3 [.int .u32 en, .slice a l.length c] 35 :: RS b w k (pvs o k) ts :: RW w fr ls :: Fr) (en := en) (a := a) (l := l) (c := c) hen hen2 (h.imp iM)) rfl ?_
    rintro z hz
    rw [ei] at hz
    dsimp only [PLU, List.cons_append, List.nil_append]
    rw [← hz] at hA ⊢
    refine OG.callo call66 rfl (iM) (rall_spec W0 _ (o := o) (b := b) (w := w) (k := k) (ts := ts) (fr := fr) (q := qk - used o k) (ls := ls) (a := z.a) (c := z.c) (l := z.l) hA hT hk hls (by omega) hf) rfl ?_
    rintro ts' hT'
    refine OG.sg rfl rfl ?_
    refine OG.nil ?_
    refine QG.then ?_
    refine CG.ret ?_
    exact QG.ret1 rfl rfl ts' hT' rfl iM
  · skip
    have el : loadO qk o k en l = (chk en l, o) := by rw [load_all, if_pos hh]
    rw [el, rwd_same hk]
    refine CG.region ?_
    refine OG.mv rfl rfl ?_
    refine OG.yield (Yield.as (Yield.neq rfl rfl) (v' := .bool true) (bT hh)) rfl ?_
    refine OG.nil ?_
    refine QG.then ?_
    refine CG.cond_t rfl ?_
    refine CG.seq ?_
    refine CG.region ?_
    refine OG.mv rfl rfl ?_
    refine OG.sg rfl rfl ?_
    refine OG.nil ?_
    refine QG.then ?_
    refine CG.ret ?_
    refine QG.pass_ret ?_
    exact QG.ret1 rfl rfl ts hT rfl iM
set_option maxHeartbeats 1000000 in
theorem runmap_spec {q : Int} (p : Int) (hk : ls[k]? = some q) (hls : ls.length ≤ 1024) (hq : -1000000 ≤ q ∧ q ≤ 1000000) (hf : -1000000 ≤ fr ∧ fr ≤ 1000000) :
    Ctr Tryz.prog W0 27 [.pointer (some ⟨b, 0, none⟩), .int .i64 p] (RS b w k (pvs o k) ts :: RW w fr ls :: Fr) (fun _ : Unit => True) (fun _ => .int .i64 (unmapO o k p).1)
      (fun _ => RS b w k (pvs (unmapO o k p).2 k) ts :: RWd w k o (unmapO o k p).2 fr q ls :: Fr) := by
  have hpl := pvs_len o k
  have hkl := (List.getElem?_eq_some_iff.1 hk).1
  refine Ctr.of_body Tryz.func27 rfl Tryz.ntmps27 rfl ?_
  refine CG.seq ?_
  refine CG.region ?_
  refine OG.sg rfl rfl ?_
  refine OG.nil ?_
  refine QG.then ?_
  refine CG.seq ?_
  refine CG.seq ?_
  rcases Decidable.em (0 ≤ p ∧ p < 4096) with hh | hh
  · skip
    refine CG.region ?_
    refine OG.mv rfl rfl ?_
    refine OG.callo call64 rfl (iM) (rpages_ok W0 _ p) rfl ?_
    rintro ⟨⟩ -
    rw [decide_eq_true hh]
    refine OG.yield (Yield.not rfl) rfl ?_
    refine OG.nil ?_
    refine QG.then ?_
    refine CG.cond_f rfl ?_
    refine CG.skip ?_
    refine QG.then ?_
    refine CG.seq ?_
    rcases hv : o.vw k p.toNat with _ | x
    · skip
      have e : unmapO o k p = (90, o) := by unfold unmapO; rw [if_neg (fun q => q hh), if_neg (by rw [hv]; simp)]
      rw [e, rwd_same hk]
      refine CG.region ?_
      refine OG.mv rfl rfl ?_
      refine OG.mv rfl rfl ?_
      refine OG.callo call70 rfl (iM) (rfind_spec W0 _ (b := b) (w := w) (k := k) (L := pvs o k) (ts := ts) (by omega) p) rfl ?_
      rintro ⟨⟩ -
      rw [fnd_none (show vI o k p = none by unfold vI; rw [if_pos hh, hv])]
      refine OG.sg rfl rfl ?_
      refine OG.nil ?_
      refine QG.then ?_
      refine CG.seq ?_
      refine CG.seq ?_
      refine CG.region ?_
      refine OG.mv rfl rfl ?_
      refine OG.yield Yield.lssA rfl ?_
      refine OG.nil ?_
      refine QG.then ?_
      refine CG.cond_t rfl ?_
      refine CG.seq ?_
      refine CG.region ?_
      refine OG.sg rfl rfl ?_
      refine OG.nil ?_
      refine QG.then ?_
      refine CG.ret ?_
      refine QG.pass_ret ?_
      exact QG.ret1 rfl rfl () trivial rfl iM
    · skip
      have e : unmapO o k p = (0, ⟨up2 o.vw k p.toNat none, o.ts, o.fr + 1⟩) := by unfold unmapO; rw [if_neg (fun q => q hh), if_pos (by rw [hv]; rfl)]
      have ed := dO_unmap (o := o) (k := k) (p := p)
      rw [e, if_pos rfl] at ed
      unfold RWd
      rw [e, ed, show fr - (-1 : Int) = fr + 1 by omega, show q - (-1 : Int) = q + 1 by omega]
      obtain ⟨pn, rfl⟩ := Int.eq_ofNat_of_zero_le hh.1
      rw [Int.toNat_natCast] at hv ⊢
      obtain ⟨f1, f2⟩ := fnd_some (by omega) hv
      refine CG.region ?_
      refine OG.mv rfl rfl ?_
      refine OG.mv rfl rfl ?_
      refine OG.callo call70 rfl (iM) (rfind_spec W0 _ (b := b) (w := w) (k := k) (L := pvs o k) (ts := ts) (by omega) (pn : Int)) rfl ?_
      rintro ⟨⟩ -
      rw [f1]
      refine OG.sg rfl rfl ?_
      refine OG.nil ?_
      refine QG.then ?_
      refine CG.seq ?_
      refine CG.seq ?_
      refine CG.region ?_
      refine OG.mv rfl rfl ?_
      refine OG.yield Yield.lssA rfl ?_
      refine OG.nil ?_
      refine QG.then ?_
      refine CG.cond_f rfl ?_
      refine CG.skip ?_
      refine QG.then ?_
      refine CG.seq ?_
      refine CG.ex (A := RS b w k (pvs o k) ts) eX rs_open ?_
      rintro ⟨za, zc, zl, zta, ztc⟩ hz
      refine CG.imp star_open ?_
      dsimp only [RSO, List.cons_append, List.nil_append] at hz ⊢
      obtain ⟨y, hy, y1, y2, y3⟩ := pv_at (z := ⟨za, zc, zl, zta, ztc⟩) hz (show pn < 4096 by omega) hv
      dsimp only at hy
      have hil := (List.getElem?_eq_some_iff.1 hy).1
      have hzl : zl.length = (pvs o k).length := by rw [← hz, List.length_map]
      have hers : (zl.eraseIdx (pvTo o k pn).length).map PV.v = pvs ⟨up2 o.vw k pn none, o.ts, o.fr + 1⟩ k := by
        rw [List.eraseIdx_eq_take_drop_succ, List.map_append, List.map_take, List.map_drop, hz, pvs_cut o k (show pn < 4096 by omega), pvs_upd (show pn < 4096 by omega), hv]
        rw [List.append_assoc, List.take_left' rfl, show (pvTo o k pn).length + 1 = (pvTo o k pn ++ optP pn (some x)).length by simp [optP], ← List.append_assoc, List.drop_left' rfl]
        simp [optP]
      refine CG.pure (fun w hw => SlR.elem_shape (W0 := W0) (f := PV.cells) (xs := zl) (i := (pvTo o k pn).length) (SlR.of_osl (E := 61) (a := za) (c := zc) eX) PV.len (by decide) hil w hw) ?_
      rintro ⟨ol, oo, rfl⟩
      refine CG.pure (fun w hw => (osl_facts (W0 := W0) (E := 61) (sz := 3) (a := some ⟨ol, oo, none⟩) (c := zc) (m := zl.length) (xs := (zl.map PV.cells).flatten) eX w hw).2) ?_
      intro hcap
      generalize (pvTo o k pn).length = i at *
      refine CG.draw (.look 0 0 (.look 2 0 (.look 3 0 (.look 4 0 (.look 5 2 (.look 6 0 (.look 7 0 (.look 9 0 (.look 10 0 (.look 11 0 (.look 12 2 (.look 13 0 (.look 14 0 (.look 15 0 (.eff1 1 false (.eff1 8 false (.eff1 16 false (.look 17 1 (.look 18 1 (.eff1 19 true (.done))))))))))))))))))))) [1, 8, 16, 19] [5, 12] ([]) ([blk b [.pointer (some ⟨w, 0, none⟩), .int .i64 k, .slice (some ⟨ol, oo, none⟩) zl.length zc, .slice zta ts.length ztc] 109]) mixed (by kernel_rfl) (Imp.none _) iM ?_
      refine DG.look rfl rfl (Yield.move rfl) rfl ?_
      refine DG.look rfl rfl (Yield.move rfl) rfl ?_
      refine DG.look rfl rfl (Yield.nilCheck rfl) rfl ?_
      refine DG.look rfl rfl (Yield.fieldAddr fa109_2 rfl) rfl ?_
      refine DG.look rfl rfl (Yield.loadA ti49 rfl) rfl ?_
      refine DG.look rfl rfl (Yield.move rfl) rfl ?_
      refine DG.look rfl rfl (Yield.as (Yield.slice_hi Tryz.underlying49 ti61 rfl (Bound.some rfl) (by omega) (by omega)) (v' := .slice (some ⟨ol, oo, none⟩) i zc) (by rw [Int.toNat_natCast])) rfl ?_
      refine DG.look rfl rfl (Yield.move rfl) rfl ?_
      refine DG.look rfl rfl (Yield.nilCheck rfl) rfl ?_
      refine DG.look rfl rfl (Yield.fieldAddr fa109_2 rfl) rfl ?_
      refine DG.look rfl rfl (Yield.loadA ti49 rfl) rfl ?_
      refine DG.look rfl rfl (Yield.move rfl) rfl ?_
      refine DG.look rfl rfl (Yield.add rfl rfl (w64 (by omega) (by omega))) rfl ?_
      refine DG.look rfl rfl (Yield.as (Yield.slice Tryz.underlying49 ti61 rfl (Bound.some rfl) Bound.none (by omega) (by omega) (by omega)) (v' := .slice ((some ⟨ol, oo, none⟩ : Option Addr).map fun a => cutAt a (i + 1) zc 3) (zl.length - (i + 1)) (zc - (i + 1))) (by rw [show ((i : Int) + 1).toNat = i + 1 by omega, Int.toNat_natCast])) rfl ?_
      refine DG.eff1 ?_
      refine Chg.eff rfl rfl (Eff.lit0 Tryz.underlying49 ti61 rfl) rfl (fun _ => iM) (fun _ => Imp.refl _) (fun _ => iM) ?_
      rintro b15 -
      refine DG.eff1 ?_
      refine Chg.eff rfl rfl (Eff.append0 (k := i) (ys := ((zl.take i).map PV.cells).flatten) rfl rfl rfl Tryz.underlying49 Tryz.underlying49 ti61 rfl (by decide) fC (SlR.of_row ((SlR.of_osl (W0 := W0) (E := 61) (a := some ⟨ol, oo, none⟩) (c := zc) (m := zl.length) (xs := (zl.map PV.cells).flatten) eX).row 0 (i * 3) (by rw [List.drop_zero]; exact flat_take PV.len zl i)) (by rw [flat_len PV.len, List.length_take]; omega)) (Ms.flat_ones PV.ones _) (by omega)) rfl (fun _ => iM) (fun _ => Imp.refl _) (fun _ => iM) ?_
      rintro ⟨a22, c22⟩ -
      refine DG.eff1 ?_
      refine Chg.eff rfl rfl (Eff.append (a := a22) (c := c22) (m := i) (xs := ((zl.take i).map PV.cells).flatten) (k := zl.length - (i + 1)) (ys := ((zl.drop (i + 1)).map PV.cells).flatten) rfl rfl rfl Tryz.underlying49 Tryz.underlying49 ti61 rfl (by decide) fC (SlR.cut (SlR.of_osl (W0 := W0) (E := 61) (a := some ⟨ol, oo, none⟩) (c := zc) (m := zl.length) (xs := (zl.map PV.cells).flatten) eX) (by omega) (Nat.le_refl _) hcap (by rw [flat_drop PV.len, List.take_of_length_le (by rw [flat_len PV.len, List.length_drop]; omega)])) (Ms.flat_ones PV.ones _) (by omega)) rfl (fun _ => iM) (fun _ => Imp.refl _) (fun _ => iM) ?_
      rintro ⟨a30, c30⟩ -
      refine DG.look rfl rfl (Yield.nilCheck rfl) rfl ?_
      refine DG.look rfl rfl (Yield.fieldAddr fa109_2 rfl) rfl ?_
      refine DG.eff1 ?_
      refine Chg.eff rfl rfl (Eff.store1 ti49 rfl rfl fC rfl (by first | (simp; done) | decide)) rfl (fun _ => iM) (fun _ => Imp.refl _) (fun _ => iM) ?_
      rintro ⟨⟩ -
      refine DG.done ?_
      refine QG.then ?_
      refine CG.seq ?_
      refine CG.ex (A := RW w fr ls) eX rw_open ?_
      rintro ⟨wa, wc⟩ -
      refine CG.imp star_open ?_
      dsimp only [RWO, List.cons_append, List.nil_append]
      refine CG.pure (fun w hw => iv_shape (SlR.of_osl (W0 := W0) (E := 3) (a := wa) (c := wc) (m := ls.length) (xs := iv ls) eX) (by omega) w hw) ?_
      rintro ⟨wl, wo, rfl⟩
      refine CG.draw (.look 0 1 (.look 1 1 (.look 2 1 (.look 3 1 (.look 4 1 (.look 5 1 (.look 6 1 (.look 7 1 (.look 8 1 (.look 9 1 (.look 10 1 (.look 11 1 (.look 12 1 (.look 13 1 (.look 14 1 (.eff1 15 false (.done))))))))))))))))) [15] [] ([]) ([]) mixed (by kernel_rfl) (Imp.none _) (Imp.none _) ?_
      refine DG.look rfl rfl (Yield.move rfl) rfl ?_
      refine DG.look rfl rfl (Yield.nilCheck rfl) rfl ?_
      refine DG.look rfl rfl (Yield.fieldAddr fa109_0 rfl) rfl ?_
      refine DG.look rfl rfl (Yield.loadA ti44 rfl) rfl ?_
      refine DG.look rfl rfl (Yield.nilCheck rfl) rfl ?_
      refine DG.look rfl rfl (Yield.fieldAddr fa70_1 rfl) rfl ?_
      refine DG.look rfl rfl (Yield.loadA ti22 rfl) rfl ?_
      refine DG.look rfl rfl (Yield.move rfl) rfl ?_
      refine DG.look rfl rfl (Yield.nilCheck rfl) rfl ?_
      refine DG.look rfl rfl (Yield.fieldAddr fa109_1 rfl) rfl ?_
      refine DG.look rfl rfl (Yield.loadA ti3 rfl) rfl ?_
      refine DG.look rfl rfl (Yield.index_slice Tryz.underlying22 ti3 rfl rfl (by omega) (by omega)) rfl ?_
      refine DG.look rfl rfl (Yield.load (v := .int .i64 q) ti3 rfl (by rw [show wo + (k : Int).toNat * 1 = wo + k by omega]; exact (SlR.of_osl (W0 := W0) (E := 3) (a := some ⟨wl, wo, none⟩) (c := wc) (m := ls.length) (xs := iv ls) eX).cel (iv_get hk))) rfl ?_
      refine DG.look rfl rfl (Yield.add rfl rfl (w64 (by omega) (by omega))) rfl ?_
      refine DG.look rfl rfl (Yield.index_slice Tryz.underlying22 ti3 rfl rfl (by omega) (by omega)) rfl ?_
      refine DG.eff1 ?_
      refine Chg.eff rfl rfl (storeInt (i := k) (z := q + 1) ti3 (show wo + (k : Int).toNat * 1 = wo + k by omega) rfl rfl fC hkl) rfl (fun _ => iM) (fun _ => Imp.refl _) (fun _ => iM) ?_
      rintro ⟨⟩ -
      refine DG.done ?_
      refine QG.then ?_
      refine CG.seq ?_
      refine CG.region ?_
      refine OG.mv rfl rfl ?_
      refine OG.yield (Yield.nilCheck rfl) rfl ?_
      refine OG.yield (Yield.fieldAddr fa109_0 rfl) rfl ?_
      refine OG.yield (Yield.loadA ti44 rfl) rfl ?_
      refine OG.yield (Yield.nilCheck rfl) rfl ?_
      refine OG.yield (Yield.fieldAddr fa70_0 rfl) rfl ?_
      refine OG.yield (Yield.loadA ti3 rfl) rfl ?_
      refine OG.yield (Yield.add rfl rfl (w64 (by omega) (by omega))) rfl ?_
      refine OG.yield (Yield.nilCheck rfl) rfl ?_
      refine OG.yield (Yield.fieldAddr fa70_0 rfl) rfl ?_
      refine OG.eff (Eff.store1 ti3 rfl rfl fC rfl (by first | (simp; done) | decide)) rfl ?_
      rintro ⟨⟩ -
      refine OG.nil ?_
      refine QG.then ?_
      refine CG.seq ?_
      refine CG.region ?_
      refine OG.sg rfl rfl ?_
      refine OG.nil ?_
      refine QG.then ?_
      refine CG.ret ?_
      have hyS : (zl.map obx)[i]? = some (obx y) := by rw [List.getElem?_map, hy]; rfl
      have hel : (zl.eraseIdx i).length = i + (zl.length - (i + 1)) := by rw [List.length_eraseIdx, if_pos hil]; omega
      have hec : ((zl.eraseIdx i).map PV.cells).flatten = ((zl.take i).map PV.cells).flatten ++ ((zl.drop (i + 1)).map PV.cells).flatten := by rw [List.eraseIdx_eq_take_drop_succ, List.map_append, List.flatten_append]
      refine QG.ret1 rfl rfl () trivial rfl (Imp.trans (B := RSO b w k ts ⟨a30, c30, zl.eraseIdx i, zta, ztc⟩ ++ (RWO w (fr + 1) (ls.set k (q + 1)) (some ⟨wl, wo, none⟩, wc) ++ Fr)) ?_ (Imp.trans (rs_close _ hers) (Imp.trans (B := RWO w (fr + 1) (ls.set k (q + 1)) (some ⟨wl, wo, none⟩, wc) ++ (RS b w k (pvs ⟨up2 o.vw k pn none, o.ts, o.fr + 1⟩ k) ts :: Fr)) iM (Imp.trans (rw_close _) iM))))
      dsimp only [RSO, RWO, oiv, List.cons_append, List.nil_append]
      rw [hel, hec, List.length_set, ← eraseIdx_map']
      exact Imp.trans (B := Star (zl.map obx) :: blk b [.pointer (some ⟨w, 0, none⟩), .int .i64 k, .slice a30 (i + (zl.length - (i + 1))) c30, .slice zta ts.length ztc] 109 :: osl 61 3 a30 c30 (i + (zl.length - (i + 1))) (((zl.take i).map PV.cells).flatten ++ ((zl.drop (i + 1)).map PV.cells).flatten) :: osl 3 1 zta ztc ts.length (iv ts) :: blk w [.int .i64 (fr + 1), .slice (some ⟨wl, wo, none⟩) ls.length wc] 70 :: osl 3 1 (some ⟨wl, wo, none⟩) wc ls.length (iv (ls.set k (q + 1))) :: Fr) iM (Imp.trans (star_take hyS) iM)
  · skip
    have e : unmapO o k p = (2, o) := if_pos hh
    rw [e, rwd_same hk]
    refine CG.region ?_
    refine OG.mv rfl rfl ?_
    refine OG.callo call64 rfl (iM) (rpages_ok W0 _ p) rfl ?_
    rintro ⟨⟩ -
    rw [decide_eq_false hh]
    refine OG.yield (Yield.not rfl) rfl ?_
    refine OG.nil ?_
    refine QG.then ?_
    refine CG.cond_t rfl ?_
    refine CG.seq ?_
    refine CG.region ?_
    refine OG.sg rfl rfl ?_
    refine OG.nil ?_
    refine QG.then ?_
    refine CG.ret ?_
    refine QG.pass_ret ?_
    exact QG.ret1 rfl rfl () trivial rfl iM
end
end Go.Proofs.YtmlfcfbblfcpdaaGreat.Sp
/- space.Space: Load, walked. -/
namespace Go.Proofs.YtmlfcfbblfcpdaaGreat.Sp
open Go Go.Sl Go.RowKit Go.Proofs Go.Proofs.YtmlfcfbblfcpdaaGreat.T Go.Proofs.YtmlfcfbblfcpdaaGreat.Me Go.Proofs.YtmlfcfbblfcpdaaGreat.Pe Go.Proofs.YtmlfcfbblfcpdaaGreat.Pg
open Go.Proofs.YtmlfcfbblfcpdaaGreat.Fz (cnt cnt_set inv_take inv_give free_frame isP left left_in)
set_option maxRecDepth 100000
section
variable (W0 : World) (Fr : List HProp)
variable {n : Nat} {qs : List Int} {rt : Nat → Option Nat} {o : Ob} {c : Nat} {σ : St} {k r s m f t : Nat}
theorem room_any (I : Fz.Inv σ.own qs) (hq : ∀ q ∈ qs, 0 ≤ q ∧ q ≤ 1024) {qk : Int} (hqk : qs[k]? = some qk) (d : Nat) : Ctr Tryz.prog W0 56 [.pointer (some ⟨s, 0, none⟩), .int .i64 d] (WG m f t n qs σ (sb s k r m f t :: Fr)) (fun _ : Unit => True) (fun _ => .int .i64 (if qk - cnt σ.own k < d then 141 else 0)) (fun _ => WG m f t n qs σ (sb s k r m f t :: Fr)) := by
  have hl := left_in (own := σ.own) hqk
  have hfr : ¬ qk - cnt σ.own k < d → d ≤ cnt σ.own (-1) := fun h => free_many hqk d I (by omega)
  refine Ctr.of_body Tryz.func56 rfl Tryz.ntmps56 rfl ?_
  refine CG.seq ?_
  refine CG.region ?_
  refine OG.sg rfl rfl ?_
  refine OG.nil ?_
  refine QG.then ?_
  refine CG.seq ?_
  refine CG.block ?_
  refine CG.seq ?_
  refine CG.draw (.look 0 1 (.look 1 1 (.look 2 1 (.look 3 1 (.look 4 1 (.look 5 1 (.look 6 1 (.look 7 1 (.look 9 0 (.eff1 8 false (.look 10 1 (.look 11 1 (.done))))))))))))) [8] [] ([]) ([]) mixed (by kernel_rfl) (Imp.none _) (Imp.none _) ?_
  refine DG.look rfl rfl (Yield.move rfl) rfl ?_
  refine DG.look rfl rfl (Yield.nilCheck rfl) rfl ?_
  refine DG.look rfl rfl (Yield.fieldAddr fa88_3 rfl) rfl ?_
  refine DG.look rfl rfl (Yield.loadA ti41 rfl) rfl ?_
  refine DG.look rfl rfl (Yield.move rfl) rfl ?_
  refine DG.look rfl rfl (Yield.nilCheck rfl) rfl ?_
  refine DG.look rfl rfl (Yield.fieldAddr fa88_0 rfl) rfl ?_
  refine DG.look rfl rfl (Yield.loadA ti3 rfl) rfl ?_
  refine DG.look rfl rfl (Yield.move rfl) rfl ?_
  refine DG.eff1 ?_
  refine Chg.callo rfl rfl call11 rfl (iM) (Fz.left_spec W0 _ (f := f) (own := σ.own) (qs := qs) k hq) rfl (fun _ => iM) (fun _ => Imp.refl _) (fun _ => iM) ?_
  rintro ⟨⟩ -
  rw [hl]
  refine DG.look rfl rfl (Yield.lss rfl rfl) rfl ?_
  refine DG.look rfl rfl (Yield.assign rfl) rfl ?_
  refine DG.done ?_
  refine QG.then ?_
  refine CG.cond rfl (fun hc => ?_) (fun hc => ?_)
  · try replace hc := of_decide_eq_true hc
    refine CG.seq ?_
    refine CG.region ?_
    refine OG.sg rfl rfl ?_
    refine OG.nil ?_
    refine QG.then ?_
    refine CG.ret ?_
    refine QG.block_ret ?_
    refine QG.pass_ret ?_
    exact QG.ret1 rfl rfl () trivial (by rw [if_pos hc]) iM
  · try replace hc := of_decide_eq_false hc
    have hfr' := hfr hc
    refine CG.seq ?_
    refine CG.region ?_
    refine OG.mv rfl rfl ?_
    refine OG.yield (Yield.nilCheck rfl) rfl ?_
    refine OG.yield (Yield.fieldAddr fa88_3 rfl) rfl ?_
    refine OG.yield (Yield.loadA ti41 rfl) rfl ?_
    refine OG.callo call40 rfl (iM) (Fz.free_spec W0 _ (f := f) (own := σ.own) (qs := qs)) rfl ?_
    rintro ⟨⟩ -
    refine OG.mv rfl rfl ?_
    refine OG.yield Yield.lssA rfl ?_
    refine OG.sg rfl rfl ?_
    refine OG.nil ?_
    refine QG.then ?_
    refine CG.cond_f rfl ?_
    refine CG.skip ?_
    refine QG.block_normal ?_
    refine QG.then ?_
    refine CG.seq ?_
    refine CG.region ?_
    refine OG.sg rfl rfl ?_
    refine OG.nil ?_
    refine QG.then ?_
    refine CG.ret ?_
    exact QG.ret1 rfl rfl () trivial (by rw [if_neg hc]) iM
set_option maxHeartbeats 4000000 in
theorem load_spec {en : Int} {a : Option Addr} {l : List SSec} {cc : Nat} (hen : 0 ≤ en) (hen2 : en ≤ 4294967295) (hS : SecR W0 Fr a l) (L : Lk n qs rt o c σ) (hq : ∀ q ∈ qs, 0 ≤ q ∧ q ≤ 1024) {qk : Int} (hqk : qs[k]? = some qk) (hk : rt k = some r) :
    Ctr Tryz.prog W0 16 [.pointer (some ⟨s, 0, none⟩), imgV en a l cc] (WG m f t n qs σ (sb s k r m f t :: Fr)) (fun σ' : St => Lk n qs rt (loadO qk o k en l).2 c σ') (fun _ => .int .i64 (loadO qk o k en l).1) (fun σ' => WG m f t n qs σ' (sb s k r m f t :: Fr)) := by
  have L0 := L
  obtain ⟨A, hrt, h0, G, ho, hcc⟩ := L
  have hkA : A.rt k = some r := by rw [hrt]; exact hk
  have hpv : ∀ p, (A.pg k p).isSome = (o.vw k p).isSome := fun p => by rw [← ho, vw_obs]; cases A.pg k p <;> rfl
  have htv : ∀ g, (A.tb k g).isSome = o.ts k g := fun g => by rw [← ho]; rfl
  have hn2 := G.n2
  refine Ctr.of_body Tryz.func16 rfl Tryz.ntmps16 rfl ?_
  refine CG.seq ?_
  refine CG.region ?_
  refine OG.effd (Eff.box rfl) rfl ?_
  rintro b3 -
  refine OG.sg rfl rfl ?_
  refine OG.nil ?_
  refine QG.then ?_
  refine CG.seq ?_
  refine CG.seq ?_
  refine CG.region ?_
  refine OG.yield (Yield.load_agg (vs := [.int .u32 en, .slice a l.length cc]) ti35 rfl rfl (Row.of_blk (b := b3) eX rfl)) rfl ?_
  refine OG.callo call52 rfl (iM) (check_spec W0 _ (l := l) (a := a) (c := cc) hen hen2 (by exact hS.imp iM)) rfl ?_
  rintro ⟨⟩ -
  refine OG.sg rfl rfl ?_
  refine OG.nil ?_
  refine QG.then ?_
  refine CG.seq ?_
  rcases Decidable.em (chk en l = 0) with he | he
  · skip
    refine CG.region ?_
    refine OG.mv rfl rfl ?_
    refine OG.yield (Yield.as (Yield.neq rfl rfl) (v' := .bool false) (bF (by simpa using he))) rfl ?_
    refine OG.nil ?_
    refine QG.then ?_
    refine CG.cond_f rfl ?_
    refine CG.skip ?_
    refine QG.then ?_
    refine CG.seq ?_
    refine CG.region ?_
    refine OG.yield (Yield.load_agg (vs := [.int .u32 en, .slice a l.length cc]) ti35 rfl rfl (Row.of_blk (b := b3) eX rfl)) rfl ?_
    refine OG.callo call53 rfl (Imp.refl _) (pages_img W0 _ (l := l) (a := a) (c := cc) hen hen2 (by exact hS.imp iM)) rfl ?_
    rintro ⟨pa, pc, pl⟩ hpl
    dsimp only [List.cons_append, List.nil_append] at hpl ⊢
    have hA := chk_asc he
    have hld : loadO qk o k en l = if ∃ x ∈ imgP l, (o.vw k x.1).isSome = true then (91, o) else if qk - used o k < needL o k (imgP l) then (141, o) else (0, layL o k (imgP l)) := by unfold loadO; rw [if_neg (fun q => q he)]
    unfold pagesImg at hpl
    rw [if_pos he] at hpl
    rw [← hpl] at hA hld
    have hlen := hA.len (Int.le_refl _) (by decide)
    rw [List.length_map] at hlen
    have hneed : needL o k (pl.map PV.v) = pl.length + tabN (o.ts k) (-1) (pl.map PV.v) := by rw [need_tab (ts := o.ts k) (g := -1) hA (fun h q => by omega) (fun _ _ => rfl) (by decide), List.length_map]
    refine OG.sg rfl rfl ?_
    refine OG.nil ?_
    refine QG.then ?_
    refine CG.seq ?_
    refine CG.region ?_
    refine OG.mv rfl rfl ?_
    refine OG.yield (Yield.len_slice Tryz.underlying49 rfl rfl) rfl ?_
    refine OG.sg rfl rfl ?_
    refine OG.nil ?_
    refine QG.then ?_
    refine CG.seq ?_
    refine CG.region ?_
    refine OG.sg rfl rfl ?_
    refine OG.nil ?_
    refine QG.then ?_
    refine CG.seq ?_
    refine CG.seq ?_
    refine CG.region ?_
    refine OG.mv rfl rfl ?_
    refine OG.yield (Yield.len_slice Tryz.underlying49 rfl rfl) rfl ?_
    refine OG.mv rfl rfl ?_
    refine OG.nil ?_
    refine QG.then ?_
    refine CG.block ?_
    refine CG.loop (fun y : Nat × Nat × Int => y.1 ≤ pl.length ∧ (∀ x ∈ (pl.map PV.v).take y.1, (o.vw k x.1).isSome = false) ∧ y.2.1 + tabN (o.ts k) y.2.2 ((pl.map PV.v).drop y.1) = needL o k (pl.map PV.v) ∧ y.2.1 ≤ pl.length + y.1) (fun y => [(0, .pointer (some ⟨s, 0, none⟩)), (6, .slice pa pl.length pc), (7, .int .i64 y.2.1), (8, .int .i64 y.2.2), (27, .slice pa pl.length pc), (28, .int .i64 pl.length), (29, .int .i64 y.1)]) (fun _ => WG m f t n qs σ (sb s k r m f t :: osl 61 3 pa pc pl.length ((pl.map PV.cells).flatten) :: Star (pl.map fun x => oby 5 x.a x.c x.b) :: Fr)) (fun y => pl.length - y.1) (0, pl.length, -1) ⟨Nat.zero_le _, fun x h => (by cases h), hneed.symm, Nat.le_refl _⟩ eS iM ?_
    rintro ⟨i, nd, g⟩ ⟨hi, hno, hnd, hnl⟩
    dsimp only at hi hno hnd hnl ⊢
    refine CG.seq ?_
    refine CG.region ?_
    refine OG.yield Yield.lssA rfl ?_
    refine OG.nil ?_
    refine QG.then ?_
    refine CG.seq ?_
    refine CG.cond rfl (fun hc => ?_) (fun hc => ?_)
    · try replace hc := of_decide_eq_true hc
      obtain ⟨y, hy⟩ : ∃ y, pl[i]? = some y := ⟨_, List.getElem?_eq_getElem (by omega)⟩
      have hyv : (pl.map PV.v)[i]? = some y.v := by rw [List.getElem?_map, hy]; rfl
      have hym := List.mem_of_getElem? hyv
      obtain ⟨m1, m2, m3, m4⟩ := hA.mem _ hym
      replace m2 : y.p < 4096 := m2
      have hdr : tabN (o.ts k) g ((pl.map PV.v).drop i) = (if ((y.p / 64 : Nat) : Int) ≠ g ∧ o.ts k (y.p / 64) = false then 1 else 0) + tabN (o.ts k) ((y.p / 64 : Nat) : Int) ((pl.map PV.v).drop (i + 1)) := by
        obtain ⟨q1, q2⟩ := List.getElem?_eq_some_iff.1 hyv
        rw [List.drop_eq_getElem_cons q1, q2]; rfl
      rw [hdr] at hnd
      have hno2 : (o.vw k y.p).isSome = false → ∀ x ∈ (pl.map PV.v).take (i + 1), (o.vw k x.1).isSome = false := by
        intro hf x hx
        obtain ⟨q1, q2⟩ := List.getElem?_eq_some_iff.1 hyv
        rw [List.take_succ_eq_append_getElem q1, q2] at hx
        rcases List.mem_append.1 hx with hx | hx
        · exact hno x hx
        · obtain rfl := List.mem_singleton.1 hx; exact hf
      refine CG.pure (fun w hw => SlR.elem_shape (W0 := W0) (f := PV.cells) (xs := pl) (i := i) (SlR.of_osl (E := 61) (a := pa) (c := pc) eX) PV.len (by decide) (by omega) w hw) ?_
      rintro ⟨ol, oo, rfl⟩
      refine CG.skip ?_
      refine QG.then ?_
      refine CG.seq ?_
      refine CG.block ?_
      refine CG.seq ?_
      refine CG.region ?_
      refine OG.yield (Yield.index_slice Tryz.underlying49 ti61 rfl rfl (by omega) (by omega)) rfl ?_
      refine OG.yield (Yield.load_agg (vs := y.cells) ti61 rfl (PV.len _) (by rw [show oo + (i : Int).toNat * 3 = oo + i * 3 by omega]; exact (SlR.elem (f := PV.cells) (xs := pl) (i := i) (SlR.of_osl (W0 := W0) (E := 61) (c := pc) eX) PV.len hy))) rfl ?_
      refine OG.effd (Eff.alloc ti61) rfl ?_
      rintro b10 -
      refine OG.eff (Eff.storeAll (vs := y.cells) ti61 rfl rfl fC rfl (PV.ones _) (by simp [Value.cells])) rfl ?_
      rintro ⟨⟩ -
      refine OG.nil ?_
      refine QG.then ?_
      refine CG.seq ?_
      refine CG.seq ?_
      refine CG.region ?_
      refine OG.mv rfl rfl ?_
      refine OG.yield (Yield.fieldAddr fa61_0 rfl) rfl ?_
      refine OG.yield (Yield.loadA ti3 rfl) rfl ?_
      refine OG.callo call54 rfl (iM) (there_spec W0 _ (A := A) (σ := σ) (r := r) (k := k) (m := m) (f := f) (t := t) (qs := qs) (s := s) G.rep hkA (y.p : Int)) rfl ?_
      rintro ⟨⟩ -
      rw [vp_in m2, hpv]
      refine OG.nil ?_
      refine QG.then ?_
      refine CG.cond rfl (fun hc => ?_) (fun hc => ?_)
      · try replace hc := of_decide_eq_true hc
        refine CG.seq ?_
        refine CG.region ?_
        refine OG.sg rfl rfl ?_
        refine OG.nil ?_
        refine QG.then ?_
        refine CG.ret ?_
        refine QG.pass_ret ?_
        refine QG.block_ret ?_
        refine QG.pass_ret ?_
        refine QG.pass_ret ?_
        refine QG.block_ret ?_
        refine QG.pass_ret ?_
        first | (rw [hld, if_pos ⟨y.v, hym, hc⟩]; exact QG.ret1 rfl rfl σ L0 rfl iM) | (rw [show loadO qk o k en l = (chk en l, o) by unfold loadO; rw [if_pos he]]; exact QG.ret1 rfl rfl σ L0 rfl iM)
      · try replace hc := of_decide_eq_false hc
        have hfn := hc
        refine CG.skip ?_
        refine QG.then ?_
        refine CG.seq ?_
        rcases Decidable.em (((y.p / 64 : Nat) : Int) = g) with hg | hg
        · skip
          refine CG.region ?_
          refine OG.yield (Yield.fieldAddr fa61_0 rfl) rfl ?_
          refine OG.yield (Yield.loadA ti3 rfl) rfl ?_
          refine OG.yield (Yield.as (Yield.quo rfl rfl (by omega) (tdiv_pos (by omega) (by omega) (by omega))) (v' := .int .i64 ((y.p / 64 : Nat) : Int)) (by congr 1)) rfl ?_
          refine OG.mv rfl rfl ?_
          refine OG.yield (Yield.as (Yield.neq rfl rfl) (v' := .bool false) (bF (fun q => q hg))) rfl ?_
          refine OG.nil ?_
          refine QG.then ?_
          refine CG.cond_f rfl ?_
          refine CG.skip ?_
          refine QG.block_normal ?_
          refine QG.then ?_
          refine CG.region ?_
          refine OG.yield (Yield.add rfl rfl (w64 (by omega) (by omega))) rfl ?_
          refine OG.mv rfl rfl ?_
          refine OG.nil ?_
          rw [if_neg (fun q => q.1 hg), Nat.zero_add, hg] at hnd
          exact QG.next (i + 1, nd, g) ⟨by simp only; omega, hno2 hfn, hnd, by simp only; omega⟩ (by simp only; omega) eS iM
        · skip
          refine CG.region ?_
          refine OG.yield (Yield.fieldAddr fa61_0 rfl) rfl ?_
          refine OG.yield (Yield.loadA ti3 rfl) rfl ?_
          refine OG.yield (Yield.as (Yield.quo rfl rfl (by omega) (tdiv_pos (by omega) (by omega) (by omega))) (v' := .int .i64 ((y.p / 64 : Nat) : Int)) (by congr 1)) rfl ?_
          refine OG.mv rfl rfl ?_
          refine OG.yield (Yield.as (Yield.neq rfl rfl) (v' := .bool true) (bT hg)) rfl ?_
          refine OG.nil ?_
          refine QG.then ?_
          refine CG.cond_t rfl ?_
          refine CG.seq ?_
          refine CG.region ?_
          refine OG.yield (Yield.fieldAddr fa61_0 rfl) rfl ?_
          refine OG.yield (Yield.loadA ti3 rfl) rfl ?_
          refine OG.yield (Yield.as (Yield.quo rfl rfl (by omega) (tdiv_pos (by omega) (by omega) (by omega))) (v' := .int .i64 ((y.p / 64 : Nat) : Int)) (by congr 1)) rfl ?_
          refine OG.sg rfl rfl ?_
          refine OG.nil ?_
          refine QG.then ?_
          refine CG.seq ?_
          refine CG.region ?_
          refine OG.mv rfl rfl ?_
          refine OG.yield (Yield.fieldAddr fa61_0 rfl) rfl ?_
          refine OG.yield (Yield.loadA ti3 rfl) rfl ?_
          refine OG.callo call55 rfl (iM) (table_spec W0 _ (A := A) (σ := σ) (r := r) (k := k) (m := m) (f := f) (t := t) (n := n) (qs := qs) (s := s) G.rep (by omega) hkA (p := y.p) m2) rfl ?_
          rintro ⟨⟩ -
          rw [htv]
          refine OG.yield (Yield.not rfl) rfl ?_
          refine OG.nil ?_
          refine QG.then ?_
          refine CG.cond rfl (fun hc => ?_) (fun hc => ?_)
          · try replace hc := of_decide_eq_true hc
            refine CG.region ?_
            refine OG.mv rfl rfl ?_
            refine OG.yield (Yield.add rfl rfl (w64 (by omega) (by omega))) rfl ?_
            refine OG.sg rfl rfl ?_
            refine OG.nil ?_
            refine QG.block_normal ?_
            refine QG.then ?_
            refine CG.region ?_
            refine OG.yield (Yield.add rfl rfl (w64 (by omega) (by omega))) rfl ?_
            refine OG.mv rfl rfl ?_
            refine OG.nil ?_
            rw [if_pos ⟨hg, by simpa using hc⟩] at hnd
            exact QG.next (i + 1, nd + 1, ((y.p / 64 : Nat) : Int)) ⟨by simp only; omega, hno2 hfn, by simp only; omega, by simp only; omega⟩ (by simp only; omega) eS iM
          · try replace hc := of_decide_eq_false hc
            refine CG.skip ?_
            refine QG.block_normal ?_
            refine QG.then ?_
            refine CG.region ?_
            refine OG.yield (Yield.add rfl rfl (w64 (by omega) (by omega))) rfl ?_
            refine OG.mv rfl rfl ?_
            refine OG.nil ?_
            rw [if_neg (fun q => by rw [q.2] at hc; cases hc), Nat.zero_add] at hnd
            exact QG.next (i + 1, nd, ((y.p / 64 : Nat) : Int)) ⟨by simp only; omega, hno2 hfn, hnd, by simp only; omega⟩ (by simp only; omega) eS iM
    · try replace hc := of_decide_eq_false hc
      obtain rfl : i = pl.length := by omega
      rw [List.drop_eq_nil_of_le (by rw [List.length_map]; exact Nat.le_refl _)] at hnd
      rw [List.take_of_length_le (by rw [List.length_map]; exact Nat.le_refl _)] at hno
      replace hnd : nd = needL o k (pl.map PV.v) := hnd
      have huc := used_cnt G h0 hkA
      rw [ho] at huc
      rw [if_neg (fun ⟨x, q1, q2⟩ => by rw [hno x q1] at q2; cases q2), ← hnd] at hld
      refine CG.exit ?_
      refine QG.pass_exit ?_
      refine QG.pass_exit ?_
      refine QG.block_exit ?_
      refine QG.then ?_
      refine CG.seq ?_
      refine CG.seq ?_
      refine CG.region ?_
      refine OG.mv rfl rfl ?_
      refine OG.mv rfl rfl ?_
      refine OG.callo call56 rfl (iM) (room_any W0 _ (σ := σ) (k := k) (r := r) (m := m) (f := f) (t := t) (n := n) (s := s) G.inv hq hqk nd) rfl ?_
      rintro ⟨⟩ -
      rw [huc]
      refine OG.sg rfl rfl ?_
      refine OG.nil ?_
      refine QG.then ?_
      refine CG.seq ?_
      rcases Decidable.em (qk - used o k < nd) with hr | hr
      · skip
        rw [if_pos hr]
        rw [if_pos hr] at hld
        refine CG.region ?_
        refine OG.mv rfl rfl ?_
        refine OG.yield (Yield.as (Yield.neq rfl rfl) (v' := .bool true) rfl) rfl ?_
        refine OG.nil ?_
        refine QG.then ?_
        refine CG.cond_t rfl ?_
        refine CG.seq ?_
        refine CG.region ?_
        refine OG.mv rfl rfl ?_
        refine OG.sg rfl rfl ?_
        refine OG.nil ?_
        refine QG.then ?_
        refine CG.ret ?_
        refine QG.pass_ret ?_
        rw [hld]
        exact QG.ret1 rfl rfl σ L0 rfl iM
      · skip
        rw [if_neg hr]
        rw [if_neg hr] at hld
        refine CG.region ?_
        refine OG.mv rfl rfl ?_
        refine OG.yield (Yield.as (Yield.neq rfl rfl) (v' := .bool false) rfl) rfl ?_
        refine OG.nil ?_
        refine QG.then ?_
        refine CG.cond_f rfl ?_
        refine CG.skip ?_
        refine QG.then ?_
        refine CG.seq ?_
        refine CG.seq ?_
        refine CG.region ?_
        refine OG.mv rfl rfl ?_
        refine OG.yield (Yield.len_slice Tryz.underlying49 rfl rfl) rfl ?_
        refine OG.mv rfl rfl ?_
        refine OG.nil ?_
        refine QG.then ?_
        refine CG.block ?_
        refine CG.loop (fun y : Nat × St => y.1 ≤ pl.length ∧ Lk n qs rt (layL o k ((pl.map PV.v).take y.1)) c y.2) (fun y => [(0, .pointer (some ⟨s, 0, none⟩)), (59, .slice pa pl.length pc), (60, .int .i64 pl.length), (61, .int .i64 y.1)]) (fun y => WG m f t n qs y.2 (sb s k r m f t :: osl 61 3 pa pc pl.length ((pl.map PV.cells).flatten) :: Star (pl.map fun x => oby 5 x.a x.c x.b) :: Fr)) (fun y => pl.length - y.1) (0, σ) ⟨Nat.zero_le _, L0⟩ eS iM ?_
        rintro ⟨j, σj⟩ ⟨hj, Lj⟩
        dsimp only at hj Lj ⊢
        refine CG.seq ?_
        refine CG.region ?_
        refine OG.yield Yield.lssA rfl ?_
        refine OG.nil ?_
        refine QG.then ?_
        refine CG.seq ?_
        refine CG.cond rfl (fun hc => ?_) (fun hc => ?_)
        · try replace hc := of_decide_eq_true hc
          obtain ⟨y, hy⟩ : ∃ y, pl[j]? = some y := ⟨_, List.getElem?_eq_getElem (by omega)⟩
          have hyv : (pl.map PV.v)[j]? = some y.v := by rw [List.getElem?_map, hy]; rfl
          have hym := List.mem_of_getElem? hyv
          obtain ⟨m1, m2, m3, m4⟩ := hA.mem _ hym
          replace m2 : y.p < 4096 := m2
          replace m3 : 1 ≤ y.pm ∧ y.pm ≤ 7 := m3
          replace m4 : y.b.length = 256 := m4
          have htk : (pl.map PV.v).take (j + 1) = (pl.map PV.v).take j ++ [y.v] := by
            obtain ⟨q1, q2⟩ := List.getElem?_eq_some_iff.1 hyv
            rw [List.take_succ_eq_append_getElem q1, q2]
          have hojv : (layL o k ((pl.map PV.v).take j)).vw k y.p = none := by
            rw [layL_vw (fun x hx q => by have := hA.before hyv x hx; have e : y.v.1 = y.p := rfl; omega)]
            have : (o.vw k y.p).isSome = false := hno _ hym
            exact Option.isNone_iff_eq_none.1 (by rw [← Option.not_isSome]; simpa using this)
          have hus := used_lay (k := k) (o := o) (hA.take j) (fun x hx => by have := hno x (List.mem_of_mem_take hx); exact Option.isNone_iff_eq_none.1 (by rw [← Option.not_isSome]; simpa using this))
          have hsum : needL o k ((pl.map PV.v).take j) + cost1 (layL o k ((pl.map PV.v).take j)) k y.p ≤ nd := by
            have e1 := needL_snoc (k := k) (x := y.v) (l := (pl.map PV.v).take j) (o := o)
            rw [← htk] at e1
            have e2 := needL_app (k := k) (l := (pl.map PV.v).take (j + 1)) (m := (pl.map PV.v).drop (j + 1)) (o := o)
            rw [List.take_append_drop] at e2
            have e3 : y.v.1 = y.p := rfl
            rw [e3] at e1
            omega
          have hmo : mapO qk (layL o k ((pl.map PV.v).take j)) k (y.p : Int) (y.pm : Int) = (0, ⟨up2 (layL o k ((pl.map PV.v).take j)).vw k y.p (some (y.pm, zs)), up2 (layL o k ((pl.map PV.v).take j)).ts k (y.p / 64) true, (layL o k ((pl.map PV.v).take j)).fr - cost1 (layL o k ((pl.map PV.v).take j)) k y.p⟩) := by
            have hroom : ¬ qk - (used (layL o k ((pl.map PV.v).take j)) k : Int) < ((cost1 (layL o k ((pl.map PV.v).take j)) k y.p : Nat) : Int) := by omega
            unfold cost1 at hroom
            unfold mapO
            rw [if_neg (by omega), Int.toNat_natCast, if_neg (by rw [hojv]; simp), if_neg hroom]
            rfl
          have hlay : layL o k ((pl.map PV.v).take (j + 1)) = lay1 (layL o k ((pl.map PV.v).take j)) k y.v := by rw [htk, layL_snoc]
          generalize layL o k ((pl.map PV.v).take j) = oj at *
          refine CG.pure (fun w hw => SlR.elem_shape (W0 := W0) (f := PV.cells) (xs := pl) (i := j) (SlR.of_osl (E := 61) (a := pa) (c := pc) eX) PV.len (by decide) (by omega) w hw) ?_
          rintro ⟨ol, oo, rfl⟩
          refine CG.skip ?_
          refine QG.then ?_
          refine CG.seq ?_
          refine CG.block ?_
          refine CG.seq ?_
          refine CG.region ?_
          refine OG.yield (Yield.index_slice Tryz.underlying49 ti61 rfl rfl (by omega) (by omega)) rfl ?_
          refine OG.yield (Yield.load_agg (vs := y.cells) ti61 rfl (PV.len _) (by rw [show oo + (j : Int).toNat * 3 = oo + j * 3 by omega]; exact (SlR.elem (f := PV.cells) (xs := pl) (i := j) (SlR.of_osl (W0 := W0) (E := 61) (c := pc) eX) PV.len hy))) rfl ?_
          refine OG.effd (Eff.alloc ti61) rfl ?_
          rintro b13 -
          refine OG.eff (Eff.storeAll (vs := y.cells) ti61 rfl rfl fC rfl (PV.ones _) (by simp [Value.cells])) rfl ?_
          rintro ⟨⟩ -
          refine OG.nil ?_
          refine QG.then ?_
          refine CG.seq ?_
          refine CG.seq ?_
          refine CG.region ?_
          refine OG.mv rfl rfl ?_
          refine OG.yield (Yield.fieldAddr fa61_0 rfl) rfl ?_
          refine OG.yield (Yield.loadA ti3 rfl) rfl ?_
          refine OG.yield (Yield.fieldAddr fa61_1 rfl) rfl ?_
          refine OG.yield (Yield.loadA ti3 rfl) rfl ?_
          refine OG.callo call24 rfl (iM) (map_spec W0 _ (s := s) (m := m) (f := f) (t := t) (k := k) (r := r) Lj hq hqk hk (y.p : Int) (y.pm : Int)) rfl ?_
          rintro σ2 L2
          rw [hmo] at L2 ⊢
          obtain ⟨A2, hrt2, h02, G2, ho2, hcc2⟩ := L2
          have hkA2 : A2.rt k = some r := by rw [hrt2]; exact hk
          have hv2 : (obs A2 σ2).vw k y.p = some (y.pm, zs) := by rw [ho2]; exact up2_at
          rw [vw_obs] at hv2
          obtain ⟨x2, hx2, hx3⟩ := Option.map_eq_some_iff.1 hv2
          have hx4 : x2.2 = y.pm := congrArg (·.1) hx3
          have hxn := G2.plt hx2
          obtain ⟨G3, e3⟩ := G2.write (o := 0) (ys := y.b) hx2 (by omega)
          rw [overB_full (frB_len G2.rep.len hxn) m4, ho2, up2_up2, hx4] at e3
          refine OG.sg rfl rfl ?_
          refine OG.nil ?_
          refine QG.then ?_
          refine CG.seq ?_
          refine CG.region ?_
          refine OG.mv rfl rfl ?_
          refine OG.yield (Yield.as (Yield.neq rfl rfl) (v' := .bool false) rfl) rfl ?_
          refine OG.nil ?_
          refine QG.then ?_
          refine CG.cond_f rfl ?_
          refine CG.skip ?_
          refine QG.then ?_
          refine CG.seq ?_
          refine CG.draw (.look 0 1 (.look 1 1 (.look 2 1 (.look 3 1 (.look 4 1 (.look 5 1 (.look 6 1 (.look 7 1 (.look 8 1 (.look 9 1 (.eff1 10 false (.look 11 1 (.look 12 1 (.look 13 1 (.look 14 1 (.look 15 1 (.look 16 1 (.look 17 1 (.done))))))))))))))))))) [10] [] ([]) ([]) mixed (by kernel_rfl) (Imp.none _) (Imp.none _) ?_
          refine DG.look rfl rfl (Yield.move rfl) rfl ?_
          refine DG.look rfl rfl (Yield.nilCheck rfl) rfl ?_
          refine DG.look rfl rfl (Yield.fieldAddr fa88_2 rfl) rfl ?_
          refine DG.look rfl rfl (Yield.loadA ti40 rfl) rfl ?_
          refine DG.look rfl rfl (Yield.move rfl) rfl ?_
          refine DG.look rfl rfl (Yield.nilCheck rfl) rfl ?_
          refine DG.look rfl rfl (Yield.fieldAddr fa88_1 rfl) rfl ?_
          refine DG.look rfl rfl (Yield.loadA ti3 rfl) rfl ?_
          refine DG.look rfl rfl (Yield.fieldAddr fa61_0 rfl) rfl ?_
          refine DG.look rfl rfl (Yield.loadA ti3 rfl) rfl ?_
          refine DG.eff1 ?_
          refine Chg.callo rfl rfl call50 rfl (iM) (walk_ab W0 _ (m := m) (n := n) (σ := σ2) G2.rep hkA2 (y.p : Int)) rfl (fun _ => iM) (fun _ => Imp.refl _) (fun _ => iM) ?_
          rintro ⟨⟩ -
          rw [wV_some m2 hx2]
          refine DG.look rfl rfl (Yield.move rfl) rfl ?_
          refine DG.look rfl rfl (Yield.extract rfl rfl) rfl ?_
          refine DG.look rfl rfl (Yield.extract rfl rfl) rfl ?_
          refine DG.look rfl rfl (Yield.extract rfl rfl) rfl ?_
          refine DG.look rfl rfl (Yield.assign rfl) rfl ?_
          refine DG.look rfl rfl (Yield.assign rfl) rfl ?_
          refine DG.look rfl rfl (Yield.assign rfl) rfl ?_
          refine DG.done ?_
          refine QG.then ?_
          refine CG.draw (.look 0 1 (.look 1 1 (.look 2 1 (.look 3 1 (.look 4 1 (.look 5 1 (.look 6 1 (.eff1 7 false (.done))))))))) [7] [] ([]) ([]) mixed (by kernel_rfl) (Imp.none _) (Imp.none _) ?_
          refine DG.look rfl rfl (Yield.move rfl) rfl ?_
          refine DG.look rfl rfl (Yield.nilCheck rfl) rfl ?_
          refine DG.look rfl rfl (Yield.fieldAddr fa88_2 rfl) rfl ?_
          refine DG.look rfl rfl (Yield.loadA ti40 rfl) rfl ?_
          refine DG.look rfl rfl (Yield.move rfl) rfl ?_
          refine DG.look rfl rfl (Yield.fieldAddr fa61_2 rfl) rfl ?_
          refine DG.look rfl rfl (Yield.loadA ti32 rfl) rfl ?_
          refine DG.eff1 ?_
          refine Chg.callo rfl rfl call49 rfl (iM) (fill_ok W0 _ (m := m) (n := n) (k := x2.1) (bs := σ2.bs) (ws := y.b) (a := y.a) (c2 := y.c) (by exact RdB.of_star eX (List.mem_map_of_mem (f := fun x : PV => oby 5 x.a x.c x.b) (List.mem_of_getElem? hy))) hxn (Nat.le_of_eq m4)) rfl (fun _ => iM) (fun _ => Imp.refl _) (fun _ => iM) ?_
          rintro ⟨⟩ -
          rw [fillB_full m4]
          refine DG.done ?_
          refine QG.block_normal ?_
          refine QG.then ?_
          refine CG.region ?_
          refine OG.yield (Yield.add rfl rfl (w64 (by omega) (by omega))) rfl ?_
          refine OG.mv rfl rfl ?_
          refine OG.nil ?_
          exact QG.next (j + 1, { σ2 with bs := overB σ2.bs (x2.1 * 256 + 0) y.b }) ⟨by simp only; omega, by simp only; rw [hlay]; exact Lk.intro G3 hrt2 h02 e3 hcc2⟩ (by simp only; omega) eS iM
        · try replace hc := of_decide_eq_false hc
          refine CG.exit ?_
          refine QG.pass_exit ?_
          refine QG.pass_exit ?_
          refine QG.block_exit ?_
          refine QG.then ?_
          refine CG.seq ?_
          refine CG.region ?_
          refine OG.sg rfl rfl ?_
          refine OG.nil ?_
          refine QG.then ?_
          refine CG.ret ?_
          obtain rfl : j = pl.length := by omega
          rw [List.take_of_length_le (by simp)] at Lj
          rw [hld]
          exact QG.ret1 rfl rfl σj Lj rfl iM
  · skip
    refine CG.region ?_
    refine OG.mv rfl rfl ?_
    refine OG.yield (Yield.as (Yield.neq rfl rfl) (v' := .bool true) (bT he)) rfl ?_
    refine OG.nil ?_
    refine QG.then ?_
    refine CG.cond_t rfl ?_
    refine CG.seq ?_
    refine CG.region ?_
    refine OG.mv rfl rfl ?_
    refine OG.sg rfl rfl ?_
    refine OG.nil ?_
    refine QG.then ?_
    refine CG.ret ?_
    refine QG.pass_ret ?_
    first | (rw [hld, if_pos ⟨y.v, hym, hc⟩]; exact QG.ret1 rfl rfl σ L0 rfl iM) | (rw [show loadO qk o k en l = (chk en l, o) by unfold loadO; rw [if_pos he]]; exact QG.ret1 rfl rfl σ L0 rfl iM)
end
end Go.Proofs.YtmlfcfbblfcpdaaGreat.Sp
/- append with the bound that the growth really has. No program in sight. -/
namespace Go.Sl
open Go Go.RowKit
section
variable {P : Program} {W0 : World} {e : Env} {G R : List HProp} {ty : TypeId} {E sz : Nat} {a : Option Addr} {c m : Nat} {xs : List Value}
theorem growBy_leT (need : Nat) : ∀ (r c : Nat), c ≤ need + need / 4 + 512 → Builtin.growBy need r c ≤ need + need / 4 + 512
  | 0, c, h => h
  | r + 1, c, h => by
    unfold Builtin.growBy
    split
    · exact h
    · exact growBy_leT need r _ (by omega)
theorem nextslicecap_leT {need c : Nat} (h : c < need) : Builtin.nextslicecap need c ≤ need + need / 4 + 512 := by
  unfold Builtin.nextslicecap
  split
  · omega
  · split
    · omega
    · exact growBy_leT need 4 c (by omega)
theorem run_append_growT {st st2 el el2 : TypeId} {a2 : Option Addr} {k c2 by' : Nat} {z : Value} {ag : Bool} {ys : List Value} {w : World}
    (hu : P.underlying st = some (.slice el)) (hu2 : P.underlying st2 = some (.slice el2)) (ht : TI P el sz by' z ag) (hz : z.cells.size = sz) (hcap : ¬ m + k ≤ c) (hs : SlAt w sz a m xs) (hs2 : SlAt w sz a2 k ys)
    (hb : ((m + k) + (m + k) / 4 + 512) * by' ≤ 2 ^ 48) (hb2 : m + k < 2 ^ 62) (hby : 0 < by') :
    ∃ (nc : Nat) (cs : List Value), m + k ≤ nc ∧ nc * sz = cs.length ∧ cs.take ((m + k) * sz) = xs ++ ys ∧
    (Builtin.append_ #[st, st2] ty #[.slice a m c, .slice a2 k c2]).run P w = .ok (.slice (some ⟨w.heap.size, 0, none⟩) (m + k) nc) { w with heap := w.heap.push (.cells cs.toArray el (0, 0)), drawn := w.drawn + 1 } := by
  obtain ⟨i, hi, hi1, hi2, hi3⟩ := ht.run_info w
  have hnc := nextslicecap_leT (need := m + k) (c := c) (by omega)
  have hnc2 : Builtin.nextslicecap (m + k) c * by' ≤ 2 ^ 48 := Nat.le_trans (Nat.mul_le_mul_right _ hnc) hb
  let nc := (m + k) + w.tape w.drawn (.appendCap (m + k) c el) % (2 ^ 63 - (m + k))
  have hge : m + k ≤ nc := Nat.le_add_right _ _
  refine ⟨nc, xs ++ ys ++ (Builtin.zeroCells z.cells (nc - (m + k))).toList, hge, ?_, ?_, ?_⟩
  · simp only [List.length_append, hs.1, hs2.1, Builtin.zeroCells, Array.length_toList, Array.size_map, Array.size_range, hz, Nat.sub_mul, Nat.add_mul]
    have : m * sz + k * sz ≤ nc * sz := by rw [← Nat.add_mul]; exact Nat.mul_le_mul_right _ hge
    omega
  · rw [List.take_append_of_le_length (by simp [hs.1, hs2.1, Nat.add_mul]), List.take_of_length_le (by simp [hs.1, hs2.1, Nat.add_mul])]
  · unfold Builtin.append_
    simp only [List.getElem?_toArray, List.getElem?_cons_zero, List.getElem?_cons_succ]
    show ((underlying st).bind _).run P w = _
    rw [run_bind_ok (run_underlying hu w)]
    simp only []
    show ((sizeOf el).bind _).run P w = _
    rw [run_bind_ok (ht.run_size w)]
    simp only [bind]
    rw [run_bind_ok (run_underlying hu2 w)]
    simp only []
    rw [run_bind_ok (show (Pure.pure false : Sem Bool).run P w = .ok false w from rfl)]
    simp only [Bool.false_eq_true, if_false]
    rw [run_bind_ok (show (Builtin.lenOf (.slice a2 k c2)).run P w = .ok k w by rfl)]
    simp only [Bool.not_false, if_true]
    rw [if_neg hcap, run_bind_ok hi]
    rw [if_neg (by rw [hi2]; rintro ⟨_, h | h⟩ <;> first | omega | cases h)]
    rw [run_bind_ok hi, if_neg (by rw [hi2]; omega)]
    have hch : (choose (.appendCap (m + k) c el)).run P w = .ok nc { w with drawn := w.drawn + 1 } := by
      simp [choose, Sem.run, Question.forced, Question.cut, nc]
    rw [run_bind_ok hch]
    let w1 : World := { w with drawn := w.drawn + 1 }
    have hw1 : ∀ ad, w1.cell? ad = w.cell? ad := fun _ => rfl
    have hs' : SlAt w1 sz a m xs := hs
    have hs2' : SlAt w1 sz a2 k ys := hs2
    obtain ⟨i', hi', hj1, hj2, hj3⟩ := ht.run_info w1
    rw [run_bind_ok hi']
    rw [run_bind_ok (show (askRoom (nc * i'.bytes)).run P w1 = .ok () w1 by unfold askRoom; split <;> simp [mark, pure, Sem.run])]
    rw [run_bind_ok (run_firstCells hs'), run_bind_ok (run_firstCells hs2')]
    rw [run_bind_ok (ht.run_zero w1)]
    simp only [newRow, newObj, bind, Sem.bind, pure, Sem.run]
    have : (Array.mk (xs ++ ys ++ (Builtin.zeroCells z.cells (nc - (m + k))).toList)) = xs.toArray ++ ys.toArray ++ Builtin.zeroCells z.cells (nc - (m + k)) := by
      apply Array.ext'; simp
    rw [← this]

/-- append onto a slice of one's own. -/
theorem Eff.appendT {x y : Operand} {st st2 el el2 : TypeId} {a2 : Option Addr} {k c2 by' : Nat} {z : Value} {ag : Bool} {ys : List Value} {put : HProp → List HProp} {ats : Array TypeId}
    (hx : e.ev x = some (.slice a m c)) (hy : e.ev y = some (.slice a2 k c2)) (hats : ats = #[st, st2]) (hu : P.underlying st = some (.slice el)) (hu2 : P.underlying st2 = some (.slice el2)) (ht : TI P el sz by' z ag) (hz : z.cells.size = sz) (hby : 0 < by')
    (fc : Foc G (osl el sz a c m xs) put) (hr : SlR W0 G sz a2 k ys) (hone : ∀ v ∈ ys, one v = true) (hb : ((m + k) + (m + k) / 4 + 512) * by' ≤ 2 ^ 48) :
    Eff P W0 (.call { callee := .builtin .append, args := #[x, y], argTypes := ats }) ty e G (fun _ : Option Addr × Nat => True) (fun p => .slice p.1 (m + k) p.2) (fun p => put (osl el sz p.1 p.2 (m + k) (xs ++ ys))) := fun ρ hρ w hw _ _ _ _ => by
  subst hats
  obtain ⟨R, hR⟩ := foc_ext fc
  have hs0 := SlR.of_osl (W0 := W0) hR w hw
  have hy0 := hr w hw
  have hevs : e.evs [x, y] = some [.slice a m c, .slice a2 k c2] := by simp only [Env.evs, hx, hy]
  have hb2 : m + k < 2 ^ 62 := by
    have : ((m + k) + (m + k) / 4 + 512) * 1 ≤ ((m + k) + (m + k) / 4 + 512) * by' := Nat.mul_le_mul_left _ hby
    omega
  by_cases hcap : m + k ≤ c
  · obtain ⟨f, hf, hA⟩ := Sat.ext hR hw
    obtain ⟨h1, h2, h3⟩ := hA
    rcases h3 with ⟨rfl, rfl, rfl⟩ | ⟨b, o, cs, fr, rfl, hbk, hfr, ho, htk⟩
    · -- a nil slice, and nothing to append
      have hm : m = 0 := by omega
      have hk : k = 0 := by omega
      subst hm hk
      have hys : ys = [] := List.length_eq_zero_iff.1 (by rw [hy0.1]; simp)
      subst hys
      refine ⟨(none, 0), w, trivial, ?_, .inl ?_⟩
      · simp only [List.append_nil]
        obtain ⟨R', e', hp⟩ := fc
        exact hw.imp (Imp.trans e'.1 (hp _))
      · refine run_built (s := Builtin.append_ #[st, st2] ty #[.slice none 0 0, .slice a2 0 c2]) hρ hevs (fun _ => rfl) ?_
        unfold Builtin.append_
        simp only [List.getElem?_toArray, List.getElem?_cons_zero, List.getElem?_cons_succ]
        show ((underlying st).bind _).run P w = _
        rw [run_bind_ok (run_underlying hu w)]
        simp only []
        show ((sizeOf el).bind _).run P w = _
        rw [run_bind_ok (ht.run_size w)]
        simp only [bind]
        rw [run_bind_ok (run_underlying hu2 w)]
        simp only []
        rw [run_bind_ok (show (Pure.pure false : Sem Bool).run P w = .ok false w from rfl)]
        simp only [Bool.false_eq_true, if_false]
        rw [run_bind_ok (show (Builtin.lenOf (.slice a2 0 c2)).run P w = .ok 0 w by rfl)]
        simp only [Bool.not_false, if_true]
        rw [if_pos hcap, run_bind_ok (run_firstCells hy0)]
        rfl
    · have hwb := hf _ _ hbk
      have hle : (m + k) * sz ≤ c * sz := Nat.mul_le_mul_right _ hcap
      have hle' := hle
      rw [Nat.add_mul] at hle'
      refine ⟨(some ⟨b, o, none⟩, c), setObjW w b (.cells (over cs (o + m * sz) ys).toArray el fr), trivial, ?_, .inl ?_⟩
      · refine Sat.write (b := b) (o := .cells cs.toArray el fr) fc hw hwb ?_
        intro f' hle' hf'
        obtain ⟨h1', _, h3'⟩ := hf'
        rcases h3' with ⟨h, _⟩ | ⟨b', o', cs', fr', hq, hbk', _, _, htk'⟩
        · cases h
        · cases hq
          have hsame : some (Obj.cells cs'.toArray el fr') = some (Obj.cells cs.toArray el fr) := (hle' _ _ hbk').symm.trans hwb
          have hcs : cs' = cs := by
            simp only [Option.some.injEq, Obj.cells.injEq] at hsame
            exact List.toArray_inj hsame.1
          have hfr' : fr' = fr := by
            simp only [Option.some.injEq, Obj.cells.injEq] at hsame
            exact hsame.2.2
          subst hcs hfr'
          have hl2 := hy0.1
          refine ⟨hbk', by simp [h1, hl2, Nat.add_mul], hcap, .inr ⟨b, o, over cs' (o + m * sz) ys, fr', rfl, by simp [updH], ?_, ?_, ?_⟩⟩
          · rw [over_length (by omega)]; exact hfr
          · rw [over_length (by omega)]; exact ho
          · have := osl_over htk' h1 (ys := ys) (by omega)
            rw [Nat.add_mul, ← hl2]; exact this
      · exact run_built (s := Builtin.append_ #[st, st2] ty #[.slice (some ⟨b, o, none⟩) m c, .slice a2 k c2]) hρ hevs (fun _ => rfl) (run_append_room hu hu2 ht hcap hy0 hwb hfr ho hone)
  · obtain ⟨nc, cs, h1, h2, h3, h4⟩ := run_append_growT (P := P) (ty := ty) (c := c) (c2 := c2) hu hu2 ht hz hcap hs0 hy0 hb hb2 hby
    refine ⟨(some ⟨w.heap.size, 0, none⟩, nc), _, trivial, ?_, .inl (run_built (s := Builtin.append_ #[st, st2] ty #[.slice a m c, .slice a2 k c2]) hρ hevs (fun _ => rfl) h4)⟩
    have hnew := Sat.draw (Sat.new hw (.cells cs.toArray el (0, 0))) (w.drawn + 1)
    obtain ⟨R', e', hp⟩ := fc
    refine (hnew.imp (Imp.trans (Imp.cons (Imp.trans e'.1 Imp.drop)) (Imp.trans (Imp.head (fun f hf => ?_)) (hp _))))
    refine ⟨by simp [hs0.1, hy0.1, Nat.add_mul], h1, .inr ⟨w.heap.size, 0, cs, (0, 0), rfl, hf, NoFr.zero _, by show 0 + nc * sz ≤ _; omega, by simpa using h3⟩⟩
end
end Go.Sl
/- The document's images: Copy and Same. -/
namespace Go.Proofs.YtmlfcfbblfcpdaaGreat.Sp
open Go Go.Sl Go.RowKit Go.Proofs Go.Proofs.YtmlfcfbblfcpdaaGreat.T
set_option maxRecDepth 100000
/-- A section as it can be seen. -/
def SSec.v (s : SSec) : Int × Int × List UInt8 := (s.Page, s.Perm, s.Bytes)
structure IZ where
  a : Option Addr
  c : Nat
  l : List SSec
abbrev secB (s : SSec) : HProp := oby 5 s.Bytesa s.Bytesc s.Bytes
/-- Sections of one's own. -/
abbrev ISO (a : Option Addr) (c : Nat) (l : List SSec) : List HProp := [osl 82 3 a c l.length ((l.map SSec.cells).flatten), Star (l.map secB)]
theorem iso_snoc {a : Option Addr} {c : Nat} {l : List SSec} {x : SSec} {G : List HProp} :
    Imp (secB x :: osl 82 3 a c (l.length + 1) ((l.map SSec.cells).flatten ++ x.cells) :: Star (l.map secB) :: G) (ISO a c (l ++ [x]) ++ G) := by
  rw [show ISO a c (l ++ [x]) = [osl 82 3 a c (l.length + 1) ((l.map SSec.cells).flatten ++ x.cells), Star (l.map secB ++ [secB x])] by simp [ISO]]
  refine Imp.trans (B := secB x :: Star (l.map secB) :: osl 82 3 a c (l.length + 1) ((l.map SSec.cells).flatten ++ x.cells) :: G) iM (Imp.trans star_add ?_)
  dsimp only [List.cons_append, List.nil_append]
  exact iM
theorem SecR.of {W0 : World} {G : List HProp} {a : Option Addr} {c : Nat} {l : List SSec} (hl : ∀ s ∈ l, s.Bytes.length ≤ reachBytes) : SecR W0 (ISO a c l ++ G) a l := by
  refine ⟨SlR.of_osl (E := 82) (c := c) Ext.here, hl, fun x hx => ?_⟩
  obtain ⟨j, hj⟩ := List.mem_iff_getElem?.1 hx
  have hy : (l.map secB)[j]? = some (secB x) := by rw [List.getElem?_map, hj]; rfl
  refine RdB.imp (G' := [secB x, Star ((l.map secB).eraseIdx j)]) (RdB.of_osl (E := 5) (c := x.Bytesc) Ext.here rfl rfl) ?_
  refine Imp.trans (B := [Star (l.map secB)]) ?_ (star_take hy)
  dsimp only [ISO, List.cons_append, List.nil_append]
  exact iM
section
variable (W0 : World) (Fr : List HProp)
set_option maxHeartbeats 1000000 in
theorem rcopy_spec {en : Int} {a : Option Addr} {l : List SSec} {c : Nat} (hlen : l.length * 40 ≤ reachBytes) (h : SecR W0 Fr a l) : Ctr Tryz.prog W0 17 [imgV en a l c] Fr (fun z : IZ => z.l.map SSec.v = l.map SSec.v) (fun z => imgV en z.a z.l z.c) (fun z => ISO z.a z.c z.l ++ Fr) := by
  unfold reachBytes at hlen
  refine Ctr.of_body Tryz.func17 rfl Tryz.ntmps17 rfl ?_
  refine CG.seq ?_
  refine CG.region ?_
  refine OG.effd (Eff.box rfl) rfl ?_
  rintro b1 -
  refine OG.effd (Eff.alloc ti35) rfl ?_
  rintro b2 -
  refine OG.nil ?_
  refine QG.then ?_
  refine CG.seq ?_
  refine CG.region ?_
  refine OG.yield (Yield.fieldAddr fa35_0 rfl) rfl ?_
  refine OG.yield (Yield.loadA ti30 rfl) rfl ?_
  refine OG.yield (Yield.build bu35 ti35 rfl (cells := [_, _]) rfl) rfl ?_
  refine OG.effd (Eff.alloc ti35) rfl ?_
  rintro b3 -
  refine OG.eff (Eff.storeAll ti35 rfl rfl fC rfl (by simp [one]) (by first | rfl | simp)) rfl ?_
  rintro ⟨⟩ -
  refine OG.nil ?_
  refine QG.then ?_
  refine CG.seq ?_
  refine CG.seq ?_
  refine CG.region ?_
  refine OG.sg rfl rfl ?_
  refine OG.nil ?_
  refine QG.then ?_
  refine CG.block ?_
  refine CG.loop (fun y : Nat × IZ => y.1 ≤ l.length ∧ y.2.l.map SSec.v = (l.map SSec.v).take y.1 ∧ y.2.l.length = y.1) (fun y => [(1, .pointer (some ⟨b1, 0, none⟩)), (2, .pointer (some ⟨b2, 0, none⟩)), (3, .pointer (some ⟨b3, 0, none⟩)), (4, .int .i64 y.1)]) (fun y => blk b3 [.int .u32 en, .slice y.2.a y.2.l.length y.2.c] 35 :: blk b1 [.int .u32 en, .slice a l.length c] 35 :: blk b2 [.int .u32 0, .slice none 0 0] 35 :: (ISO y.2.a y.2.c y.2.l ++ Fr)) (fun y => l.length - y.1) (0, ⟨none, 0, []⟩) ⟨Nat.zero_le _, rfl, rfl⟩ eS (Imp.trans star_nil (Imp.trans osl_nil iM)) ?_
  rintro ⟨i, y⟩ ⟨hi, hy, hyl⟩
  dsimp only [ISO, List.cons_append, List.nil_append] at hi hy hyl ⊢
  refine CG.seq ?_
  refine CG.seq ?_
  refine CG.region ?_
  refine OG.mv rfl rfl ?_
  refine OG.yield (Yield.fieldAddr fa35_1 rfl) rfl ?_
  refine OG.yield (Yield.loadA ti33 rfl) rfl ?_
  refine OG.yield (Yield.len_slice Tryz.underlying33 rfl rfl) rfl ?_
  refine OG.yield Yield.lssA rfl ?_
  refine OG.nil ?_
  refine QG.then ?_
  refine CG.cond rfl (fun hc => ?_) (fun hc => ?_)
  · try replace hc := of_decide_eq_true hc
    obtain ⟨x, hx⟩ : ∃ x, l[i]? = some x := ⟨_, List.getElem?_eq_getElem (by omega)⟩
    have hil := (List.getElem?_eq_some_iff.1 hx).1
    have hxv : (l.map SSec.v)[i]? = some x.v := by rw [List.getElem?_map, hx]; rfl
    have hxb := h.len x (List.mem_of_getElem? hx)
    unfold reachBytes at hxb
    refine CG.pure (fun w hw => SlR.elem_shape (W0 := W0) (f := SSec.cells) (xs := l) (i := i) (h.cells.imp iM) SSec.len (by decide) hil w hw) ?_
    rintro ⟨ol, oo, rfl⟩
    refine CG.skip ?_
    refine QG.then ?_
    refine CG.seq ?_
    refine CG.block ?_
    refine CG.seq ?_
    refine CG.region ?_
    refine OG.yield (Yield.fieldAddr fa35_1 rfl) rfl ?_
    refine OG.yield (Yield.loadA ti33 rfl) rfl ?_
    refine OG.mv rfl rfl ?_
    refine OG.yield (Yield.index_slice Tryz.underlying33 ti82 rfl rfl (by omega) (by omega)) rfl ?_
    refine OG.yield (Yield.load_agg (vs := x.cells) ti82 rfl (SSec.len _) (by rw [show oo + (i : Int).toNat * 3 = oo + i * 3 by omega]; exact SlR.elem (f := SSec.cells) (xs := l) (i := i) (h.cells.imp iM) SSec.len hx)) rfl ?_
    refine OG.effd (Eff.alloc ti82) rfl ?_
    rintro b5 -
    refine OG.eff (Eff.storeAll (vs := x.cells) ti82 rfl rfl fC rfl (SSec.ones _) (by simp [Value.cells])) rfl ?_
    rintro ⟨⟩ -
    refine OG.nil ?_
    refine QG.then ?_
    refine CG.seq ?_
    refine CG.region ?_
    refine OG.effd (Eff.lit0 Tryz.underlying32 ti5 rfl) rfl ?_
    rintro b21 -
    refine OG.yield (Yield.fieldAddr fa82_2 rfl) rfl ?_
    refine OG.yield (Yield.load (v := .slice x.Bytesa x.Bytes.length x.Bytesc) ti32 rfl (Cel.of_blk eX rfl)) rfl ?_
    refine OG.effd (Eff.appendB0 (ys := x.Bytes) rfl rfl rfl Tryz.underlying32 Tryz.underlying32 ti5 (by decide) fC (((h.bytes x (List.mem_of_getElem? hx)).slR).imp iM) (by omega)) rfl ?_
    rintro ⟨a24, c24⟩ -
    refine OG.yield (Yield.fieldAddr fa82_2 rfl) rfl ?_
    refine OG.eff (Eff.store1 (v := .slice a24 x.Bytes.length c24) ti32 rfl rfl fC rfl (by simp [SSec.cells])) rfl ?_
    rintro ⟨⟩ -
    refine OG.nil ?_
    refine QG.then ?_
    refine CG.region ?_
    refine OG.yield (Yield.fieldAddr fa35_1 rfl) rfl ?_
    refine OG.yield (Yield.loadA ti33 rfl) rfl ?_
    refine OG.yield (Yield.load_agg (vs := SSec.cells ⟨x.Page, x.Perm, a24, c24, x.Bytes⟩) ti82 rfl (SSec.len _) (Row.of_blk (b := b5) eX rfl)) rfl ?_
    refine OG.effd (Eff.lit [.tmp 28] (vs := [.agg (SSec.cells ⟨x.Page, x.Perm, a24, c24, x.Bytes⟩).toArray]) (cells := SSec.cells ⟨x.Page, x.Perm, a24, c24, x.Bytes⟩) Tryz.underlying33 ti82 rfl rfl rfl rfl (by decide) (by simp [Value.cells, SSec.cells]) (by simp [Value.cells])) rfl ?_
    rintro b29 -
    refine OG.effd (Eff.appendT (a := y.a) (c := y.c) (m := y.l.length) (xs := (y.l.map SSec.cells).flatten) (k := 1) (ys := SSec.cells ⟨x.Page, x.Perm, a24, c24, x.Bytes⟩) rfl rfl rfl Tryz.underlying33 Tryz.underlying33 ti82 rfl (by decide) fC (SlR.of_osl (a := some ⟨b29, 0, none⟩) eX) (SSec.ones _) (by omega)) rfl ?_
    rintro ⟨a30, c30⟩ -
    refine OG.yield (Yield.fieldAddr fa35_1 rfl) rfl ?_
    refine OG.eff (Eff.store1 ti33 rfl rfl fC rfl (by first | (simp; done) | decide)) rfl ?_
    rintro ⟨⟩ -
    refine OG.nil ?_
    refine QG.block_normal ?_
    refine QG.then ?_
    refine CG.region ?_
    refine OG.mv rfl rfl ?_
    refine OG.yield (Yield.add rfl rfl (w64 (by omega) (by omega))) rfl ?_
    refine OG.sg rfl rfl ?_
    refine OG.nil ?_
    refine QG.next (i + 1, ⟨a30, c30, y.l ++ [⟨x.Page, x.Perm, a24, c24, x.Bytes⟩]⟩) ⟨by simp only; omega, ?_, by simp only [List.length_append, List.length_cons, List.length_nil]; omega⟩ (by simp only; omega) eS ?_
    · obtain ⟨q1, q2⟩ := List.getElem?_eq_some_iff.1 hxv
      simp only [List.map_append, hy]
      rw [List.take_succ_eq_append_getElem q1, q2]; rfl
    · dsimp only
      rw [show blk b3 [.int .u32 en, .slice a30 (y.l ++ [(⟨x.Page, x.Perm, a24, c24, x.Bytes⟩ : SSec)]).length c30] 35 = blk b3 [.int .u32 en, .slice a30 (y.l.length + 1) c30] 35 by rw [List.length_append]; rfl]
      exact Imp.trans (B := secB ⟨x.Page, x.Perm, a24, c24, x.Bytes⟩ :: osl 82 3 a30 c30 (y.l.length + 1) ((y.l.map SSec.cells).flatten ++ SSec.cells ⟨x.Page, x.Perm, a24, c24, x.Bytes⟩) :: Star (y.l.map secB) :: blk b3 [.int .u32 en, .slice a30 (y.l.length + 1) c30] 35 :: blk b1 [.int .u32 en, .slice (some ⟨ol, oo, none⟩) l.length c] 35 :: blk b2 [.int .u32 0, .slice none 0 0] 35 :: Fr) iM (Imp.trans iso_snoc iM)
  · try replace hc := of_decide_eq_false hc
    refine CG.exit ?_
    refine QG.pass_exit ?_
    refine QG.pass_exit ?_
    refine QG.block_exit ?_
    refine QG.then ?_
    refine CG.seq ?_
    refine CG.region ?_
    refine OG.yield (Yield.load_agg (vs := [.int .u32 en, .slice y.a y.l.length y.c]) ti35 rfl rfl (Row.of_blk (b := b3) eX rfl)) rfl ?_
    refine OG.eff (Eff.storeAll (vs := [.int .u32 en, .slice y.a y.l.length y.c]) ti35 rfl rfl fC rfl (by simp [one]) (by simp [Value.cells])) rfl ?_
    rintro ⟨⟩ -
    refine OG.nil ?_
    refine QG.then ?_
    refine CG.ret ?_
    obtain rfl : i = l.length := by omega
    exact QG.rets [imgV en y.a y.l y.c] rfl ⟨ResP.agg ti35 rfl rfl (Row.of_blk (b := b2) eX rfl), trivial⟩ y (by rw [hy, List.take_of_length_le (by rw [List.length_map]; omega)]) rfl iM
set_option maxHeartbeats 1000000 in
theorem rsame_spec {en : Int} {a1 a2 : Option Addr} {l1 l2 : List SSec} {c1 c2 : Nat} (hlen : l2.length * 40 ≤ reachBytes) (h1 : SecR W0 Fr a1 l1) (h2 : SecR W0 Fr a2 l2) (hv : l1.map SSec.v = l2.map SSec.v) : Ctr Tryz.prog W0 38 [imgV en a1 l1 c1, imgV en a2 l2 c2] Fr (fun _ : Unit => True) (fun _ => .bool true) (fun _ => Fr) := by
  unfold reachBytes at hlen
  have hll : l1.length = l2.length := by have := congrArg List.length hv; rwa [List.length_map, List.length_map] at this
  refine Ctr.of_body Tryz.func38 rfl Tryz.ntmps38 rfl ?_
  refine CG.seq ?_
  refine CG.region ?_
  refine OG.effd (Eff.box rfl) rfl ?_
  rintro b2 -
  refine OG.effd (Eff.box rfl) rfl ?_
  rintro b3 -
  refine OG.sg rfl rfl ?_
  refine OG.nil ?_
  refine QG.then ?_
  refine CG.seq ?_
  refine CG.seq ?_
  refine CG.region ?_
  refine OG.yield (Yield.fieldAddr fa35_0 rfl) rfl ?_
  refine OG.yield (Yield.loadA ti30 rfl) rfl ?_
  refine OG.yield (Yield.fieldAddr fa35_0 rfl) rfl ?_
  refine OG.yield (Yield.loadA ti30 rfl) rfl ?_
  refine OG.yield (Yield.as (Yield.neq rfl rfl) (v' := .bool false) (bF (by simp))) rfl ?_
  refine OG.mv rfl rfl ?_
  refine OG.gy rfl rfl rfl ?_
  refine OG.yield (Yield.fieldAddr fa35_1 rfl) rfl ?_
  refine OG.gy rfl rfl rfl ?_
  refine OG.yield (Yield.loadA ti33 rfl) rfl ?_
  refine OG.gy rfl rfl rfl ?_
  refine OG.yield (Yield.len_slice Tryz.underlying33 rfl rfl) rfl ?_
  refine OG.gy rfl rfl rfl ?_
  refine OG.yield (Yield.fieldAddr fa35_1 rfl) rfl ?_
  refine OG.gy rfl rfl rfl ?_
  refine OG.yield (Yield.loadA ti33 rfl) rfl ?_
  refine OG.gy rfl rfl rfl ?_
  refine OG.yield (Yield.len_slice Tryz.underlying33 rfl rfl) rfl ?_
  refine OG.gy rfl rfl rfl ?_
  refine OG.yield (Yield.as (Yield.neq rfl rfl) (v' := .bool false) (bF (by omega))) rfl ?_
  refine OG.yield Yield.pickA rfl ?_
  refine OG.nil ?_
  refine QG.then ?_
  refine CG.cond_f rfl ?_
  refine CG.skip ?_
  refine QG.then ?_
  refine CG.seq ?_
  refine CG.seq ?_
  refine CG.region ?_
  refine OG.sg rfl rfl ?_
  refine OG.nil ?_
  refine QG.then ?_
  refine CG.block ?_
  refine CG.loop (fun i : Nat => i ≤ l1.length) (fun i => [(2, .pointer (some ⟨b2, 0, none⟩)), (3, .pointer (some ⟨b3, 0, none⟩)), (5, .int .i64 i)]) (fun _ => blk b2 [.int .u32 en, .slice a1 l1.length c1] 35 :: blk b3 [.int .u32 en, .slice a2 l2.length c2] 35 :: Fr) (fun i => l1.length - i) 0 (Nat.zero_le _) eS iM ?_
  rintro i hi
  refine CG.seq ?_
  refine CG.seq ?_
  refine CG.region ?_
  refine OG.mv rfl rfl ?_
  refine OG.yield (Yield.fieldAddr fa35_1 rfl) rfl ?_
  refine OG.yield (Yield.loadA ti33 rfl) rfl ?_
  refine OG.yield (Yield.len_slice Tryz.underlying33 rfl rfl) rfl ?_
  refine OG.yield Yield.lssA rfl ?_
  refine OG.nil ?_
  refine QG.then ?_
  refine CG.cond rfl (fun hc => ?_) (fun hc => ?_)
  · try replace hc := of_decide_eq_true hc
    obtain ⟨x, hx⟩ : ∃ x, l1[i]? = some x := ⟨_, List.getElem?_eq_getElem (by omega)⟩
    obtain ⟨y, hy⟩ : ∃ y, l2[i]? = some y := ⟨_, List.getElem?_eq_getElem (by omega)⟩
    have hxy : x.v = y.v := by
      have e1 : (l1.map SSec.v)[i]? = some x.v := by rw [List.getElem?_map, hx]; rfl
      have e2 : (l2.map SSec.v)[i]? = some y.v := by rw [List.getElem?_map, hy]; rfl
      rw [hv, e2] at e1; exact (Option.some.inj e1).symm
    have e1 : x.Page = y.Page := congrArg (·.1) hxy
    have e2 : x.Perm = y.Perm := congrArg (·.2.1) hxy
    have e3 : x.Bytes = y.Bytes := congrArg (·.2.2) hxy
    refine CG.pure (fun w hw => SlR.elem_shape (W0 := W0) (f := SSec.cells) (xs := l1) (i := i) (h1.cells.imp iM) SSec.len (by decide) (by omega) w hw) ?_
    rintro ⟨o1, p1, rfl⟩
    refine CG.pure (fun w hw => SlR.elem_shape (W0 := W0) (f := SSec.cells) (xs := l2) (i := i) (h2.cells.imp iM) SSec.len (by decide) (by omega) w hw) ?_
    rintro ⟨o2, p2, rfl⟩
    refine CG.skip ?_
    refine QG.then ?_
    refine CG.seq ?_
    refine CG.block ?_
    refine CG.seq ?_
    refine CG.draw (.look 0 0 (.look 1 0 (.look 2 0 (.look 3 0 (.look 4 0 (.look 5 0 (.look 6 0 (.look 7 0 (.look 8 0 (.look 9 0 (.eff2 10 false (.eff1 11 false (.eff1 12 false (.eff1 13 false (.done)))) 11 false (.eff1 10 false (.eff1 12 false (.eff1 13 false (.done))))))))))))))) [10, 11, 12, 13] [] (blk b2 [.int .u32 en, .slice (some ⟨o1, p1, none⟩) l1.length c1] 35 :: blk b3 [.int .u32 en, .slice (some ⟨o2, p2, none⟩) l2.length c2] 35 :: Fr) ([]) mixed (by kernel_rfl) iM (Imp.none _) ?_
    refine DG.look rfl rfl (Yield.fieldAddr fa35_1 rfl) rfl ?_
    refine DG.look rfl rfl (Yield.loadA ti33 rfl) rfl ?_
    refine DG.look rfl rfl (Yield.move rfl) rfl ?_
    refine DG.look rfl rfl (Yield.index_slice Tryz.underlying33 ti82 rfl rfl (by omega) (by omega)) rfl ?_
    refine DG.look rfl rfl (Yield.load_agg (vs := x.cells) ti82 rfl (SSec.len _) (by rw [show p1 + (i : Int).toNat * 3 = p1 + i * 3 by omega]; exact SlR.elem (f := SSec.cells) (xs := l1) (i := i) (h1.cells.imp iM) SSec.len hx)) rfl ?_
    refine DG.look rfl rfl (Yield.fieldAddr fa35_1 rfl) rfl ?_
    refine DG.look rfl rfl (Yield.loadA ti33 rfl) rfl ?_
    refine DG.look rfl rfl (Yield.move rfl) rfl ?_
    refine DG.look rfl rfl (Yield.index_slice Tryz.underlying33 ti82 rfl rfl (by omega) (by omega)) rfl ?_
    refine DG.look rfl rfl (Yield.load_agg (vs := y.cells) ti82 rfl (SSec.len _) (by rw [show p2 + (i : Int).toNat * 3 = p2 + i * 3 by omega]; exact SlR.elem (f := SSec.cells) (xs := l2) (i := i) (h2.cells.imp iM) SSec.len hy)) rfl ?_
    refine DG.eff2 ?_ ?_
    · skip
      refine Chg.eff rfl rfl (Eff.alloc ti82) rfl (fun _ => iM) (fun _ => Imp.refl _) (fun _ => iM) ?_
      rintro b6 -
      refine DG.eff1 ?_
      refine Chg.eff rfl rfl (Eff.alloc ti82) rfl (fun _ => iM) (fun _ => Imp.refl _) (fun _ => iM) ?_
      rintro b7 -
      refine DG.eff1 ?_
      refine Chg.eff rfl rfl (Eff.storeAll (vs := x.cells) ti82 rfl rfl fC rfl (SSec.ones _) (by simp [Value.cells])) rfl (fun _ => iM) (fun _ => Imp.refl _) (fun _ => iM) ?_
      rintro ⟨⟩ -
      refine DG.eff1 ?_
      refine Chg.eff rfl rfl (Eff.storeAll (vs := y.cells) ti82 rfl rfl fC rfl (SSec.ones _) (by simp [Value.cells])) rfl (fun _ => iM) (fun _ => Imp.refl _) (fun _ => iM) ?_
      rintro ⟨⟩ -
      refine DG.done ?_
      refine QG.then ?_
      refine CG.seq ?_
      refine CG.region ?_
      refine OG.yield (Yield.fieldAddr fa82_0 rfl) rfl ?_
      refine OG.yield (Yield.load (v := .int .i64 x.Page) ti3 rfl (Cel.of_blk (b := b6) eX rfl)) rfl ?_
      refine OG.yield (Yield.fieldAddr fa82_0 rfl) rfl ?_
      refine OG.yield (Yield.load (v := .int .i64 y.Page) ti3 rfl (Cel.of_blk (b := b7) eX rfl)) rfl ?_
      refine OG.yield (Yield.as (Yield.neq rfl rfl) (v' := .bool false) (bF (by simp [e1]))) rfl ?_
      refine OG.mv rfl rfl ?_
      refine OG.gy rfl rfl rfl ?_
      refine OG.yield (Yield.fieldAddr fa82_1 rfl) rfl ?_
      refine OG.gy rfl rfl rfl ?_
      refine OG.yield (Yield.load (v := .int .i64 x.Perm) ti3 rfl (Cel.of_blk (b := b6) eX rfl)) rfl ?_
      refine OG.gy rfl rfl rfl ?_
      refine OG.yield (Yield.fieldAddr fa82_1 rfl) rfl ?_
      refine OG.gy rfl rfl rfl ?_
      refine OG.yield (Yield.load (v := .int .i64 y.Perm) ti3 rfl (Cel.of_blk (b := b7) eX rfl)) rfl ?_
      refine OG.gy rfl rfl rfl ?_
      refine OG.yield (Yield.as (Yield.neq rfl rfl) (v' := .bool false) (bF (by simp [e2]))) rfl ?_
      refine OG.yield Yield.pickA rfl ?_
      refine OG.mv rfl rfl ?_
      refine OG.gy rfl rfl rfl ?_
      refine OG.yield (Yield.fieldAddr fa82_2 rfl) rfl ?_
      refine OG.gy rfl rfl rfl ?_
      refine OG.yield (Yield.load (v := .slice x.Bytesa x.Bytes.length x.Bytesc) ti32 rfl (Cel.of_blk (b := b6) eX rfl)) rfl ?_
      refine OG.gy rfl rfl rfl ?_
      refine OG.yield (Yield.toStr (bs := x.Bytes) Tryz.underlying32 Tryz.underlying9 Tryz.underlying5 rfl (((h1.bytes x (List.mem_of_getElem? hx)).slR).imp iM)) rfl ?_
      refine OG.gy rfl rfl rfl ?_
      refine OG.yield (Yield.fieldAddr fa82_2 rfl) rfl ?_
      refine OG.gy rfl rfl rfl ?_
      refine OG.yield (Yield.load (v := .slice y.Bytesa y.Bytes.length y.Bytesc) ti32 rfl (Cel.of_blk (b := b7) eX rfl)) rfl ?_
      refine OG.gy rfl rfl rfl ?_
      refine OG.yield (Yield.toStr (bs := y.Bytes) Tryz.underlying32 Tryz.underlying9 Tryz.underlying5 rfl (((h2.bytes y (List.mem_of_getElem? hy)).slR).imp iM)) rfl ?_
      refine OG.gy rfl rfl rfl ?_
      refine OG.yield (Yield.as (Yield.str_neq rfl rfl) (v' := .bool false) (by rw [strOf_toList, strOf_toList]; simp [e3])) rfl ?_
      refine OG.yield Yield.pickA rfl ?_
      refine OG.nil ?_
      refine QG.then ?_
      refine CG.cond_f rfl ?_
      refine CG.skip ?_
      refine QG.block_normal ?_
      refine QG.then ?_
      refine CG.region ?_
      refine OG.mv rfl rfl ?_
      refine OG.yield (Yield.add rfl rfl (w64 (by omega) (by omega))) rfl ?_
      refine OG.sg rfl rfl ?_
      refine OG.nil ?_
      exact QG.next (i + 1) (by omega) (by omega) eS iM
    · skip
      refine Chg.eff rfl rfl (Eff.alloc ti82) rfl (fun _ => iM) (fun _ => Imp.refl _) (fun _ => iM) ?_
      rintro b7 -
      refine DG.eff1 ?_
      refine Chg.eff rfl rfl (Eff.alloc ti82) rfl (fun _ => iM) (fun _ => Imp.refl _) (fun _ => iM) ?_
      rintro b6 -
      refine DG.eff1 ?_
      refine Chg.eff rfl rfl (Eff.storeAll (vs := x.cells) ti82 rfl rfl fC rfl (SSec.ones _) (by simp [Value.cells])) rfl (fun _ => iM) (fun _ => Imp.refl _) (fun _ => iM) ?_
      rintro ⟨⟩ -
      refine DG.eff1 ?_
      refine Chg.eff rfl rfl (Eff.storeAll (vs := y.cells) ti82 rfl rfl fC rfl (SSec.ones _) (by simp [Value.cells])) rfl (fun _ => iM) (fun _ => Imp.refl _) (fun _ => iM) ?_
      rintro ⟨⟩ -
      refine DG.done ?_
      refine QG.then ?_
      refine CG.seq ?_
      refine CG.region ?_
      refine OG.yield (Yield.fieldAddr fa82_0 rfl) rfl ?_
      refine OG.yield (Yield.load (v := .int .i64 x.Page) ti3 rfl (Cel.of_blk (b := b6) eX rfl)) rfl ?_
      refine OG.yield (Yield.fieldAddr fa82_0 rfl) rfl ?_
      refine OG.yield (Yield.load (v := .int .i64 y.Page) ti3 rfl (Cel.of_blk (b := b7) eX rfl)) rfl ?_
      refine OG.yield (Yield.as (Yield.neq rfl rfl) (v' := .bool false) (bF (by simp [e1]))) rfl ?_
      refine OG.mv rfl rfl ?_
      refine OG.gy rfl rfl rfl ?_
      refine OG.yield (Yield.fieldAddr fa82_1 rfl) rfl ?_
      refine OG.gy rfl rfl rfl ?_
      refine OG.yield (Yield.load (v := .int .i64 x.Perm) ti3 rfl (Cel.of_blk (b := b6) eX rfl)) rfl ?_
      refine OG.gy rfl rfl rfl ?_
      refine OG.yield (Yield.fieldAddr fa82_1 rfl) rfl ?_
      refine OG.gy rfl rfl rfl ?_
      refine OG.yield (Yield.load (v := .int .i64 y.Perm) ti3 rfl (Cel.of_blk (b := b7) eX rfl)) rfl ?_
      refine OG.gy rfl rfl rfl ?_
      refine OG.yield (Yield.as (Yield.neq rfl rfl) (v' := .bool false) (bF (by simp [e2]))) rfl ?_
      refine OG.yield Yield.pickA rfl ?_
      refine OG.mv rfl rfl ?_
      refine OG.gy rfl rfl rfl ?_
      refine OG.yield (Yield.fieldAddr fa82_2 rfl) rfl ?_
      refine OG.gy rfl rfl rfl ?_
      refine OG.yield (Yield.load (v := .slice x.Bytesa x.Bytes.length x.Bytesc) ti32 rfl (Cel.of_blk (b := b6) eX rfl)) rfl ?_
      refine OG.gy rfl rfl rfl ?_
      refine OG.yield (Yield.toStr (bs := x.Bytes) Tryz.underlying32 Tryz.underlying9 Tryz.underlying5 rfl (((h1.bytes x (List.mem_of_getElem? hx)).slR).imp iM)) rfl ?_
      refine OG.gy rfl rfl rfl ?_
      refine OG.yield (Yield.fieldAddr fa82_2 rfl) rfl ?_
      refine OG.gy rfl rfl rfl ?_
      refine OG.yield (Yield.load (v := .slice y.Bytesa y.Bytes.length y.Bytesc) ti32 rfl (Cel.of_blk (b := b7) eX rfl)) rfl ?_
      refine OG.gy rfl rfl rfl ?_
      refine OG.yield (Yield.toStr (bs := y.Bytes) Tryz.underlying32 Tryz.underlying9 Tryz.underlying5 rfl (((h2.bytes y (List.mem_of_getElem? hy)).slR).imp iM)) rfl ?_
      refine OG.gy rfl rfl rfl ?_
      refine OG.yield (Yield.as (Yield.str_neq rfl rfl) (v' := .bool false) (by rw [strOf_toList, strOf_toList]; simp [e3])) rfl ?_
      refine OG.yield Yield.pickA rfl ?_
      refine OG.nil ?_
      refine QG.then ?_
      refine CG.cond_f rfl ?_
      refine CG.skip ?_
      refine QG.block_normal ?_
      refine QG.then ?_
      refine CG.region ?_
      refine OG.mv rfl rfl ?_
      refine OG.yield (Yield.add rfl rfl (w64 (by omega) (by omega))) rfl ?_
      refine OG.sg rfl rfl ?_
      refine OG.nil ?_
      exact QG.next (i + 1) (by omega) (by omega) eS iM
  · try replace hc := of_decide_eq_false hc
    refine CG.exit ?_
    refine QG.pass_exit ?_
    refine QG.pass_exit ?_
    refine QG.block_exit ?_
    refine QG.then ?_
    refine CG.seq ?_
    refine CG.region ?_
    refine OG.sg rfl rfl ?_
    refine OG.nil ?_
    refine QG.then ?_
    refine CG.ret ?_
    exact QG.ret1 rfl rfl () trivial rfl iM
end
end Go.Proofs.YtmlfcfbblfcpdaaGreat.Sp
/- What a move needs: a TLB cloned, a space over other parts. -/
namespace Go.Proofs.YtmlfcfbblfcpdaaGreat.Tl
open Go Go.Sl Go.RowKit Go.Proofs Go.Proofs.YtmlfcfbblfcpdaaGreat.T
set_option maxRecDepth 100000
theorem slots_ones' (l : List Slot) : ∀ v ∈ (l.map Slot.cells).flatten, one v = true := by
  intro v hv
  simp only [List.mem_flatten, List.mem_map] at hv
  obtain ⟨q, ⟨s, _, rfl⟩, hv⟩ := hv
  exact Slot.ones s v hv
section
variable (W0 : World) (Fr : List HProp)
theorem tclone {t hand hits miss : Nat} {l : List Slot} (hl : l.length ≤ 64) (hl0 : 0 < l.length) : Ctr Tryz.prog W0 82 [.pointer (some ⟨t, 0, none⟩)] (T t l hand hits miss :: Fr) (fun _ : Nat => True) (fun u => .pointer (some ⟨u, 0, none⟩)) (fun u => T u l hand hits miss :: T t l hand hits miss :: Fr) := by
  refine Ctr.ex Ext.here t_open ?_
  rintro ⟨⟨b, o⟩, c⟩ -
  refine Ctr.imp star_open ?_
  dsimp only [TO]
  refine Ctr.of_body Tryz.func82 rfl Tryz.ntmps82 rfl ?_
  refine CG.seq ?_
  refine CG.region ?_
  refine OG.sg rfl rfl ?_
  refine OG.nil ?_
  refine QG.then ?_
  refine CG.seq ?_
  refine CG.region ?_
  refine OG.mv rfl rfl ?_
  refine OG.yield (Yield.nilCheck rfl) rfl ?_
  refine OG.yield (Yield.load_agg (vs := [.slice (some ⟨b, o, none⟩) l.length c, .int .i64 hand, .int .i64 hits, .int .i64 miss]) ti105 rfl rfl (Row.of_blk (b := t) eX rfl)) rfl ?_
  refine OG.effd (Eff.alloc ti105) rfl ?_
  rintro b3 -
  refine OG.eff (Eff.storeAll ti105 rfl rfl fC rfl (by simp [one]) (by first | rfl | simp)) rfl ?_
  rintro ⟨⟩ -
  refine OG.nil ?_
  refine QG.then ?_
  refine CG.seq ?_
  refine CG.region ?_
  refine OG.effd (Eff.lit0 Tryz.underlying103 ti143 rfl) rfl ?_
  rintro b7 -
  refine OG.mv rfl rfl ?_
  refine OG.yield (Yield.nilCheck rfl) rfl ?_
  refine OG.yield (Yield.fieldAddr fa105_0 rfl) rfl ?_
  refine OG.yield (Yield.loadA ti103 rfl) rfl ?_
  refine OG.effd (Eff.append0 (k := l.length) (ys := (l.map Slot.cells).flatten) rfl rfl rfl Tryz.underlying103 Tryz.underlying103 ti143 rfl (by decide) fC (SlR.of_osl (a := some ⟨b, o, none⟩) eX) (slots_ones' l) (by omega)) rfl ?_
  rintro ⟨a12, c12⟩ -
  refine OG.pure (fun w hw => SlR.shape (SlR.of_osl (W0 := W0) (E := 143) (sz := 5) (a := a12) (c := c12) (m := l.length) (xs := (l.map Slot.cells).flatten) eX) ?_ w hw) ?_
  · intro h
    have := flat_len (f := Slot.cells) Slot.len l
    rw [h] at this; simp only [List.length_nil] at this; omega
  rintro ⟨b2, o2, rfl⟩
  refine OG.yield (Yield.fieldAddr fa105_0 rfl) rfl ?_
  refine OG.eff (Eff.store1 ti103 rfl rfl fC rfl (by first | (simp; done) | decide)) rfl ?_
  rintro ⟨⟩ -
  refine OG.nil ?_
  refine QG.then ?_
  refine CG.seq ?_
  refine CG.region ?_
  refine OG.sg rfl rfl ?_
  refine OG.nil ?_
  refine QG.then ?_
  refine CG.ret ?_
  exact QG.ret1 rfl rfl b3 trivial rfl (Imp.trans iM (Imp.trans (t_close (l := l) (hand := hand) (hits := hits) (miss := miss) (t := b3) ((b2, o2), c12)) (Imp.cons (t_close ((b, o), c)))))
end
end Go.Proofs.YtmlfcfbblfcpdaaGreat.Tl
namespace Go.Proofs.YtmlfcfbblfcpdaaGreat.Sp
open Go Go.Sl Go.RowKit Go.Proofs Go.Proofs.YtmlfcfbblfcpdaaGreat.T Go.Proofs.YtmlfcfbblfcpdaaGreat.Me Go.Proofs.YtmlfcfbblfcpdaaGreat.Pe Go.Proofs.YtmlfcfbblfcpdaaGreat.Pg
set_option maxRecDepth 100000
section
variable (W0 : World) (Fr : List HProp)
theorem move_spec {s k r m f t m2 f2 t2 : Nat} : Ctr Tryz.prog W0 83 [.pointer (some ⟨s, 0, none⟩), .pointer (some ⟨m2, 0, none⟩), .pointer (some ⟨f2, 0, none⟩), .pointer (some ⟨t2, 0, none⟩)] (sb s k r m f t :: Fr) (fun _ : Nat => True) (fun u => .pointer (some ⟨u, 0, none⟩)) (fun u => sb u k r m2 f2 t2 :: sb s k r m f t :: Fr) := by
  refine Ctr.of_body Tryz.func83 rfl Tryz.ntmps83 rfl ?_
  refine CG.seq ?_
  refine CG.region ?_
  refine OG.sg rfl rfl ?_
  refine OG.nil ?_
  refine QG.then ?_
  refine CG.seq ?_
  refine CG.draw (.look 0 1 (.look 1 1 (.look 2 1 (.look 3 1 (.look 4 1 (.look 5 1 (.look 6 1 (.look 7 1 (.look 8 1 (.look 9 1 (.look 10 1 (.look 11 1 (.eff1 12 false (.look 13 1 (.done))))))))))))))) [12] [] ([]) ([]) mixed (by kernel_rfl) (Imp.none _) (Imp.none _) ?_
  refine DG.look rfl rfl (Yield.move rfl) rfl ?_
  refine DG.look rfl rfl (Yield.nilCheck rfl) rfl ?_
  refine DG.look rfl rfl (Yield.fieldAddr fa88_0 rfl) rfl ?_
  refine DG.look rfl rfl (Yield.loadA ti3 rfl) rfl ?_
  refine DG.look rfl rfl (Yield.move rfl) rfl ?_
  refine DG.look rfl rfl (Yield.nilCheck rfl) rfl ?_
  refine DG.look rfl rfl (Yield.fieldAddr fa88_1 rfl) rfl ?_
  refine DG.look rfl rfl (Yield.loadA ti3 rfl) rfl ?_
  refine DG.look rfl rfl (Yield.move rfl) rfl ?_
  refine DG.look rfl rfl (Yield.move rfl) rfl ?_
  refine DG.look rfl rfl (Yield.move rfl) rfl ?_
  refine DG.look rfl rfl (Yield.build bu88 ti88 rfl (cells := [.int .i64 k, .int .i64 r, .pointer (some ⟨m2, 0, none⟩), .pointer (some ⟨f2, 0, none⟩), .pointer (some ⟨t2, 0, none⟩)]) rfl) rfl ?_
  refine DG.eff1 ?_
  refine Chg.eff rfl rfl (Eff.box rfl) rfl (fun _ => iM) (fun _ => Imp.refl _) (fun _ => iM) ?_
  rintro b21 -
  refine DG.look rfl rfl (Yield.assign rfl) rfl ?_
  refine DG.done ?_
  refine QG.then ?_
  refine CG.ret ?_
  exact QG.ret1 rfl rfl b21 trivial rfl iM
end
end Go.Proofs.YtmlfcfbblfcpdaaGreat.Sp
/- The laws' world, with spaces that have pages: the program's and the document's. -/
namespace Go.Proofs.YtmlfcfbblfcpdaaGreat.Sp
open Go Go.Sl Go.RowKit Go.Proofs Go.Proofs.YtmlfcfbblfcpdaaGreat.T Go.Proofs.YtmlfcfbblfcpdaaGreat.Me Go.Proofs.YtmlfcfbblfcpdaaGreat.Pe Go.Proofs.YtmlfcfbblfcpdaaGreat.Pg
open Go.Proofs.YtmlfcfbblfcpdaaGreat.Fz (iv oiv iv_append iv_ones iv_get iv_len cnt free_frame left left_in nerr nerr_ok)
set_option maxRecDepth 100000
/-! ### what an operation of one space leaves of the others -/
structure Stp (o o' : Ob) (k : Nat) : Prop where
  vw : ∀ k' p, k' ≠ k → o'.vw k' p = o.vw k' p
  ts : ∀ k' g, k' ≠ k → o'.ts k' g = o.ts k' g
  fr : (o'.fr : Int) = o.fr - dO o o' k
theorem Stp.refl {o : Ob} {k : Nat} : Stp o o k := ⟨fun _ _ _ => rfl, fun _ _ _ => rfl, by rw [dO_same]; omega⟩
theorem Stp.used {o o' : Ob} {k : Nat} (h : Stp o o' k) {k' : Nat} (hk : k' ≠ k) : used o' k' = used o k' := by
  unfold Sp.used
  rw [cN_congr (f := o'.ts k') (g := o.ts k') 64 fun g _ => h.ts k' g hk, cN_congr (f := fun p => (o'.vw k' p).isSome) (g := fun p => (o.vw k' p).isSome) 4096 fun p _ => by rw [h.vw k' p hk]]
theorem Stp.pvs {o o' : Ob} {k : Nat} (h : Stp o o' k) {k' : Nat} (hk : k' ≠ k) : pvs o' k' = pvs o k' := pvTo_congr fun p _ => h.vw k' p hk
theorem stp_same {o o' : Ob} {k : Nat} (h1 : ∀ k' p, (o'.vw k' p).isSome = (o.vw k' p).isSome) (h2 : o'.ts = o.ts) (h3 : ∀ k' p, k' ≠ k → o'.vw k' p = o.vw k' p) (h4 : o'.fr = o.fr) : Stp o o' k ∧ dO o o' k = 0 := by
  have e : dO o o' k = 0 := by unfold dO; rw [used_some h1 h2]; omega
  exact ⟨⟨h3, fun _ _ _ => by rw [h2], by rw [e, h4]; omega⟩, e⟩
theorem stp_write {o : Ob} {k ad : Nat} {sz : Int} {v : Nat} : Stp o (writeO o k ad sz v).2 k ∧ dO o (writeO o k ad sz v).2 k = 0 := by
  obtain ⟨h1, h2, h3, h4⟩ := write_some o k ad sz v
  exact stp_same h1 h2 h3 h4
theorem stp_out {o : Ob} {k ad : Nat} {b : List UInt8} : Stp o (outR o k ad b).2 k ∧ dO o (outR o k ad b).2 k = 0 := by
  unfold outR
  split
  · exact ⟨Stp.refl, dO_same⟩
  · split
    · refine stp_same (fun k' p => ?_) rfl (fun k' p hk => ?_) rfl
      · unfold outO; dsimp only; cases o.vw k' p <;> rfl
      · unfold outO; dsimp only
        cases o.vw k' p with
        | none => rfl
        | some x => simp [hk]
    · exact ⟨Stp.refl, dO_same⟩
theorem stp_prot {o : Ob} {k : Nat} {p pm : Int} : Stp o (protO o k p pm).2 k ∧ dO o (protO o k p pm).2 k = 0 := by
  unfold protO
  split
  · exact ⟨Stp.refl, dO_same⟩
  · cases hx : o.vw k p.toNat with
    | none => exact ⟨Stp.refl, dO_same⟩
    | some x =>
      refine stp_same (fun k' q => ?_) rfl (fun k' q hk => up2_ne (fun e => hk e.1)) rfl
      dsimp only
      by_cases h : k' = k ∧ q = p.toNat
      · obtain ⟨rfl, rfl⟩ := h; rw [up2_at, hx]; rfl
      · rw [up2_ne h]
theorem stp_unmap {o : Ob} {k : Nat} {p : Int} : Stp o (unmapO o k p).2 k := by
  have hd := dO_unmap (o := o) (k := k) (p := p)
  rcases unmap_two o k p with ⟨h1, h2, -⟩ | ⟨q, x, rfl, hq, hx, e⟩
  · rw [h2]; exact Stp.refl
  · rw [e, if_pos rfl] at hd
    rw [e]
    exact ⟨fun k' p' hk => up2_ne (fun e => hk e.1), fun _ _ _ => rfl, by rw [hd]; dsimp only; omega⟩
theorem lay_oth {k : Nat} : ∀ {l : List PGv} {o : Ob}, (∀ k' p, k' ≠ k → (layL o k l).vw k' p = o.vw k' p) ∧ (∀ k' g, k' ≠ k → (layL o k l).ts k' g = o.ts k' g)
  | [], _ => ⟨fun _ _ _ => rfl, fun _ _ _ => rfl⟩
  | x :: l, o => by
    obtain ⟨h1, h2⟩ := lay_oth (k := k) (l := l) (o := lay1 o k x)
    refine ⟨fun k' p hk => (h1 k' p hk).trans (up2_ne (fun e => hk e.1)), fun k' g hk => (h2 k' g hk).trans (up2_ne (fun e => hk e.1))⟩
theorem stp_all {q : Int} {o : Ob} {k : Nat} {L : List PGv} (hA : Asc (-1) L) (hq : q ≤ o.fr) : Stp o (allR q o k L).2 k := by
  have hd := dO_all (q := q) (o := o) (k := k) hA
  by_cases h1 : ∃ x ∈ L, (o.vw k x.1).isSome = true
  · obtain ⟨x, hx, h⟩ := h1
    rw [(all_there (q := q) hx h).1]; exact Stp.refl
  · have h2 : ∀ x ∈ L, o.vw k x.1 = none := fun x hx => by
      cases h3 : o.vw k x.1 with
      | none => rfl
      | some y => exact absurd ⟨x, hx, by rw [h3]; rfl⟩ h1
    by_cases h3 : q < needL o k L
    · rw [(all_quota h2 h3).1]; exact Stp.refl
    · obtain ⟨e1, e2⟩ := all_done h2 h3
      rw [e1, e2] at hd
      rw [e1]
      obtain ⟨a1, a2⟩ := lay_oth (k := k) (l := L) (o := o)
      exact ⟨a1, a2, by rw [hd]; dsimp only; rw [layL_len]; omega⟩
theorem stp_map {qk : Int} {o : Ob} {k : Nat} {p pm : Int} (hq : qk - used o k ≤ o.fr) : Stp o (mapO qk o k p pm).2 k := by
  by_cases h : (0 ≤ p ∧ p < 4096) ∧ 1 ≤ pm ∧ pm ≤ 7
  · rw [map_all h]; exact stp_all (asc_one h) hq
  · rw [show mapO qk o k p pm = (2, o) from if_pos h]; exact Stp.refl
theorem stp_load {qk : Int} {o : Ob} {k : Nat} {en : Int} {l : List SSec} (hq : qk - used o k ≤ o.fr) : Stp o (loadO qk o k en l).2 k := by
  rw [load_all]
  by_cases h : chk en l = 0
  · rw [if_neg (fun q => q h)]; exact stp_all (chk_asc h) hq
  · rw [if_pos h]; exact Stp.refl
theorem tsOk_prot {o : Ob} {k : Nat} {p pm : Int} {ts : List Int} (h : TsOk o k ts) : TsOk (protO o k p pm).2 k ts := by
  refine tsOk_same h ?_
  unfold protO
  split
  · rfl
  · cases o.vw k p.toNat <;> rfl
theorem tsOk_write {o : Ob} {k ad : Nat} {sz : Int} {v : Nat} {ts : List Int} (h : TsOk o k ts) : TsOk (writeO o k ad sz v).2 k ts := tsOk_same h (by rw [(write_some o k ad sz v).2.1])
theorem tsOk_out {o : Ob} {k ad : Nat} {b : List UInt8} {ts : List Int} (h : TsOk o k ts) : TsOk (outR o k ad b).2 k ts := by
  refine tsOk_same h ?_
  unfold outR
  split
  · rfl
  · split <;> rfl
/-! ### the state -/
theorem obK_of {n : Nat} {qs : List Int} {rt : Nat → Option Nat} {o : Ob} {c : Nat} {σ : St} (L : Lk n qs rt o c σ) (k : Nat) : ObK o k := by
  obtain ⟨A, rfl, hh, G, rfl, hcc⟩ := L
  intro q x hx
  rw [vw_obs] at hx
  obtain ⟨y, hy, rfl⟩ := Option.map_eq_some_iff.1 hx
  exact ⟨G.pm k q y hy, frB_len G.rep.len (G.plt hy)⟩
theorem left_le {n : Nat} {qs : List Int} {rt : Nat → Option Nat} {o : Ob} {c : Nat} {σ : St} {k r : Nat} {qk : Int} (L : Lk n qs rt o c σ) (hqk : qs[k]? = some qk) (hk : rt k = some r) : qk - used o k ≤ o.fr := by
  obtain ⟨A, rfl, hh, G, rfl, hcc⟩ := L
  have hu := used_cnt G hh hk
  have := free_many hqk (qk - used (obs A σ) k).toNat G.inv
  rw [hu] at this
  by_cases h : 0 ≤ qk - used (obs A σ) k
  · have h2 := this (by omega)
    show qk - _ ≤ ((cnt σ.own (-1) : Nat) : Int)
    omega
  · show qk - _ ≤ ((cnt σ.own (-1) : Nat) : Int)
    omega
theorem fr_le {n : Nat} {qs : List Int} {rt : Nat → Option Nat} {o : Ob} {c : Nat} {σ : St} (L : Lk n qs rt o c σ) : o.fr ≤ n := by
  obtain ⟨A, rfl, hh, G, rfl, hcc⟩ := L
  show cnt σ.own (-1) ≤ n
  rw [← G.ol]; exact List.count_le_length
/-- Of each partition how many frames it has left. -/
def lefO (qs : List Int) (rt : Nat → Option Nat) (o : Ob) : List Int := qs.mapIdx fun k q => if (rt k).isSome then q - used o k else q
theorem lefO_len (qs : List Int) (rt : Nat → Option Nat) (o : Ob) : (lefO qs rt o).length = qs.length := by simp [lefO]
theorem lefO_get {qs : List Int} {rt : Nat → Option Nat} {o : Ob} {k : Nat} {q : Int} (h : qs[k]? = some q) : (lefO qs rt o)[k]? = some (if (rt k).isSome then q - used o k else q) := by unfold lefO; rw [List.getElem?_mapIdx, h]; rfl
theorem lefO_step {qs : List Int} {rt : Nat → Option Nat} {o o' : Ob} {k r : Nat} {q : Int} (h : qs[k]? = some q) (hr : rt k = some r) (S : Stp o o' k) : (lefO qs rt o).set k (q - used o k - dO o o' k) = lefO qs rt o' := by
  have hk := (List.getElem?_eq_some_iff.1 h).1
  apply List.ext_getElem?
  intro i
  by_cases hi : i = k
  · subst hi
    rw [List.getElem?_set_self (by rw [lefO_len]; exact hk), lefO_get h, hr]
    unfold dO
    simp only [Option.isSome_some, if_true]
    congr 1; omega
  · rw [List.getElem?_set_ne (fun e => hi e.symm)]
    cases h2 : qs[i]? with
    | none => rw [List.getElem?_eq_none (by rw [lefO_len]; exact List.getElem?_eq_none_iff.1 h2), List.getElem?_eq_none (by rw [lefO_len]; exact List.getElem?_eq_none_iff.1 h2)]
    | some q2 => rw [lefO_get h2, lefO_get h2, S.used hi]
structure ZS where
  m : Nat
  f : Nat
  t : Nat
  bx : Nat
  bw : Nat
  sa : Option Addr
  sc : Nat
  ra : Option Addr
  rc : Nat
  sl : List SpE
  σ : St
  ts : Nat → List Int
abbrev sbF (z : ZS) (e : SpE) : HProp := sb e.s e.k e.r z.m z.f z.t
abbrev rsF (o : Ob) (bw : Nat) (ts : Nat → List Int) (e : SpE) : HProp := RS e.b bw e.k (pvs o e.k) (ts e.k)
abbrev bxF (z : ZS) : HProp := blk z.bx [.pointer (some ⟨z.m, 0, none⟩), .pointer (some ⟨z.f, 0, none⟩), .pointer (some ⟨z.t, 0, none⟩), .slice z.sa z.sl.length z.sc, .pointer (some ⟨z.bw, 0, none⟩), .slice z.ra z.sl.length z.rc] 47
abbrev ZG (n : Nat) (qs : List Int) (o : Ob) (z : ZS) (Fr : List HProp) : List HProp :=
  bxF z :: osl 48 1 z.sa z.sc z.sl.length (ptrs (z.sl.map (·.s))) :: osl 73 1 z.ra z.rc z.sl.length (ptrs (z.sl.map (·.b))) :: RW z.bw o.fr (lefO qs (rtOf z.sl) o) ::
  Star (z.sl.map (sbF z)) :: Star (z.sl.map (rsF o z.bw z.ts)) :: WG z.m z.f z.t n qs z.σ Fr
structure ZOk (n : Nat) (qs : List Int) (o : Ob) (c : Nat) (z : ZS) : Prop where
  ks : z.sl.map (·.k) = posK qs qs.length
  lk : Lk n qs (rtOf z.sl) o c z.σ
  ts : ∀ e ∈ z.sl, TsOk o e.k (z.ts e.k)
/-- .. with one space taken out. -/
abbrev ZO (n : Nat) (qs : List Int) (z : ZS) (e : SpE) (S1 S2 rs rw : HProp) (σ : St) (Fr : List HProp) : List HProp :=
  WG z.m z.f z.t n qs σ (sb e.s e.k e.r z.m z.f z.t :: rs :: rw :: bxF z :: osl 48 1 z.sa z.sc z.sl.length (ptrs (z.sl.map (·.s))) :: osl 73 1 z.ra z.rc z.sl.length (ptrs (z.sl.map (·.b))) :: S1 :: S2 :: Fr)
abbrev s1F (z : ZS) (j : Nat) : HProp := Star ((z.sl.map (sbF z)).eraseIdx j)
abbrev s2F (o : Ob) (z : ZS) (j : Nat) : HProp := Star ((z.sl.map (rsF o z.bw z.ts)).eraseIdx j)
theorem zo_open {n : Nat} {qs : List Int} {o : Ob} {z : ZS} {j : Nat} {e : SpE} {Fr : List HProp} (hj : z.sl[j]? = some e) : Imp (ZG n qs o z Fr) (ZO n qs z e (s1F z j) (s2F o z j) (rsF o z.bw z.ts e) (RW z.bw o.fr (lefO qs (rtOf z.sl) o)) z.σ Fr) := by
  have h1 : (z.sl.map (sbF z))[j]? = some (sbF z e) := by rw [List.getElem?_map, hj]; rfl
  have h2 : (z.sl.map (rsF o z.bw z.ts))[j]? = some (rsF o z.bw z.ts e) := by rw [List.getElem?_map, hj]; rfl
  refine Imp.trans (B := Star (z.sl.map (sbF z)) :: Star (z.sl.map (rsF o z.bw z.ts)) :: bxF z :: osl 48 1 z.sa z.sc z.sl.length (ptrs (z.sl.map (·.s))) :: osl 73 1 z.ra z.rc z.sl.length (ptrs (z.sl.map (·.b))) :: RW z.bw o.fr (lefO qs (rtOf z.sl) o) :: WG z.m z.f z.t n qs z.σ Fr) iM ?_
  refine Imp.trans (star_take h1) ?_
  refine Imp.trans (B := Star (z.sl.map (rsF o z.bw z.ts)) :: sbF z e :: s1F z j :: bxF z :: osl 48 1 z.sa z.sc z.sl.length (ptrs (z.sl.map (·.s))) :: osl 73 1 z.ra z.rc z.sl.length (ptrs (z.sl.map (·.b))) :: RW z.bw o.fr (lefO qs (rtOf z.sl) o) :: WG z.m z.f z.t n qs z.σ Fr) iM ?_
  exact Imp.trans (star_take h2) iM
theorem posK_nodup (qs : List Int) (i : Nat) : (posK qs i).Nodup := List.Nodup.sublist List.filter_sublist List.nodup_range
theorem posK_pos {qs : List Int} {k : Nat} (h : k ∈ posK qs qs.length) : ∃ q, qs[k]? = some q ∧ 0 < q := by
  unfold posK at h
  rw [List.mem_filter, List.mem_range] at h
  refine ⟨qs[k]'h.1, by simp [h.1], ?_⟩
  have := h.2
  rw [decide_eq_true_iff, List.getD_eq_getElem?_getD, List.getElem?_eq_getElem h.1] at this
  exact this
theorem rtOf_mem : ∀ {sl : List SpE} {e : SpE}, (sl.map (·.k)).Nodup → e ∈ sl → rtOf sl e.k = some e.r
  | x :: sl, e, hn, he => by
    rw [List.map_cons, List.nodup_cons] at hn
    unfold rtOf
    rcases List.mem_cons.1 he with rfl | he
    · simp
    · have hne : x.k ≠ e.k := fun q => hn.1 (by rw [q]; exact List.mem_map_of_mem he)
      rw [List.find?_cons, decide_eq_false hne]
      exact rtOf_mem hn.2 he
theorem ZOk.nd {n : Nat} {qs : List Int} {o : Ob} {c : Nat} {z : ZS} (h : ZOk n qs o c z) : (z.sl.map (·.k)).Nodup := by rw [h.ks]; exact posK_nodup _ _
theorem ZOk.rt {n : Nat} {qs : List Int} {o : Ob} {c : Nat} {z : ZS} (h : ZOk n qs o c z) {j : Nat} {e : SpE} (hj : z.sl[j]? = some e) : rtOf z.sl e.k = some e.r := rtOf_mem h.nd (List.mem_of_getElem? hj)
theorem ZOk.qk {n : Nat} {qs : List Int} {o : Ob} {c : Nat} {z : ZS} (h : ZOk n qs o c z) {j : Nat} {e : SpE} (hj : z.sl[j]? = some e) : ∃ q, qs[e.k]? = some q ∧ 0 < q := posK_pos (by rw [← h.ks]; exact List.mem_map_of_mem (List.mem_of_getElem? hj))
theorem ZOk.ne {n : Nat} {qs : List Int} {o : Ob} {c : Nat} {z : ZS} (h : ZOk n qs o c z) {i j : Nat} {e x : SpE} (hj : z.sl[j]? = some e) (hi : z.sl[i]? = some x) (hne : i ≠ j) : x.k ≠ e.k := fun q => by
  have hn := h.nd
  obtain ⟨i1, i2⟩ := List.getElem?_eq_some_iff.1 hi
  obtain ⟨j1, j2⟩ := List.getElem?_eq_some_iff.1 hj
  have hp := List.pairwise_iff_getElem.1 hn
  rcases Nat.lt_or_gt_of_ne hne with hl | hl
  · refine hp i j (by rw [List.length_map]; exact i1) (by rw [List.length_map]; exact j1) hl ?_
    rw [List.getElem_map, List.getElem_map, i2, j2]; exact q
  · refine hp j i (by rw [List.length_map]; exact j1) (by rw [List.length_map]; exact i1) hl ?_
    rw [List.getElem_map, List.getElem_map, i2, j2]; exact q.symm
abbrev ZS.upd (z : ZS) (k : Nat) (ts' : List Int) (σ' : St) : ZS := { z with σ := σ', ts := fun k' => if k' = k then ts' else z.ts k' }
theorem zo_rs {n : Nat} {qs : List Int} {o o' : Ob} {c : Nat} {z : ZS} {j : Nat} {e : SpE} {ts' : List Int} {σ' : St} (h : ZOk n qs o c z) (hj : z.sl[j]? = some e) (S : Stp o o' e.k) : (z.sl.map (rsF o z.bw z.ts)).set j (RS e.b z.bw e.k (pvs o' e.k) ts') = z.sl.map (rsF o' z.bw (z.upd e.k ts' σ').ts) := by
  have hjl := (List.getElem?_eq_some_iff.1 hj).1
  apply List.ext_getElem?
  intro i
  by_cases hi : i = j
  · subst hi
    rw [List.getElem?_set_self (by rw [List.length_map]; exact hjl), List.getElem?_map, hj]
    simp only [Option.map_some]
    refine congrArg some ?_
    show _ = RS e.b z.bw e.k (pvs o' e.k) (if e.k = e.k then ts' else z.ts e.k)
    rw [if_pos rfl]
  · rw [List.getElem?_set_ne (fun e => hi e.symm), List.getElem?_map, List.getElem?_map]
    cases hx : z.sl[i]? with
    | none => simp only [Option.map_none]
    | some x =>
      have hne := h.ne hj hx hi
      simp only [Option.map_some]
      refine congrArg some ?_
      show RS x.b z.bw x.k (pvs o x.k) (z.ts x.k) = RS x.b z.bw x.k (pvs o' x.k) (if x.k = e.k then ts' else z.ts x.k)
      rw [S.pvs hne, if_neg hne]
theorem zo_close {n : Nat} {qs : List Int} {o o' : Ob} {c : Nat} {z : ZS} {j : Nat} {e : SpE} {qk : Int} {ts' : List Int} {σ' : St} {Fr : List HProp} (h : ZOk n qs o c z) (hj : z.sl[j]? = some e) (hqk : qs[e.k]? = some qk) (S : Stp o o' e.k) :
    Imp (ZO n qs z e (s1F z j) (s2F o z j) (RS e.b z.bw e.k (pvs o' e.k) ts') (RWd z.bw e.k o o' o.fr (qk - used o e.k) (lefO qs (rtOf z.sl) o)) σ' Fr) (ZG n qs o' (z.upd e.k ts' σ') Fr) := by
  have h1 : (z.sl.map (sbF z))[j]? = some (sbF z e) := by rw [List.getElem?_map, hj]; rfl
  have h2 : (z.sl.map (rsF o z.bw z.ts))[j]? = some (rsF o z.bw z.ts e) := by rw [List.getElem?_map, hj]; rfl
  have hw : RWd z.bw e.k o o' o.fr (qk - used o e.k) (lefO qs (rtOf z.sl) o) = RW z.bw o'.fr (lefO qs (rtOf z.sl) o') := by
    unfold RWd; rw [← S.fr, lefO_step hqk (h.rt hj) S]
  rw [hw]
  have e1 : (z.sl.map (sbF z)).set j (sbF z e) = z.sl.map (sbF z) := Ms.set_self h1
  have p1 := star_put (B := sbF z e) (G := RS e.b z.bw e.k (pvs o' e.k) ts' :: s2F o z j :: bxF z :: osl 48 1 z.sa z.sc z.sl.length (ptrs (z.sl.map (·.s))) :: osl 73 1 z.ra z.rc z.sl.length (ptrs (z.sl.map (·.b))) :: RW z.bw o'.fr (lefO qs (rtOf z.sl) o') :: WG z.m z.f z.t n qs σ' Fr) h1
  rw [e1] at p1
  have p2 := star_put (B := RS e.b z.bw e.k (pvs o' e.k) ts') (G := Star (z.sl.map (sbF z)) :: bxF z :: osl 48 1 z.sa z.sc z.sl.length (ptrs (z.sl.map (·.s))) :: osl 73 1 z.ra z.rc z.sl.length (ptrs (z.sl.map (·.b))) :: RW z.bw o'.fr (lefO qs (rtOf z.sl) o') :: WG z.m z.f z.t n qs σ' Fr) h2
  rw [zo_rs (σ' := σ') h hj S] at p2
  refine Imp.trans (Imp.trans ?_ p1) (Imp.trans (Imp.trans ?_ p2) ?_)
  · exact iM
  · exact iM
  · exact iM
theorem zo_ok {n : Nat} {qs : List Int} {o o' : Ob} {c c' : Nat} {z : ZS} {j : Nat} {e : SpE} {ts' : List Int} {σ' : St} (h : ZOk n qs o c z) (hj : z.sl[j]? = some e) (S : Stp o o' e.k) (L : Lk n qs (rtOf z.sl) o' c' σ') (hT : TsOk o' e.k ts') : ZOk n qs o' c' (z.upd e.k ts' σ') := by
  refine ⟨h.ks, L, fun x hx => ?_⟩
  obtain ⟨i, hi⟩ := List.mem_iff_getElem?.1 hx
  by_cases hk : x.k = e.k
  · dsimp only; rw [if_pos hk, hk]; exact hT
  · dsimp only; rw [if_neg hk]
    exact tsOk_same (h.ts x hx) (funext fun g => S.ts x.k g hk)
/-- What can be told of a space in the world. -/
structure Fct (n : Nat) (qs : List Int) (o : Ob) (c : Nat) (z : ZS) (e : SpE) (qk : Int) : Prop where
  hq : qs[e.k]? = some qk
  pos : 0 < qk
  rt : rtOf z.sl e.k = some e.r
  ts : TsOk o e.k (z.ts e.k)
  le : qk - used o e.k ≤ o.fr
  fr : o.fr ≤ n
  get : (lefO qs (rtOf z.sl) o)[e.k]? = some (qk - used o e.k)
  obk : ObK o e.k
  used : used o e.k ≤ 4161
theorem used_le (o : Ob) (k : Nat) : used o k ≤ 4161 := by
  have h1 := cN_le (o.ts k) 64
  have h2 := cN_le (fun p => (o.vw k p).isSome) 4096
  unfold used; omega
theorem ZOk.fct {n : Nat} {qs : List Int} {o : Ob} {c : Nat} {z : ZS} (h : ZOk n qs o c z) {j : Nat} {e : SpE} (hj : z.sl[j]? = some e) : ∃ qk, Fct n qs o c z e qk := by
  obtain ⟨qk, h1, h2⟩ := h.qk hj
  have hr := h.rt hj
  refine ⟨qk, h1, h2, hr, h.ts e (List.mem_of_getElem? hj), left_le h.lk h1 hr, fr_le h.lk, ?_, obK_of h.lk e.k, used_le o e.k⟩
  rw [lefO_get h1, hr]; rfl
theorem rwd_zero {w k : Nat} {o o' : Ob} {fr q : Int} {ls : List Int} (hk : ls[k]? = some q) (h : dO o o' k = 0) : RWd w k o o' fr q ls = RW w fr ls := by
  unfold RWd; rw [h, Int.sub_zero, Int.sub_zero, Ms.set_self hk]
section
variable (W0 : World) (Fr : List HProp)
variable {n : Nat} {qs : List Int} {rt : Nat → Option Nat} {o : Ob} {c : Nat} {σ : St} {k r s m f t : Nat}
theorem prmO_spec (L : Lk n qs rt o c σ) (hk : rt k = some r) (p : Int) : Ctr Tryz.prog W0 14 [.pointer (some ⟨s, 0, none⟩), .int .i64 p] (WG m f t n qs σ (sb s k r m f t :: Fr)) (fun _ : Unit => True) (fun _ => .int .i64 (prmO o k p)) (fun _ => WG m f t n qs σ (sb s k r m f t :: Fr)) := by
  obtain ⟨A, rfl, h0, G, rfl, hcc⟩ := L
  have h := perm_spec W0 Fr (s := s) (m := m) (f := f) (t := t) (σ := σ) (qs := qs) G.rep hk p
  have e : (match vp A k p with | some x => (x.2 : Int) | none => 0) = prmO (obs A σ) k p := by
    unfold prmO vI vp
    by_cases hp : 0 ≤ p ∧ p < 4096
    · rw [if_pos hp, if_pos hp, vw_obs]; cases A.pg k p.toNat <;> rfl
    · rw [if_neg hp, if_neg hp]
  rw [← e]
  exact h
end
end Go.Proofs.YtmlfcfbblfcpdaaGreat.Sp
/- SpaceTlb's words: what a space answers to an act, as bytes. -/
namespace Go.Proofs.YtmlfcfbblfcpdaaGreat.Sp
open Go Go.Sl Go.RowKit Go.Proofs Go.Proofs.YtmlfcfbblfcpdaaGreat.T Go.Proofs.YtmlfcfbblfcpdaaGreat.Me Go.Proofs.YtmlfcfbblfcpdaaGreat.Pe Go.Proofs.YtmlfcfbblfcpdaaGreat.Pg
set_option maxRecDepth 100000
def byteI (x : Int) : UInt8 := UInt8.ofNat (IntKind.u8.wrap x).toNat
theorem byteI_val (x : Int) : ((byteI x).toNat : Int) = IntKind.u8.wrap x := by
  unfold byteI
  rw [IntKind.wrap_u8]
  have h1 := Int.emod_nonneg x (show (256 : Int) ≠ 0 by decide)
  have h2 := Int.emod_lt_of_pos x (show (0 : Int) < 256 by decide)
  rw [UInt8.toNat_ofNat']
  omega
theorem inO_len (o : Ob) (k ad : Nat) (n : Int) : (inO o k ad n).1.length ≤ 4096 := by
  unfold inO
  split
  · simp
  · split
    · rw [bufI_len]; omega
    · simp
section
variable (W0 : World) (Fr : List HProp)
variable {n : Nat} {qs : List Int} {rt : Nat → Option Nat} {o : Ob} {c : Nat} {σ : St} {k r s m f t : Nat}
end
end Go.Proofs.YtmlfcfbblfcpdaaGreat.Sp
/- The laws' world: all spaces tell what they must. -/
namespace Go.Proofs.YtmlfcfbblfcpdaaGreat.Sp
open Go Go.Sl Go.RowKit Go.Proofs Go.Proofs.YtmlfcfbblfcpdaaGreat.T Go.Proofs.YtmlfcfbblfcpdaaGreat.Me Go.Proofs.YtmlfcfbblfcpdaaGreat.Pe Go.Proofs.YtmlfcfbblfcpdaaGreat.Pg
open Go.Proofs.YtmlfcfbblfcpdaaGreat.Fz (iv oiv iv_append iv_ones iv_get iv_len cnt free_frame left left_in nerr nerr_ok)
set_option maxRecDepth 100000
theorem zo_back {n : Nat} {qs : List Int} {o : Ob} {z : ZS} {j : Nat} {e : SpE} {Fr : List HProp} (hj : z.sl[j]? = some e) : Imp (ZO n qs z e (s1F z j) (s2F o z j) (rsF o z.bw z.ts e) (RW z.bw o.fr (lefO qs (rtOf z.sl) o)) z.σ Fr) (ZG n qs o z Fr) := by
  have h1 : (z.sl.map (sbF z))[j]? = some (sbF z e) := by rw [List.getElem?_map, hj]; rfl
  have h2 : (z.sl.map (rsF o z.bw z.ts))[j]? = some (rsF o z.bw z.ts e) := by rw [List.getElem?_map, hj]; rfl
  have p1 := star_put (B := sbF z e) (G := rsF o z.bw z.ts e :: s2F o z j :: bxF z :: osl 48 1 z.sa z.sc z.sl.length (ptrs (z.sl.map (·.s))) :: osl 73 1 z.ra z.rc z.sl.length (ptrs (z.sl.map (·.b))) :: RW z.bw o.fr (lefO qs (rtOf z.sl) o) :: WG z.m z.f z.t n qs z.σ Fr) h1
  rw [Ms.set_self h1] at p1
  have p2 := star_put (B := rsF o z.bw z.ts e) (G := Star (z.sl.map (sbF z)) :: bxF z :: osl 48 1 z.sa z.sc z.sl.length (ptrs (z.sl.map (·.s))) :: osl 73 1 z.ra z.rc z.sl.length (ptrs (z.sl.map (·.b))) :: RW z.bw o.fr (lefO qs (rtOf z.sl) o) :: WG z.m z.f z.t n qs z.σ Fr) h2
  rw [Ms.set_self h2] at p2
  refine Imp.trans (Imp.trans ?_ p1) (Imp.trans (Imp.trans ?_ p2) ?_)
  · exact iM
  · exact iM
  · exact iM
theorem PVr.ofU {W0 : World} {G : List HProp} {a : Option Addr} {c : Nat} {l : List PV} : PVr W0 (PLU a c l ++ G) a l := by
  refine ⟨SlR.of_osl (E := 61) (c := c) Ext.here, fun x hx => ?_⟩
  obtain ⟨j, hj⟩ := List.mem_iff_getElem?.1 hx
  have hy : (l.map fun x => oby 5 x.a x.c x.b)[j]? = some (oby 5 x.a x.c x.b) := by rw [List.getElem?_map, hj]; rfl
  refine SlR.imp (G' := [oby 5 x.a x.c x.b, Star ((l.map fun x => oby 5 x.a x.c x.b).eraseIdx j)]) (SlR.of_osl (E := 5) (c := x.c) Ext.here) ?_
  refine Imp.trans (B := [Star (l.map fun x => oby 5 x.a x.c x.b)]) ?_ (star_take hy)
  dsimp only [PLU, List.cons_append, List.nil_append]
  exact iM
theorem PVr.atU {W0 : World} {G : List HProp} {a : Option Addr} {c : Nat} {l : List PV} (h : Imp G [osl 61 3 a c l.length ((l.map PV.cells).flatten), Star (l.map fun x => oby 5 x.a x.c x.b)]) : PVr W0 G a l := PVr.imp (PVr.ofU (c := c) (G := [])) h
abbrev obm (x : PV) : HProp := oby 130 x.a x.c x.b
/-- What stays of a page's view when its bytes are written over. -/
def PV.sk (x : PV) : Nat × Nat × Nat := (x.p, x.pm, x.b.length)
theorem pvs_obk {o : Ob} {k : Nat} (hK : ObK o k) : ∀ x ∈ pvs o k, x.1 < 4096 ∧ o.vw k x.1 = some (x.2.1, x.2.2) ∧ x.2.2.length = 256 := fun x hx => by
  obtain ⟨h1, h2⟩ := pvTo_in hx
  exact ⟨h1, h2, (hK _ _ h2).2⟩
theorem ptrs_get {l : List SpE} {g : SpE → Nat} {j : Nat} {e : SpE} (h : l[j]? = some e) : (ptrs (l.map g))[j]? = some (.pointer (some ⟨g e, 0, none⟩)) := by
  simp only [ptrs, List.map_map, List.getElem?_map, h, Option.map_some]; rfl
theorem ptrs_ne {l : List SpE} {g : SpE → Nat} {j : Nat} {e : SpE} (h : l[j]? = some e) : ptrs (l.map g) ≠ [] := fun q => by have := ptrs_get (g := g) h; rw [q] at this; cases this
section
variable (W0 : World) (Fr : List HProp)
variable {n : Nat} {qs : List Int} {o : Ob} {c : Nat} {z : ZS}
end
end Go.Proofs.YtmlfcfbblfcpdaaGreat.Sp
/- The laws' world: the machine's parts are cloned, and the spaces move. -/
namespace Go.Proofs.YtmlfcfbblfcpdaaGreat.Sp
open Go Go.Sl Go.RowKit Go.Proofs Go.Proofs.YtmlfcfbblfcpdaaGreat.T Go.Proofs.YtmlfcfbblfcpdaaGreat.Me Go.Proofs.YtmlfcfbblfcpdaaGreat.Pe Go.Proofs.YtmlfcfbblfcpdaaGreat.Pg
open Go.Proofs.YtmlfcfbblfcpdaaGreat.Fz (iv oiv iv_append iv_ones iv_get iv_len cnt free_frame left left_in nerr nerr_ok)
set_option maxRecDepth 100000
/-- What stays of a space that moves. -/
def SpE.core (e : SpE) : Nat × Nat × Nat := (e.k, e.r, e.b)
theorem core_map {α : Type} (g : Nat × Nat × Nat → α) {l l' : List SpE} (h : l.map SpE.core = l'.map SpE.core) : l.map (fun e => g e.core) = l'.map (fun e => g e.core) := by
  have := congrArg (List.map g) h
  rwa [List.map_map, List.map_map] at this
theorem core_k {l l' : List SpE} (h : l.map SpE.core = l'.map SpE.core) : l.map (·.k) = l'.map (·.k) := core_map (·.1) h
theorem core_b {l l' : List SpE} (h : l.map SpE.core = l'.map SpE.core) : l.map (·.b) = l'.map (·.b) := core_map (·.2.2) h
theorem core_len {l l' : List SpE} (h : l.map SpE.core = l'.map SpE.core) : l.length = l'.length := by have := congrArg List.length h; rwa [List.length_map, List.length_map] at this
theorem core_rt : ∀ {l l' : List SpE}, l.map SpE.core = l'.map SpE.core → rtOf l = rtOf l'
  | [], [], _ => rfl
  | [], _ :: _, h => by cases h
  | _ :: _, [], h => by cases h
  | x :: l, y :: l', h => by
    rw [List.map_cons, List.map_cons, List.cons.injEq] at h
    have ih := core_rt h.2
    have e1 : x.k = y.k := congrArg (·.1) h.1
    have e2 : x.r = y.r := congrArg (·.2.1) h.1
    funext k
    have ihk := congrFun ih k
    unfold rtOf at ihk ⊢
    rw [List.find?_cons, List.find?_cons, e1]
    cases decide (y.k = k) with
    | true => simp [e2]
    | false => exact ihk
theorem core_rs {o : Ob} {bw : Nat} {ts : Nat → List Int} {l l' : List SpE} (h : l.map SpE.core = l'.map SpE.core) : l.map (rsF o bw ts) = l'.map (rsF o bw ts) := core_map (fun y => RS y.2.2 bw y.1 (pvs o y.1) (ts y.1)) h
theorem core_ts {o : Ob} {ts : Nat → List Int} {l l' : List SpE} (h : l.map SpE.core = l'.map SpE.core) (hT : ∀ e ∈ l', TsOk o e.k (ts e.k)) : ∀ e ∈ l, TsOk o e.k (ts e.k) := fun e he => by
  have : e.core ∈ l'.map SpE.core := by rw [← h]; exact List.mem_map_of_mem he
  obtain ⟨x, hx, hc⟩ := List.mem_map.1 this
  have e1 : x.k = e.k := congrArg (·.1) hc
  rw [← e1]; exact hT x hx
theorem lk_tlb {n : Nat} {qs : List Int} {rt : Nat → Option Nat} {o : Ob} {c : Nat} {σ : St} (L : Lk n qs rt o c σ) : σ.l.length ≤ 64 ∧ 0 < σ.l.length := by
  obtain ⟨A, rfl, hh, G, rfl, hcc⟩ := L
  obtain ⟨_, _, h3, h4⟩ := G.tlb
  omega
theorem drop_cons {α : Type} {l : List α} {i : Nat} {x : α} (h : l[i]? = some x) : l.drop i = x :: l.drop (i + 1) := by
  obtain ⟨q1, q2⟩ := List.getElem?_eq_some_iff.1 h
  rw [List.drop_eq_getElem_cons q1, q2]
abbrev sbN (m f t : Nat) (e : SpE) : HProp := sb e.s e.k e.r m f t
theorem storeAt {P : Program} {W0 : World} {e : Env} {G : List HProp} {ty E c m : Nat} {t : TypeId} {x y : Operand} {b o o' i : Nat} {v : Value} {xs : List Value} {put : HProp → List HProp} {by' zv ag} (ht : TI P t 1 by' zv ag) (ho : o' = o + i) (hx : e.ev x = some (.pointer (some ⟨b, o', none⟩))) (hy : e.ev y = some v)
    (fc : Foc G (osl E 1 (some ⟨b, o, none⟩) c m xs) put) (h1 : one v = true) (hi : i < m) : Eff P W0 (.store t x y) ty e G (fun _ : Unit => True) (fun _ => undef) (fun _ => put (osl E 1 (some ⟨b, o, none⟩) c m (xs.set i v))) := by
  subst ho
  exact Eff.storeElem (P := P) (W0 := W0) (ty := ty) ht hx hy fc h1 (by omega)
/-- In the midst of a move: i spaces have moved. -/
structure MV where
  i : Nat
  ns : List SpE
  o : Ob
  c : Nat
  σ : St
abbrev mvG (n : Nat) (qs : List Int) (o : Ob) (z : ZS) (m' f' t' : Nat) (y : MV) (Fr : List HProp) : List HProp :=
  WG z.m z.f z.t n qs y.σ (WG m' f' t' n qs z.σ (bxF z :: osl 48 1 z.sa z.sc z.sl.length (ptrs ((y.ns ++ z.sl.drop y.i).map (·.s))) :: osl 73 1 z.ra z.rc z.sl.length (ptrs (z.sl.map (·.b))) :: RW z.bw o.fr (lefO qs (rtOf z.sl) o) ::
  Star (y.ns.map (sbN m' f' t')) :: Star ((z.sl.drop y.i).map (sbF z)) :: Star (z.sl.map (rsF o z.bw z.ts)) :: Fr))
theorem mv_get {ns l : List SpE} {i : Nat} {e : SpE} (h : l[i]? = some e) (hl : ns.length = i) : (ns ++ l.drop i)[i]? = some e := by
  rw [List.getElem?_append_right (by omega), hl, Nat.sub_self, List.getElem?_drop, Nat.add_zero]; exact h
theorem mv_set {ns l : List SpE} {i : Nat} {e e' : SpE} (h : l[i]? = some e) (hl : ns.length = i) : (ptrs ((ns ++ l.drop i).map (·.s))).set i (.pointer (some ⟨e'.s, 0, none⟩)) = ptrs (((ns ++ [e']) ++ l.drop (i + 1)).map (·.s)) := by
  rw [drop_cons h]
  simp only [ptrs, List.map_append, List.map_cons, List.map_map, List.append_assoc]
  rw [List.set_append_right _ _ (by simp [hl])]
  simp [hl]
section
variable (W0 : World) (Fr : List HProp)
variable {n : Nat} {qs : List Int} {o : Ob} {c : Nat} {z : ZS}
set_option maxHeartbeats 8000000 in
theorem moves_spec (h : ZOk n qs o c z) (hq : ∀ q ∈ qs, 0 ≤ q ∧ q ≤ 1024) (hql : qs.length ≤ 8) (hzl : z.sl.length ≤ 1024) (hc8 : c ≤ 100000000000) : Ctr Tryz.prog W0 39 [.pointer (some ⟨z.bx, 0, none⟩)] (ZG n qs o z Fr) (fun y : ZS => ZOk n qs o c y ∧ y.bx = z.bx ∧ y.sl.length = z.sl.length) (fun _ => .bool true) (fun y => ZG n qs o y Fr) := by
  have htl := lk_tlb h.lk
  refine Ctr.of_body Tryz.func39 rfl Tryz.ntmps39 rfl ?_
  dsimp only [ZG, bxF]
  refine CG.seq ?_
  refine CG.region ?_
  refine OG.sg rfl rfl ?_
  refine OG.nil ?_
  refine QG.then ?_
  refine CG.seq ?_
  refine CG.draw (.look 0 1 (.look 1 1 (.look 2 1 (.look 3 1 (.look 5 0 (.look 6 0 (.look 7 0 (.look 8 0 (.look 10 0 (.look 11 0 (.look 12 0 (.look 13 0 (.eff1 4 false (.eff1 9 false (.eff1 14 false (.look 15 1 (.look 16 1 (.look 17 1 (.done))))))))))))))))))) [4, 9, 14] [] ([bxF z]) ([]) mixed (by kernel_rfl) iM (Imp.none _) ?_
  refine DG.look rfl rfl (Yield.move rfl) rfl ?_
  refine DG.look rfl rfl (Yield.nilCheck rfl) rfl ?_
  refine DG.look rfl rfl (Yield.fieldAddr fa47_0 rfl) rfl ?_
  refine DG.look rfl rfl (Yield.loadA ti40 rfl) rfl ?_
  refine DG.look rfl rfl (Yield.move rfl) rfl ?_
  refine DG.look rfl rfl (Yield.nilCheck rfl) rfl ?_
  refine DG.look rfl rfl (Yield.fieldAddr fa47_1 rfl) rfl ?_
  refine DG.look rfl rfl (Yield.loadA ti41 rfl) rfl ?_
  refine DG.look rfl rfl (Yield.move rfl) rfl ?_
  refine DG.look rfl rfl (Yield.nilCheck rfl) rfl ?_
  refine DG.look rfl rfl (Yield.fieldAddr fa47_2 rfl) rfl ?_
  refine DG.look rfl rfl (Yield.loadA ti42 rfl) rfl ?_
  refine DG.eff1 ?_
  refine Chg.callo rfl rfl call80 rfl (iM) (Me.clone_spec W0 _ (m := z.m) (n := n) (bs := z.σ.bs)) rfl (fun _ => iM) (fun _ => Imp.refl _) (fun _ => iM) ?_
  rintro m' -
  refine DG.eff1 ?_
  refine Chg.callo rfl rfl call81 rfl (iM) (Fz.clone_spec W0 _ (f := z.f) (own := z.σ.own) (qs := qs) hql) rfl (fun _ => iM) (fun _ => Imp.refl _) (fun _ => iM) ?_
  rintro f' -
  refine DG.eff1 ?_
  refine Chg.callo rfl rfl call82 rfl (iM) (Tl.tclone W0 _ (t := z.t) (l := z.σ.l) (hand := z.σ.hand) (hits := z.σ.hits) (miss := z.σ.miss) htl.1 htl.2) rfl (fun _ => iM) (fun _ => Imp.refl _) (fun _ => iM) ?_
  rintro t' -
  refine DG.look rfl rfl (Yield.assign rfl) rfl ?_
  refine DG.look rfl rfl (Yield.assign rfl) rfl ?_
  refine DG.look rfl rfl (Yield.assign rfl) rfl ?_
  refine DG.done ?_
  refine QG.then ?_
  refine CG.seq ?_
  refine CG.seq ?_
  refine CG.region ?_
  refine OG.mv rfl rfl ?_
  refine OG.yield (by first | exact Yield.ptr_nil Tryz.underlying40 rfl rfl | exact Yield.nil_nil Tryz.underlying40 rfl rfl) rfl ?_
  refine OG.mv rfl rfl ?_
  refine OG.gy rfl rfl rfl ?_
  refine OG.mv rfl rfl ?_
  refine OG.gy rfl rfl rfl ?_
  refine OG.yield (by first | exact Yield.ptr_nil Tryz.underlying41 rfl rfl | exact Yield.nil_nil Tryz.underlying41 rfl rfl) rfl ?_
  refine OG.yield Yield.pickA rfl ?_
  refine OG.mv rfl rfl ?_
  refine OG.gy rfl rfl rfl ?_
  refine OG.mv rfl rfl ?_
  refine OG.gy rfl rfl rfl ?_
  refine OG.yield (by first | exact Yield.ptr_nil Tryz.underlying42 rfl rfl | exact Yield.nil_nil Tryz.underlying42 rfl rfl) rfl ?_
  refine OG.yield Yield.pickA rfl ?_
  refine OG.nil ?_
  refine QG.then ?_
  refine CG.cond_f rfl ?_
  refine CG.skip ?_
  refine QG.then ?_
  refine CG.seq ?_
  refine CG.seq ?_
  refine CG.region ?_
  refine OG.sg rfl rfl ?_
  refine OG.nil ?_
  refine QG.then ?_
  refine CG.block ?_
  refine CG.loop (fun y : MV => y.i ≤ z.sl.length ∧ y.ns.length = y.i ∧ y.ns.map SpE.core = (z.sl.take y.i).map SpE.core ∧ Lk n qs (rtOf z.sl) y.o y.c y.σ ∧ y.c ≤ c + y.i * 4096) (fun y => [(0, .pointer (some ⟨z.bx, 0, none⟩)), (3, .pointer (some ⟨m', 0, none⟩)), (4, .pointer (some ⟨f', 0, none⟩)), (5, .pointer (some ⟨t', 0, none⟩)), (6, .int .i64 y.i)]) (fun y => mvG n qs o z m' f' t' y Fr) (fun y => z.sl.length - y.i) ⟨0, [], o, c, z.σ⟩ ⟨Nat.zero_le _, rfl, rfl, h.lk, by simp only; omega⟩ eS ?_ ?_
  · dsimp only [mvG, bxF, WG, List.nil_append, List.drop_zero, List.map_nil]
    exact Imp.trans star_nil iM
  rintro ⟨i, ns, o1, c1, σ1⟩ ⟨hi, hnl, hcr, L1, hc1⟩
  dsimp only [mvG, bxF, WG] at hi hnl hcr L1 hc1 ⊢
  refine CG.seq ?_
  refine CG.seq ?_
  refine CG.region ?_
  refine OG.mv rfl rfl ?_
  refine OG.mv rfl rfl ?_
  refine OG.yield (Yield.nilCheck rfl) rfl ?_
  refine OG.yield (Yield.fieldAddr fa47_3 rfl) rfl ?_
  refine OG.yield (Yield.loadA ti43 rfl) rfl ?_
  refine OG.yield (Yield.len_slice Tryz.underlying43 rfl rfl) rfl ?_
  refine OG.yield Yield.lssA rfl ?_
  refine OG.nil ?_
  refine QG.then ?_
  refine CG.cond rfl (fun hc => ?_) (fun hc => ?_)
  · try replace hc := of_decide_eq_true hc
    obtain ⟨e, hj⟩ : ∃ e, z.sl[i]? = some e := ⟨_, List.getElem?_eq_getElem (by omega)⟩
    obtain ⟨qk, hf⟩ := h.fct hj
    have hpv := pvs_obk (obK_of L1 e.k)
    have hpl := pvs_len o1 e.k
    have hg := mv_get (ns := ns) hj hnl
    have hset := fun (s' : Nat) => mv_set (ns := ns) (e' := ⟨e.k, s', e.r, e.b⟩) hj hnl
    have hcr2 : ∀ s' : Nat, (ns ++ [(⟨e.k, s', e.r, e.b⟩ : SpE)]).map SpE.core = (z.sl.take (i + 1)).map SpE.core := fun s' => by rw [List.map_append, hcr, take_snoc' hj, List.map_append]; rfl
    have hdr : (z.sl.drop i).map (sbF z) = sbF z e :: (z.sl.drop (i + 1)).map (sbF z) := by rw [drop_cons hj]; rfl
    obtain ⟨m, f, t, bx, bw, sa, sc, ra, rc, sl, σ, ts⟩ := z
    dsimp only at h hzl hj hf hc hi htl hg hset hcr hcr2 hdr L1 ⊢
    have hpn : ptrs ((ns ++ sl.drop i).map (·.s)) ≠ [] := ptrs_ne hg
    refine CG.pure (fun w hw => SlR.shape (SlR.of_osl (W0 := W0) (E := 48) (a := sa) (c := sc) eX) hpn w hw) ?_
    rintro ⟨sb', so, rfl⟩
    rw [hdr]
    refine CG.imp (Imp.trans (B := Star (sb e.s e.k e.r m f t :: (sl.drop (i + 1)).map (sbF ⟨m, f, t, bx, bw, some ⟨sb', so, none⟩, sc, ra, rc, sl, σ, ts⟩)) :: WG m f t n qs σ1 (WG m' f' t' n qs σ (bxF ⟨m, f, t, bx, bw, some ⟨sb', so, none⟩, sc, ra, rc, sl, σ, ts⟩ :: osl 48 1 (some ⟨sb', so, none⟩) sc sl.length (ptrs ((ns ++ sl.drop i).map (·.s))) :: osl 73 1 ra rc sl.length (ptrs (sl.map (·.b))) :: RW bw o.fr (lefO qs (rtOf sl) o) :: Star (ns.map (sbN m' f' t')) :: Star (sl.map (rsF o bw ts)) :: Fr))) iM star_uncons) ?_
    generalize hS : Star ((sl.drop (i + 1)).map (sbF ⟨m, f, t, bx, bw, some ⟨sb', so, none⟩, sc, ra, rc, sl, σ, ts⟩)) = SD
    dsimp only [bxF, WG]
    refine CG.skip ?_
    refine QG.then ?_
    refine CG.seq ?_
    refine CG.block ?_
    refine CG.seq ?_
    refine CG.region ?_
    refine OG.mv rfl rfl ?_
    refine OG.yield (Yield.nilCheck rfl) rfl ?_
    refine OG.yield (Yield.fieldAddr fa47_3 rfl) rfl ?_
    refine OG.yield (Yield.loadA ti43 rfl) rfl ?_
    refine OG.mv rfl rfl ?_
    refine OG.yield (Yield.index_slice Tryz.underlying43 ti48 rfl rfl (by omega) (by omega)) rfl ?_
    refine OG.yield (Yield.load (v := .pointer (some ⟨e.s, 0, none⟩)) ti48 rfl (by rw [show so + (i : Int).toNat * 1 = so + i by omega]; exact (SlR.of_osl (W0 := W0) (E := 48) (a := some ⟨sb', so, none⟩) (c := sc) eX).cel (ptrs_get hg))) rfl ?_
    refine OG.mv rfl rfl ?_
    refine OG.mv rfl rfl ?_
    refine OG.mv rfl rfl ?_
    refine OG.callo call83 rfl (iM) (move_spec W0 _ (s := e.s) (k := e.k) (r := e.r) (m := m) (f := f) (t := t) (m2 := m') (f2 := f') (t2 := t')) rfl ?_
    rintro s' -
    refine OG.sg rfl rfl ?_
    refine OG.nil ?_
    refine QG.then ?_
    refine CG.seq ?_
    refine CG.seq ?_
    refine CG.region ?_
    refine OG.mv rfl rfl ?_
    refine OG.yield (by first | exact Yield.ptr_nil Tryz.underlying48 rfl rfl | exact Yield.nil_nil Tryz.underlying48 rfl rfl) rfl ?_
    refine OG.nil ?_
    refine QG.then ?_
    refine CG.cond_f rfl ?_
    refine CG.skip ?_
    refine QG.then ?_
    refine CG.seq ?_
    refine CG.region ?_
    refine OG.mv rfl rfl ?_
    refine OG.yield (Yield.nilCheck rfl) rfl ?_
    refine OG.yield (Yield.fieldAddr fa47_3 rfl) rfl ?_
    refine OG.yield (Yield.loadA ti43 rfl) rfl ?_
    refine OG.mv rfl rfl ?_
    refine OG.yield (Yield.index_slice Tryz.underlying43 ti48 rfl rfl (by omega) (by omega)) rfl ?_
    refine OG.yield (Yield.load (v := .pointer (some ⟨e.s, 0, none⟩)) ti48 rfl (by rw [show so + (i : Int).toNat * 1 = so + i by omega]; exact (SlR.of_osl (W0 := W0) (E := 48) (a := some ⟨sb', so, none⟩) (c := sc) eX).cel (ptrs_get hg))) rfl ?_
    refine OG.callo call10 rfl (iM) (pages_of W0 _ (s := e.s) (m := m) (f := f) (t := t) (k := e.k) (r := e.r) L1 hf.rt) rfl ?_
    rintro ⟨pa, pc, pl⟩ hpl2
    dsimp only [PVL, WG, List.cons_append, List.nil_append] at hpl2 ⊢
    have hpll : pl.length ≤ 4096 := by have := congrArg List.length hpl2; rw [List.length_map] at this; omega
    refine OG.sg rfl rfl ?_
    refine OG.nil ?_
    refine QG.then ?_
    refine CG.seq ?_
    refine CG.seq ?_
    refine CG.region ?_
    refine OG.sg rfl rfl ?_
    refine OG.nil ?_
    refine QG.then ?_
    refine CG.block ?_
    refine CG.loop (fun y : Nat × Ob × Nat × St => y.1 ≤ pl.length ∧ Lk n qs (rtOf sl) y.2.1 y.2.2.1 y.2.2.2 ∧ y.2.2.1 ≤ c1 + y.1) (fun y => [(0, .pointer (some ⟨bx, 0, none⟩)), (3, .pointer (some ⟨m', 0, none⟩)), (4, .pointer (some ⟨f', 0, none⟩)), (5, .pointer (some ⟨t', 0, none⟩)), (6, .int .i64 i), (7, .pointer (some ⟨s', 0, none⟩)), (8, .slice pa pl.length pc), (9, .int .i64 y.1)]) (fun y => osl 61 3 pa pc pl.length ((pl.map PV.cells).flatten) :: WG m f t n qs y.2.2.2 (sb e.s e.k e.r m f t :: sb s' e.k e.r m' f' t' :: SD :: WG m' f' t' n qs σ (bxF ⟨m, f, t, bx, bw, some ⟨sb', so, none⟩, sc, ra, rc, sl, σ, ts⟩ :: osl 48 1 (some ⟨sb', so, none⟩) sc sl.length (ptrs ((ns ++ sl.drop i).map (·.s))) :: osl 73 1 ra rc sl.length (ptrs (sl.map (·.b))) :: RW bw o.fr (lefO qs (rtOf sl) o) :: Star (ns.map (sbN m' f' t')) :: Star (sl.map (rsF o bw ts)) :: Fr))) (fun y => pl.length - y.1) (0, o1, c1, σ1) ⟨Nat.zero_le _, L1, Nat.le_refl _⟩ eS iM ?_
    rintro ⟨k, o2, c2, σ2⟩ ⟨hk0, L2, hc2⟩
    dsimp only [bxF, WG] at hk0 L2 hc2 ⊢
    refine CG.seq ?_
    refine CG.seq ?_
    refine CG.region ?_
    refine OG.mv rfl rfl ?_
    refine OG.mv rfl rfl ?_
    refine OG.yield (Yield.len_slice Tryz.underlying49 rfl rfl) rfl ?_
    refine OG.yield Yield.lssA rfl ?_
    refine OG.nil ?_
    refine QG.then ?_
    refine CG.cond rfl (fun hc => ?_) (fun hc => ?_)
    · try replace hc := of_decide_eq_true hc
      obtain ⟨x, hx⟩ : ∃ x, pl[k]? = some x := ⟨_, List.getElem?_eq_getElem (by omega)⟩
      have hkl := (List.getElem?_eq_some_iff.1 hx).1
      have hxp : x.p < 4096 := (hpv x.v (by rw [← hpl2]; exact List.mem_map_of_mem (List.mem_of_getElem? hx))).1
      refine CG.pure (fun w hw => SlR.elem_shape (W0 := W0) (f := PV.cells) (xs := pl) (i := k) (SlR.of_osl (E := 61) (a := pa) (c := pc) eX) PV.len (by decide) hkl w hw) ?_
      rintro ⟨ol, oo, rfl⟩
      refine CG.skip ?_
      refine QG.then ?_
      refine CG.seq ?_
      refine CG.block ?_
      refine CG.seq ?_
      refine CG.draw (.look 0 1 (.look 1 1 (.look 2 1 (.look 3 1 (.look 4 1 (.look 5 1 (.look 6 1 (.look 7 1 (.look 8 1 (.look 9 1 (.look 10 1 (.look 11 1 (.eff1 12 false (.done)))))))))))))) [12] [] ([]) ([]) mixed (by kernel_rfl) (Imp.none _) (Imp.none _) ?_
      refine DG.look rfl rfl (Yield.move rfl) rfl ?_
      refine DG.look rfl rfl (Yield.nilCheck rfl) rfl ?_
      refine DG.look rfl rfl (Yield.fieldAddr fa47_3 rfl) rfl ?_
      refine DG.look rfl rfl (Yield.loadA ti43 rfl) rfl ?_
      refine DG.look rfl rfl (Yield.move rfl) rfl ?_
      refine DG.look rfl rfl (Yield.index_slice Tryz.underlying43 ti48 rfl rfl (by omega) (by omega)) rfl ?_
      refine DG.look rfl rfl (Yield.load (v := .pointer (some ⟨e.s, 0, none⟩)) ti48 rfl (by rw [show so + (i : Int).toNat * 1 = so + i by omega]; exact (SlR.of_osl (W0 := W0) (E := 48) (a := some ⟨sb', so, none⟩) (c := sc) eX).cel (ptrs_get hg))) rfl ?_
      refine DG.look rfl rfl (Yield.move rfl) rfl ?_
      refine DG.look rfl rfl (Yield.move rfl) rfl ?_
      refine DG.look rfl rfl (Yield.index_slice Tryz.underlying49 ti61 rfl rfl (by omega) (by omega)) rfl ?_
      refine DG.look rfl rfl (Yield.fieldAddr fa61_0 rfl) rfl ?_
      refine DG.look rfl rfl (Yield.load (v := .int .i64 x.p) ti3 rfl (by rw [show oo + (k : Int).toNat * 3 = oo + k * 3 by omega]; exact (SlR.elem (f := PV.cells) (xs := pl) (i := k) (SlR.of_osl (W0 := W0) (E := 61) (a := some ⟨ol, oo, none⟩) (c := pc) eX) PV.len hx) 0 _ rfl)) rfl ?_
      refine DG.eff1 ?_
      refine Chg.callo rfl rfl call28 rfl (iM) (protect_spec W0 _ (s := e.s) (m := m) (f := f) (t := t) (k := e.k) (r := e.r) L2 hf.rt (x.p : Int) 7) rfl (fun _ => iM) (fun _ => Imp.refl _) (fun _ => iM) ?_
      rintro σ3 L3
      refine DG.done ?_
      refine QG.then ?_
      refine CG.seq ?_
      refine CG.draw (.look 0 1 (.look 1 1 (.look 2 1 (.look 3 1 (.look 4 1 (.look 5 1 (.look 6 1 (.look 7 1 (.look 8 1 (.look 9 1 (.look 10 1 (.look 11 1 (.look 12 1 (.look 13 1 (.eff1 14 false (.done)))))))))))))))) [14] [] ([]) ([]) mixed (by kernel_rfl) (Imp.none _) (Imp.none _) ?_
      refine DG.look rfl rfl (Yield.move rfl) rfl ?_
      refine DG.look rfl rfl (Yield.nilCheck rfl) rfl ?_
      refine DG.look rfl rfl (Yield.fieldAddr fa47_3 rfl) rfl ?_
      refine DG.look rfl rfl (Yield.loadA ti43 rfl) rfl ?_
      refine DG.look rfl rfl (Yield.move rfl) rfl ?_
      refine DG.look rfl rfl (Yield.index_slice Tryz.underlying43 ti48 rfl rfl (by omega) (by omega)) rfl ?_
      refine DG.look rfl rfl (Yield.load (v := .pointer (some ⟨e.s, 0, none⟩)) ti48 rfl (by rw [show so + (i : Int).toNat * 1 = so + i by omega]; exact (SlR.of_osl (W0 := W0) (E := 48) (a := some ⟨sb', so, none⟩) (c := sc) eX).cel (ptrs_get hg))) rfl ?_
      refine DG.look rfl rfl (Yield.move rfl) rfl ?_
      refine DG.look rfl rfl (Yield.move rfl) rfl ?_
      refine DG.look rfl rfl (Yield.index_slice Tryz.underlying49 ti61 rfl rfl (by omega) (by omega)) rfl ?_
      refine DG.look rfl rfl (Yield.fieldAddr fa61_0 rfl) rfl ?_
      refine DG.look rfl rfl (Yield.load (v := .int .i64 x.p) ti3 rfl (by rw [show oo + (k : Int).toNat * 3 = oo + k * 3 by omega]; exact (SlR.elem (f := PV.cells) (xs := pl) (i := k) (SlR.of_osl (W0 := W0) (E := 61) (a := some ⟨ol, oo, none⟩) (c := pc) eX) PV.len hx) 0 _ rfl)) rfl ?_
      refine DG.look rfl rfl (Yield.mul rfl rfl (w64 (by omega) (by omega))) rfl ?_
      refine DG.look rfl rfl (Yield.conv (c := ((x.p * 256 : Nat) : Int)) Tryz.underlying30 rfl rfl (by rw [show (x.p : Int) * 256 = ((x.p * 256 : Nat) : Int) by omega]; exact wu32 (by omega) (by omega))) rfl ?_
      refine DG.eff1 ?_
      refine Chg.callo rfl rfl call33 rfl (iM) (write_spec W0 _ (s := e.s) (m := m) (f := f) (t := t) (k := e.k) (r := e.r) L3 hf.rt (by omega) (ad := x.p * 256) (v := 99) (by omega) (by decide) 4) rfl (fun _ => iM) (fun _ => Imp.refl _) (fun _ => iM) ?_
      rintro σ4 L4
      refine DG.done ?_
      refine QG.then ?_
      refine CG.draw (.look 0 1 (.look 1 1 (.look 2 1 (.look 3 1 (.look 4 1 (.look 5 1 (.look 6 1 (.look 7 1 (.look 8 1 (.look 9 1 (.look 10 1 (.look 11 1 (.eff1 12 false (.done)))))))))))))) [12] [] ([]) ([]) mixed (by kernel_rfl) (Imp.none _) (Imp.none _) ?_
      refine DG.look rfl rfl (Yield.move rfl) rfl ?_
      refine DG.look rfl rfl (Yield.nilCheck rfl) rfl ?_
      refine DG.look rfl rfl (Yield.fieldAddr fa47_3 rfl) rfl ?_
      refine DG.look rfl rfl (Yield.loadA ti43 rfl) rfl ?_
      refine DG.look rfl rfl (Yield.move rfl) rfl ?_
      refine DG.look rfl rfl (Yield.index_slice Tryz.underlying43 ti48 rfl rfl (by omega) (by omega)) rfl ?_
      refine DG.look rfl rfl (Yield.load (v := .pointer (some ⟨e.s, 0, none⟩)) ti48 rfl (by rw [show so + (i : Int).toNat * 1 = so + i by omega]; exact (SlR.of_osl (W0 := W0) (E := 48) (a := some ⟨sb', so, none⟩) (c := sc) eX).cel (ptrs_get hg))) rfl ?_
      refine DG.look rfl rfl (Yield.move rfl) rfl ?_
      refine DG.look rfl rfl (Yield.move rfl) rfl ?_
      refine DG.look rfl rfl (Yield.index_slice Tryz.underlying49 ti61 rfl rfl (by omega) (by omega)) rfl ?_
      refine DG.look rfl rfl (Yield.fieldAddr fa61_0 rfl) rfl ?_
      refine DG.look rfl rfl (Yield.load (v := .int .i64 x.p) ti3 rfl (by rw [show oo + (k : Int).toNat * 3 = oo + k * 3 by omega]; exact (SlR.elem (f := PV.cells) (xs := pl) (i := k) (SlR.of_osl (W0 := W0) (E := 61) (a := some ⟨ol, oo, none⟩) (c := pc) eX) PV.len hx) 0 _ rfl)) rfl ?_
      refine DG.eff1 ?_
      refine Chg.callo rfl rfl call26 rfl (iM) (unmap_spec W0 _ (s := e.s) (m := m) (f := f) (t := t) (k := e.k) (r := e.r) L4 hf.hq hf.rt (x.p : Int)) rfl (fun _ => iM) (fun _ => Imp.refl _) (fun _ => iM) ?_
      rintro σ5 L5
      refine DG.done ?_
      refine QG.block_normal ?_
      refine QG.then ?_
      refine CG.region ?_
      refine OG.mv rfl rfl ?_
      refine OG.yield (Yield.add rfl rfl (w64 (by omega) (by omega))) rfl ?_
      refine OG.sg rfl rfl ?_
      refine OG.nil ?_
      exact QG.next (k + 1, _, c2 + 1, σ5) ⟨by simp only; omega, L5, by simp only; omega⟩ (by simp only; omega) eS iM
    · try replace hc := of_decide_eq_false hc
      refine CG.exit ?_
      refine QG.pass_exit ?_
      refine QG.pass_exit ?_
      refine QG.block_exit ?_
      refine QG.then ?_
      refine CG.region ?_
      refine OG.mv rfl rfl ?_
      refine OG.yield (Yield.nilCheck rfl) rfl ?_
      refine OG.yield (Yield.fieldAddr fa47_3 rfl) rfl ?_
      refine OG.yield (Yield.loadA ti43 rfl) rfl ?_
      refine OG.mv rfl rfl ?_
      refine OG.mv rfl rfl ?_
      refine OG.yield (Yield.index_slice Tryz.underlying43 ti48 rfl rfl (by omega) (by omega)) rfl ?_
      refine OG.eff (storeAt (i := i) ti48 (show so + (i : Int).toNat * 1 = so + i by omega) rfl rfl fC rfl (by omega)) rfl ?_
      rintro ⟨⟩ -
      rw [hset s']
      refine OG.nil ?_
      refine QG.block_normal ?_
      refine QG.then ?_
      refine CG.region ?_
      refine OG.mv rfl rfl ?_
      refine OG.yield (Yield.add rfl rfl (w64 (by omega) (by omega))) rfl ?_
      refine OG.sg rfl rfl ?_
      refine OG.nil ?_
      refine QG.next ⟨i + 1, ns ++ [⟨e.k, s', e.r, e.b⟩], o2, c2, σ2⟩ ⟨by simp only; omega, by simp only [List.length_append, List.length_cons, List.length_nil]; omega, hcr2 s', L2, by simp only; omega⟩ (by simp only; omega) eS ?_
      dsimp only [mvG, bxF, WG]
      rw [hS, List.map_append (f := sbN m' f' t')]
      exact Imp.trans (B := sb s' e.k e.r m' f' t' :: Star (ns.map (sbN m' f' t')) :: WG m f t n qs σ2 (SD :: WG m' f' t' n qs σ (bxF ⟨m, f, t, bx, bw, some ⟨sb', so, none⟩, sc, ra, rc, sl, σ, ts⟩ :: osl 48 1 (some ⟨sb', so, none⟩) sc sl.length (ptrs (((ns ++ [(⟨e.k, s', e.r, e.b⟩ : SpE)]) ++ sl.drop (i + 1)).map (·.s))) :: osl 73 1 ra rc sl.length (ptrs (sl.map (·.b))) :: RW bw o.fr (lefO qs (rtOf sl) o) :: Star (sl.map (rsF o bw ts)) :: Fr))) iM (Imp.trans star_add iM)
  · try replace hc := of_decide_eq_false hc
    refine CG.exit ?_
    refine QG.pass_exit ?_
    refine QG.pass_exit ?_
    refine QG.block_exit ?_
    refine QG.then ?_
    obtain rfl : i = z.sl.length := by omega
    rw [List.take_length] at hcr
    rw [List.drop_length, List.append_nil]
    refine CG.seq ?_
    refine CG.region ?_
    refine OG.mv rfl rfl ?_
    refine OG.mv rfl rfl ?_
    refine OG.mv rfl rfl ?_
    refine OG.mv rfl rfl ?_
    refine OG.mv rfl rfl ?_
    refine OG.mv rfl rfl ?_
    refine OG.yield (Yield.nilCheck rfl) rfl ?_
    refine OG.yield (Yield.fieldAddr fa47_0 rfl) rfl ?_
    refine OG.eff (Eff.store1 ti40 rfl rfl fC rfl (by first | (simp; done) | decide)) rfl ?_
    rintro ⟨⟩ -
    refine OG.yield (Yield.nilCheck rfl) rfl ?_
    refine OG.yield (Yield.fieldAddr fa47_1 rfl) rfl ?_
    refine OG.eff (Eff.store1 ti41 rfl rfl fC rfl (by first | (simp; done) | decide)) rfl ?_
    rintro ⟨⟩ -
    refine OG.yield (Yield.nilCheck rfl) rfl ?_
    refine OG.yield (Yield.fieldAddr fa47_2 rfl) rfl ?_
    refine OG.eff (Eff.store1 ti42 rfl rfl fC rfl (by first | (simp; done) | decide)) rfl ?_
    rintro ⟨⟩ -
    refine OG.nil ?_
    refine QG.then ?_
    refine CG.seq ?_
    refine CG.region ?_
    refine OG.sg rfl rfl ?_
    refine OG.nil ?_
    refine QG.then ?_
    refine CG.ret ?_
    have hcl := core_len hcr
    have hrs := core_rs (o := o) (bw := z.bw) (ts := z.ts) hcr
    refine QG.ret1 rfl rfl ⟨m', f', t', z.bx, z.bw, z.sa, z.sc, z.ra, z.rc, ns, z.σ, z.ts⟩ ⟨⟨by dsimp only; rw [core_k hcr]; exact h.ks, by dsimp only; rw [core_rt hcr]; exact h.lk, core_ts hcr h.ts⟩, rfl, hcl⟩ rfl ?_
    dsimp only [ZG, bxF, WG]
    rw [core_rt hcr, core_b hcr, hcl, hrs]
    exact iM
end
end Go.Proofs.YtmlfcfbblfcpdaaGreat.Sp
