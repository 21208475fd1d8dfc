/- HcallMoves: a call that moves bytes brings them to their place, and no other byte changes: the law returns true at every input and changes nothing that was there. No conditions. -/
import Derived.Test.YtphljkplokjonaaGreatMo5
set_option linter.unusedSimpArgs false
set_option linter.unusedVariables false
/- HcallMoves: the walk. -/
namespace Go.Proofs.YtphljkplokjonaaGreat.hcallMoves
open Go Go.Sl Go.RowKit Go.Proofs Go.Proofs.YtphljkplokjonaaGreat.T Go.Proofs.YtphljkplokjonaaGreat.Sp Go.Proofs.YtphljkplokjonaaGreat.Hc
open Go.Proofs.YtphljkplokjonaaGreat.Me (overB)
set_option maxRecDepth 100000
theorem u8_nat (i : Nat) : IntKind.u8.wrap (i : Int) = ((UInt8.ofNat i).toNat : Int) := by rw [IntKind.wrap_u8, UInt8.toNat_ofNat']; omega
theorem u8_sub {i : Nat} (h : i ≤ 200) : IntKind.u8.wrap (200 - (i : Int)) = ((UInt8.ofNat (200 - i)).toNat : Int) := by rw [IntKind.wrap_u8, UInt8.toNat_ofNat']; omega
def dk1 (ad : Nat) (sec : List UInt8) : Vd.Ds := ⟨0, 4, 6, 2, 1, [⟨1, true, 2, ad, sec, 2, 0⟩], []⟩
theorem iss1 {ad : Nat} {sec : List UInt8} : Vd.issR (dk1 ad sec) = [⟨0, 1, true, 6, sec⟩] := rfl
set_option maxHeartbeats 16000000 in
theorem walk (W : World) {ai ni : Int} {a0 : Option Addr} {c0 : Nat} {text : List UInt8} (htx : SlAt W 1 a0 text.length (bytesV text)) :
    Ctr Tryz.prog W 9 [.slice a0 text.length c0, .int .i64 ai, .int .i64 ni] [old W] (fun _ : Unit => True) (fun _ => .bool true) (fun _ => [old W]) := by
  have hmn := md_range (k := 65) (by decide) ni
  have hma := md_range (k := 448) (by decide) ai
  have hwn := wrap_u64_range ni
  have hwa := wrap_u64_range ai
  obtain ⟨n, hn⟩ : ∃ n : Nat, (n : Int) = md 65 ni := ⟨(md 65 ni).toNat, by omega⟩
  obtain ⟨at0, hat0⟩ : ∃ a : Nat, (a : Int) = md 448 ai := ⟨(md 448 ai).toNat, by omega⟩
  have hn64 : n ≤ 64 := by omega
  have hat : at0 < 448 := by omega
  obtain ⟨own, hown⟩ : ∃ own, own = ownB text := ⟨_, rfl⟩
  have hol : own.length = 512 := by rw [hown]; exact ownB_len
  obtain ⟨o3, e3, w3⟩ := Tw.outR (c := own) (ad := 256) tw0 (by decide) (by omega)
  have w3' : Tw o3 own := by
    have : overB (zs ++ zs) (256 - 256) own = own := by unfold Me.overB; simp [hol]
    rw [this] at w3; exact w3
  clear w3
  obtain ⟨k, hk⟩ : ∃ k : Nat, k = min n 16 := ⟨_, rfl⟩
  have e256 : 256 + at0 - 256 = at0 := by omega
  have hpc := w3'.inO (ad := 256 + at0) (n := n) (by omega) (by omega)
  have hsc := w3'.inO (ad := 256 + at0) (n := 64) (by omega) (by omega)
  have hpk := w3'.inO (ad := 256 + at0) (n := k) (by omega) (by omega)
  rw [e256] at hpc hsc hpk
  have lpc : ((own.drop at0).take n).length = n := by simp; omega
  have lsc : ((own.drop at0).take 64).length = 64 := by simp; omega
  have lpk : ((own.drop at0).take k).length = k := by simp; omega
  have hkt : ((own.drop at0).take n).take k = (own.drop at0).take k := by rw [List.take_take, Nat.min_eq_left (by omega)]
  obtain ⟨nw, hnw⟩ : ∃ nw, nw = newB n := ⟨_, rfl⟩
  have hnl : nw.length = n := by rw [hnw]; exact newB_len
  obtain ⟨o4, e4, w4⟩ := Tw.outR (c := nw) (ad := 256 + at0) w3' (by omega) (by omega)
  rw [e256] at w4
  have hfin := w4.inO (ad := 256) (n := 512) (by decide) (by decide)
  have h4l := w4.len
  have e44 : inO o4 0 256 512 = (overB own at0 nw, 0) := by
    rw [show (256 - 256 : Nat) = 0 from rfl, List.drop_zero, List.take_of_length_le (by omega)] at hfin; exact hfin
  refine Ctr.of_body Tryz.func9 rfl Tryz.ntmps9 rfl ?_
  refine CG.seq ?_
  refine CG.region ?_
  refine OG.sg rfl rfl ?_
  refine OG.nil ?_
  refine QG.then ?_
  refine CG.seq ?_
  refine CG.seq ?_
  refine CG.region ?_
  refine OG.callo call12 rfl (Imp.refl _) (works_spec W _) rfl ?_
  rintro ⟨⟩ -
  refine OG.yield (Yield.not rfl) rfl ?_
  refine OG.nil ?_
  refine QG.then ?_
  refine CG.cond_f rfl ?_
  refine CG.skip ?_
  refine QG.then ?_
  refine CG.seq ?_
  refine CG.region ?_
  refine OG.callo call13 rfl (Imp.refl _) (program_spec W _ (q := 20) (by decide) (by decide)) rfl ?_
  rintro ⟨x, σ⟩ L0
  have I0 := HI.new (x := x) (by decide) (by decide) L0
  clear L0
  dsimp only at I0 ⊢
  refine OG.sg rfl rfl ?_
  refine OG.nil ?_
  refine QG.then ?_
  refine CG.seq ?_
  refine CG.seq ?_
  refine CG.region ?_
  refine OG.mv rfl rfl ?_
  refine OG.yield (by first | exact Yield.ptr_nil Tryz.underlying25 rfl rfl | exact Yield.nil_nil Tryz.underlying25 rfl rfl) rfl ?_
  refine OG.nil ?_
  refine QG.then ?_
  refine CG.cond_f rfl ?_
  refine CG.skip ?_
  refine QG.then ?_
  refine CG.seq ?_
  refine CG.region ?_
  refine OG.mv rfl rfl ?_
  refine OG.yield (Yield.conv Tryz.underlying24 rfl rfl rfl) rfl ?_
  refine OG.yield (Yield.rem (c := md 65 ni) rfl rfl (by decide) (tmod_pos (by omega) (by omega))) rfl ?_
  refine OG.yield (Yield.conv (c := (n : Int)) Tryz.underlying3 rfl rfl (by rw [hn]; exact w64 (by omega) (by omega))) rfl ?_
  refine OG.sg rfl rfl ?_
  refine OG.nil ?_
  refine QG.then ?_
  refine CG.seq ?_
  refine CG.region ?_
  refine OG.mv rfl rfl ?_
  refine OG.yield (Yield.conv Tryz.underlying24 rfl rfl rfl) rfl ?_
  refine OG.yield (Yield.rem (c := md 448 ai) rfl rfl (by decide) (tmod_pos (by omega) (by omega))) rfl ?_
  refine OG.yield (Yield.conv (c := (at0 : Int)) Tryz.underlying3 rfl rfl (by rw [hat0]; exact w64 (by omega) (by omega))) rfl ?_
  refine OG.yield (Yield.add (c := ((256 + at0 : Nat) : Int)) rfl rfl (by rw [w64 (by omega) (by omega)]; omega)) rfl ?_
  refine OG.sg rfl rfl ?_
  refine OG.nil ?_
  refine QG.then ?_
  refine CG.seq ?_
  refine CG.region ?_
  refine OG.effd (Eff.makeB 512 Tryz.underlying32 ti5 rfl rfl (by decide)) rfl ?_
  rintro b49 -
  rw [show (List.replicate 512 (0 : UInt8)).length = own.length by rw [hol]; exact List.length_replicate, show (List.replicate 512 (0 : UInt8)) = tkd own (List.replicate 512 0) 0 from rfl]
  refine OG.sg rfl rfl ?_
  refine OG.nil ?_
  refine QG.then ?_
  refine CG.seq ?_
  refine CG.seq ?_
  refine CG.region ?_
  refine OG.sg rfl rfl ?_
  refine OG.nil ?_
  refine QG.then ?_
  refine CG.block ?_
  refine CG.loop (fun i : Nat => i ≤ 512) (fun i => [(0, .slice a0 text.length c0), (1, .int .i64 ((256 + at0 : Nat) : Int)), (2, .int .i64 n), (7, .pointer (some ⟨x.e, 0, none⟩)), (8, .slice (some ⟨b49, 0, none⟩) own.length 512), (9, .int .i64 i)]) (fun i => oby 5 (some ⟨b49, 0, none⟩) 512 (tkd own (List.replicate 512 0) i) :: hG x HS0 [20, 8] σ [old W]) (fun i => 512 - i) 0 (Nat.zero_le _) eS iM ?_
  rintro i hi
  refine CG.seq ?_
  refine CG.seq ?_
  refine CG.region ?_
  refine OG.mv rfl rfl ?_
  refine OG.yield Yield.lssA rfl ?_
  refine OG.nil ?_
  refine QG.then ?_
  refine CG.cond rfl (fun hc => ?_) (fun hc => ?_)
  · try replace hc := of_decide_eq_true hc
    have hi' : i < 512 := by omega
    have htl : (tkd own (List.replicate 512 0) i).length = 512 := by rw [tkd_len (by rw [hol]; simp)]; simp
    have hog : own[i]? = some ((text[i]?).getD (UInt8.ofNat i)) := by rw [hown]; exact ownB_get hi'
    refine CG.skip ?_
    refine QG.then ?_
    refine CG.seq ?_
    refine CG.block ?_
    refine CG.seq ?_
    refine CG.region ?_
    refine OG.mv rfl rfl ?_
    refine OG.mv rfl rfl ?_
    refine OG.mv rfl rfl ?_
    refine OG.yield (Yield.conv (c := ((UInt8.ofNat i).toNat : Int)) Tryz.underlying5 rfl rfl (u8_nat i)) rfl ?_
    refine OG.yield (Yield.index_slice Tryz.underlying32 ti5 rfl rfl (by omega) (by omega)) rfl ?_
    refine OG.eff (Eff.storeByteS (i := i) (z := UInt8.ofNat i) (bs := tkd own (List.replicate 512 0) i) ti5 (show 0 + (i : Int).toNat * 1 = 0 + i by omega) rfl rfl fC (by omega)) rfl ?_
    rintro ⟨⟩ -
    refine OG.nil ?_
    refine QG.then ?_
    refine CG.seq ?_
    refine CG.region ?_
    refine OG.mv rfl rfl ?_
    refine OG.mv rfl rfl ?_
    refine OG.yield (Yield.len_slice Tryz.underlying32 rfl rfl) rfl ?_
    refine OG.yield Yield.lssA rfl ?_
    refine OG.nil ?_
    refine QG.then ?_
    refine CG.cond rfl (fun hc => ?_) (fun hc => ?_)
    · try replace hc := of_decide_eq_true hc
      have ht : i < text.length := by omega
      obtain ⟨v, hv⟩ : ∃ v, text[i]? = some v := ⟨text[i], by simp [ht]⟩
      rw [hv, Option.getD_some] at hog
      refine CG.pure (fun w hw => SlR.shape (htx.old (G := oby 5 (some ⟨b49, 0, none⟩) 512 ((tkd own (List.replicate 512 0) i).set i (UInt8.ofNat i)) :: hG x HS0 [20, 8] σ [old W]) eX) (fun q => by have := congrArg List.length q; simp only [bytesV_length, List.length_nil] at this; omega) w hw) ?_
      rintro ⟨bt, ot, rfl⟩
      refine CG.region ?_
      refine OG.mv rfl rfl ?_
      refine OG.mv rfl rfl ?_
      refine OG.mv rfl rfl ?_
      refine OG.mv rfl rfl ?_
      refine OG.yield (Yield.index_slice Tryz.underlying32 ti5 rfl rfl (by omega) (by omega)) rfl ?_
      refine OG.yield (Yield.load ti5 rfl (v := byteV v) (by rw [show ot + (i : Int).toNat * 1 = ot + i by omega]; exact (htx.old eX).cel (bytesV_get hv))) rfl ?_
      refine OG.yield (Yield.index_slice Tryz.underlying32 ti5 rfl rfl (by omega) (by omega)) rfl ?_
      refine OG.eff (Eff.storeByteS (i := i) (z := v) (bs := (tkd own (List.replicate 512 0) i).set i (UInt8.ofNat i)) ti5 (show 0 + (i : Int).toNat * 1 = 0 + i by omega) rfl rfl fC (by rw [List.length_set]; omega)) rfl ?_
      rintro ⟨⟩ -
      rw [List.set_set]
      refine OG.nil ?_
      refine QG.block_normal ?_
      refine QG.then ?_
      refine CG.region ?_
      refine OG.mv rfl rfl ?_
      refine OG.yield (Yield.add rfl rfl (w64 (by omega) (by omega))) rfl ?_
      refine OG.sg rfl rfl ?_
      refine OG.nil ?_
      rw [tkd_set (by rw [hol]; simp) hog]
      exact QG.next (i + 1) (by omega) (by omega) eS iM
    · try replace hc := of_decide_eq_false hc
      have ht : text.length ≤ i := by omega
      rw [List.getElem?_eq_none ht, Option.getD_none] at hog
      refine CG.skip ?_
      refine QG.block_normal ?_
      refine QG.then ?_
      refine CG.region ?_
      refine OG.mv rfl rfl ?_
      refine OG.yield (Yield.add rfl rfl (w64 (by omega) (by omega))) rfl ?_
      refine OG.sg rfl rfl ?_
      refine OG.nil ?_
      rw [tkd_set (by rw [hol]; simp) hog]
      exact QG.next (i + 1) (by omega) (by omega) eS iM
  · try replace hc := of_decide_eq_false hc
    refine CG.exit ?_
    refine QG.pass_exit ?_
    refine QG.pass_exit ?_
    refine QG.block_exit ?_
    refine QG.then ?_
    refine CG.seq ?_
    refine CG.seq ?_
    obtain rfl : i = 512 := by omega
    rw [tkd_all (by rw [hol]; simp) (by simp)]
    refine CG.region ?_
    refine OG.sg rfl rfl ?_
    refine OG.nil ?_
    refine QG.then ?_
    refine CG.block ?_
    refine CG.loop (fun y : Nat × St => (y.1 = 1 ∨ y.1 = 2 ∨ y.1 = 3) ∧ HI 20 x { HS0 with o := obN y.1 } y.2 (8192 * y.1)) (fun y => [(1, .int .i64 ((256 + at0 : Nat) : Int)), (2, .int .i64 n), (7, .pointer (some ⟨x.e, 0, none⟩)), (8, .slice (some ⟨b49, 0, none⟩) own.length 512), (10, .int .u32 y.1)]) (fun y => oby 5 (some ⟨b49, 0, none⟩) 512 own :: hG x { HS0 with o := obN y.1 } [20, 8] y.2 [old W]) (fun y => 3 - y.1) (1, σ) ⟨.inl rfl, I0.L.mono (by omega), I0.h1, I0.h2, I0.q, I0.p, I0.t0, I0.t1, I0.m0, I0.m1⟩ eS iM ?_
    clear I0
    rintro ⟨p, σp⟩ ⟨hp, I1⟩
    dsimp only at hp I1 ⊢
    refine CG.seq ?_
    refine CG.seq ?_
    refine CG.region ?_
    refine OG.mv rfl rfl ?_
    refine OG.yield (Yield.leq rfl rfl) rfl ?_
    refine OG.nil ?_
    refine QG.then ?_
    refine CG.cond rfl (fun hc => ?_) (fun hc => ?_)
    · try replace hc := of_decide_eq_true hc
      have hp2 : p = 1 ∨ p = 2 := by omega
      refine CG.skip ?_
      refine QG.then ?_
      refine CG.seq ?_
      refine CG.block ?_
      refine CG.seq ?_
      refine CG.region ?_
      refine OG.mv rfl rfl ?_
      refine OG.mv rfl rfl ?_
      refine OG.callo call28 rfl (Imp.refl _) (call_spec W _ 2 p 3 0) rfl ?_
      rintro ⟨⟩ -
      refine OG.callo call16 rfl (iM) (Do_m W (oby 5 (some ⟨b49, 0, none⟩) 512 own :: [old W]) (g := cR 2 p 3 0) (n := 2) (a := p) (b := 3) (c := 0) I1 (by omega) (by omega) (by decide) (by decide) (by decide) rfl rfl rfl rfl (f_mapN hp2)) rfl ?_
      rintro σq I2
      dsimp only at I2 ⊢
      refine OG.mv rfl rfl ?_
      refine OG.yield (Yield.extract rfl rfl) rfl ?_
      refine OG.yield (Yield.extract rfl rfl) rfl ?_
      refine OG.yield (Yield.extract rfl rfl) rfl ?_
      refine OG.effd (Eff.alloc ti31) rfl ?_
      rintro b11 -
      refine OG.eff (Eff.storeAll ti31 rfl rfl fC (Rg.len _) (Rg.ones _) rfl) rfl ?_
      rintro ⟨⟩ -
      refine OG.sg rfl rfl ?_
      refine OG.sg rfl rfl ?_
      refine OG.nil ?_
      refine QG.then ?_
      refine CG.seq ?_
      refine CG.region ?_
      refine OG.yield (Yield.fieldAddr fa31_0 rfl) rfl ?_
      refine OG.yield (Yield.index_array Tryz.underlying28 ti27 rfl rfl (by omega) (by omega)) rfl ?_
      refine OG.yield (Yield.load (v := .int .u32 0) ti27 rfl (Cel.of_blk (b := b11) eX rfl)) rfl ?_
      refine OG.yield (Yield.as (Yield.neq rfl rfl) (v' := .bool false) (bF (not_not_intro rfl))) rfl ?_
      refine OG.nil ?_
      refine QG.then ?_
      refine CG.cond_f rfl ?_
      refine CG.skip ?_
      refine QG.block_normal ?_
      refine QG.then ?_
      refine CG.region ?_
      refine OG.mv rfl rfl ?_
      refine OG.yield (Yield.add (c := ((p + 1 : Nat) : Int)) rfl rfl (by rw [wu32 (by omega) (by omega)]; omega)) rfl ?_
      refine OG.sg rfl rfl ?_
      refine OG.nil ?_
      exact QG.next (p + 1, σq) ⟨by simp only; omega, by rw [show 8192 * (p + 1) = 8192 * p + 8192 by omega]; exact I2⟩ (by simp only; omega) eS iM
    · try replace hc := of_decide_eq_false hc
      refine CG.exit ?_
      refine QG.pass_exit ?_
      refine QG.pass_exit ?_
      refine QG.block_exit ?_
      refine QG.then ?_
      refine CG.seq ?_
      refine CG.seq ?_
      obtain rfl : p = 3 := by omega
      rw [show obN 3 = ob2 from rfl] at I1 ⊢
      refine CG.draw (.look 0 0 (.look 1 0 (.look 2 0 (.look 3 0 (.look 5 0 (.eff1 4 false (.eff1 6 false (.eff1 7 false (.eff1 8 false (.look 9 1 (.done))))))))))) [4, 6, 7, 8] [] ([heB x { HS0 with o := ob2 }]) ([]) mixed (by kernel_rfl) iM (Imp.none _) ?_
      refine DG.look rfl rfl (Yield.move rfl) rfl ?_
      refine DG.look rfl rfl (Yield.nilCheck rfl) rfl ?_
      refine DG.look rfl rfl (Yield.fieldAddr fa83_1 rfl) rfl ?_
      refine DG.look rfl rfl (Yield.load ti53 rfl (by first | exact Cel.of_blk eX rfl | exact (hrow eX) _ _ rfl)) rfl ?_
      refine DG.look rfl rfl (Yield.move rfl) rfl ?_
      refine DG.eff1 ?_
      refine Chg.eff rfl rfl (Eff.lit0 Tryz.underlying32 ti5 rfl) rfl (fun _ => iM) (fun _ => Imp.refl _) (fun _ => iM) ?_
      rintro b90 -
      refine DG.eff1 ?_
      refine Chg.eff rfl rfl (Eff.appendB0 rfl rfl rfl Tryz.underlying32 Tryz.underlying32 ti5 (by decide) fC (SlR.of_osl (E := 5) (a := some ⟨b49, 0, none⟩) eX) (by omega)) rfl (fun _ => iM) (fun _ => Imp.refl _) (fun _ => iM) ?_
      rintro ⟨a92, c92⟩ -
      refine DG.eff1 ?_
      refine Chg.callo rfl rfl call32 rfl (iM) (out_of W _ (s := x.s) (m := x.m) (f := x.f) (t := x.t) (k := 0) (r := x.r) (ba := a92) (bc := c92) (b := own) (by exact RdB.of_osl (E := 5) eX rfl rfl) I1.L rfl (by omega) (ad := 256) (by decide)) rfl (fun _ => iM) (fun _ => Imp.refl _) (fun _ => iM) ?_
      rintro σ3 L3
      dsimp only [WG] at L3 ⊢
      rw [e3] at L3 ⊢
      dsimp only at L3 ⊢
      have I3 : HI 20 x { HS0 with o := o3 } σ3 _ := ⟨L3, I1.h1, I1.h2, I1.q, I1.p, I1.t0, I1.t1, I1.m0, I1.m1⟩
      refine DG.eff1 ?_
      refine Chg.callo rfl rfl call31 rfl (Imp.refl _) (num_spec W _ 0) rfl (fun _ => iM) (fun _ => Imp.refl _) (fun _ => iM) ?_
      rintro ⟨⟩ -
      refine DG.look rfl rfl (Yield.as (Yield.neq rfl rfl) (v' := .bool false) (bF (not_not_intro rfl))) rfl ?_
      refine DG.done ?_
      refine QG.then ?_
      refine CG.cond_f rfl ?_
      refine CG.skip ?_
      refine QG.then ?_
      refine CG.seq ?_
      refine CG.region ?_
      refine OG.mv rfl rfl ?_
      refine OG.mv rfl rfl ?_
      refine OG.yield (Yield.sub (c := (at0 : Int)) rfl rfl (by rw [w64 (by omega) (by omega)]; omega)) rfl ?_
      refine OG.mv rfl rfl ?_
      refine OG.yield (Yield.sub (c := (at0 : Int)) rfl rfl (by rw [w64 (by omega) (by omega)]; omega)) rfl ?_
      refine OG.mv rfl rfl ?_
      refine OG.yield (Yield.add (c := ((at0 + n : Nat) : Int)) rfl rfl (by rw [w64 (by omega) (by omega)]; omega)) rfl ?_
      refine OG.yield (Yield.as (Yield.slice Tryz.underlying32 ti5 rfl (Bound.some rfl) (Bound.some rfl) (by omega) (by omega) (by omega)) (v' := .slice ((some ⟨b49, 0, none⟩ : Option Addr).map fun a => cutAt a at0 512 1) ((own.drop at0).take n).length (512 - at0)) (by rw [lpc, Int.toNat_natCast, Int.toNat_natCast, show at0 + n - at0 = n by omega])) rfl ?_
      refine OG.yield (Yield.toStr (bs := (own.drop at0).take n) Tryz.underlying32 Tryz.underlying9 Tryz.underlying5 rfl (SlR.midB (SlR.of_osl (E := 5) (a := some ⟨b49, 0, none⟩) eX) (by omega) (by omega))) rfl ?_
      refine OG.sg rfl rfl ?_
      refine OG.nil ?_
      refine QG.then ?_
      refine CG.seq ?_
      refine CG.region ?_
      refine OG.mv rfl rfl ?_
      refine OG.mv rfl rfl ?_
      refine OG.yield (Yield.conv (c := ((256 + at0 : Nat) : Int)) Tryz.underlying27 rfl rfl (wu32 (by omega) (by omega))) rfl ?_
      refine OG.mv rfl rfl ?_
      refine OG.yield (Yield.conv (c := (n : Int)) Tryz.underlying27 rfl rfl (wu32 (by omega) (by omega))) rfl ?_
      refine OG.callo call28 rfl (Imp.refl _) (call_spec W _ 5 ((256 + at0 : Nat) : Int) n 0) rfl ?_
      rintro ⟨⟩ -
      refine OG.callo call16 rfl (iM) (Do_m W (oby 5 (some ⟨b49, 0, none⟩) 512 own :: [old W]) (S := { HS0 with o := o3 }) (g := cR 5 ((256 + at0 : Nat) : Int) n 0) (n := 5) (a := 256 + at0) (b := n) (c := 0) I3 (by omega) (by omega) (by omega) (by decide) (by decide) rfl rfl rfl rfl (f_wr hpc hn64 lpc rfl)) rfl ?_
      rintro σ4 I4
      dsimp only at I4 ⊢
      refine OG.mv rfl rfl ?_
      refine OG.yield (Yield.extract rfl rfl) rfl ?_
      refine OG.yield (Yield.extract rfl rfl) rfl ?_
      refine OG.yield (Yield.extract rfl rfl) rfl ?_
      refine OG.effd (Eff.alloc ti31) rfl ?_
      rintro b15 -
      refine OG.eff (Eff.storeAll ti31 rfl rfl fC (Rg.len _) (Rg.ones _) rfl) rfl ?_
      rintro ⟨⟩ -
      refine OG.sg rfl rfl ?_
      refine OG.sg rfl rfl ?_
      refine OG.nil ?_
      refine QG.then ?_
      refine CG.seq ?_
      refine CG.region ?_
      refine OG.mv rfl rfl ?_
      refine OG.mv rfl rfl ?_
      refine OG.yield (Yield.conv (c := ((256 + at0 : Nat) : Int)) Tryz.underlying27 rfl rfl (wu32 (by omega) (by omega))) rfl ?_
      refine OG.callo call28 rfl (Imp.refl _) (call_spec W _ 8 2 ((256 + at0 : Nat) : Int) 0) rfl ?_
      rintro ⟨⟩ -
      refine OG.callo call16 rfl (iM) (Do_m W (blk b15 (Rg.ans (cR 5 ((256 + at0 : Nat) : Int) n 0) 5 HS0.time n).v 31 :: oby 5 (some ⟨b49, 0, none⟩) 512 own :: [old W]) (g := cR 8 2 ((256 + at0 : Nat) : Int) 0) (n := 8) (a := 2) (b := 256 + at0) (c := 0) I4 (by omega) (by decide) (by omega) (by decide) (by decide) rfl rfl rfl rfl (f_dw hsc lsc rfl rfl)) rfl ?_
      rintro σ5 I5
      dsimp only at I5 ⊢
      refine OG.mv rfl rfl ?_
      refine OG.yield (Yield.extract rfl rfl) rfl ?_
      refine OG.yield (Yield.extract rfl rfl) rfl ?_
      refine OG.yield (Yield.extract rfl rfl) rfl ?_
      refine OG.effd (Eff.alloc ti31) rfl ?_
      rintro b18 -
      refine OG.eff (Eff.storeAll ti31 rfl rfl fC (Rg.len _) (Rg.ones _) rfl) rfl ?_
      rintro ⟨⟩ -
      refine OG.sg rfl rfl ?_
      refine OG.sg rfl rfl ?_
      refine OG.nil ?_
      refine QG.then ?_
      refine CG.seq ?_
      refine CG.region ?_
      refine OG.mv rfl rfl ?_
      refine OG.yield (Yield.nilCheck rfl) rfl ?_
      refine OG.yield (Yield.fieldAddr fa83_4 rfl) rfl ?_
      refine OG.yield (Yield.load ti56 rfl (by first | exact Cel.of_blk eX rfl | exact (hrow eX) _ _ rfl)) rfl ?_
      refine OG.callo call42 rfl (iM) (Vd.issue_spec W _ (d := x.d) (s := dk1 (256 + at0) ((own.drop at0).take 64))) rfl ?_
      rintro ⟨l, la, lc⟩ hl
      dsimp only [Vd.Rqs.G, Vd.Rqs.ms, Vd.Rqs.cell, List.cons_append, List.nil_append] at hl ⊢
      obtain ⟨cr, rfl⟩ : ∃ cr, l = [cr] := by
        have := congrArg List.length hl
        rw [iss1, List.length_map] at this
        exact List.length_eq_one_iff.1 this
      obtain ⟨part, tag, write, sector, ⟨ma, mc, mb⟩⟩ := cr
      rw [iss1] at hl
      simp only [List.map_cons, List.map_nil, Vd.CR.abs, List.cons.injEq, and_true, Vd.Rq.mk.injEq] at hl
      obtain ⟨-, -, -, hsct, hmb⟩ := hl
      subst hsct
      subst hmb
      refine OG.sg rfl rfl ?_
      refine OG.nil ?_
      refine QG.then ?_
      refine CG.seq ?_
      refine CG.seq ?_
      refine CG.pure (fun w hw => SlR.elem_shape (xs := [(⟨part, tag, write, 6, ⟨ma, mc, (own.drop at0).take 64⟩⟩ : Vd.CR)]) (i := 0) (SlR.of_osl (W0 := W) (E := 101) (a := la) (c := lc) eX) Vd.CR.len (by decide) (Nat.succ_pos _) w hw) ?_
      rintro ⟨bl, ol, rfl⟩
      refine CG.draw (.look 0 1 (.look 1 1 (.look 2 1 (.look 3 1 (.look 4 1 (.look 5 1 (.look 6 1 (.look 7 1 (.look 8 1 (.look 9 1 (.look 10 1 (.look 13 0 (.eff1 11 false (.look 12 1 (.look 14 1 (.look 15 1 (.look 16 1 (.look 17 1 (.look 18 1 (.look 19 1 (.look 20 1 (.look 21 1 (.look 22 1 (.look 23 1 (.look 24 1 (.look 25 1 (.look 26 1 (.look 27 1 (.look 28 1 (.look 29 1 (.look 30 1 (.look 31 1 (.look 32 1 (.look 33 1 (.look 34 1 (.look 35 1 (.look 36 1 (.look 37 1 (.look 38 1 (.look 39 1 (.look 40 1 (.look 41 1 (.look 42 1 (.look 43 1 (.look 44 1 (.look 45 1 (.look 46 1 (.look 47 1 (.look 48 1 (.look 49 1 (.done))))))))))))))))))))))))))))))))))))))))))))))))))) [11] [] ([]) ([]) mixed (by kernel_rfl) (Imp.none _) (Imp.none _) ?_
      refine DG.look rfl rfl (Yield.fieldAddr fa31_0 rfl) rfl ?_
      refine DG.look rfl rfl (Yield.index_array Tryz.underlying28 ti27 rfl rfl (by omega) (by omega)) rfl ?_
      refine DG.look rfl rfl (Yield.load (v := .int .u32 n) ti27 rfl (Cel.of_blk (b := b15) eX rfl)) rfl ?_
      refine DG.look rfl rfl (Yield.move rfl) rfl ?_
      refine DG.look rfl rfl (Yield.conv (c := (n : Int)) Tryz.underlying27 rfl rfl (wu32 (by omega) (by omega))) rfl ?_
      refine DG.look rfl rfl (Yield.as (Yield.neq rfl rfl) (v' := .bool false) (bF (not_not_intro rfl))) rfl ?_
      refine DG.look rfl rfl (Yield.move rfl) rfl ?_
      refine DG.look rfl rfl (Yield.move rfl) rfl ?_
      refine DG.look rfl rfl (Yield.nilCheck rfl) rfl ?_
      refine DG.look rfl rfl (Yield.fieldAddr fa83_3 rfl) rfl ?_
      refine DG.look rfl rfl (Yield.load ti55 rfl (by first | exact Cel.of_blk eX rfl | exact (hrow eX) _ _ rfl)) rfl ?_
      refine DG.look rfl rfl (Yield.move rfl) rfl ?_
      refine DG.eff1 ?_
      refine Chg.callo rfl rfl call21 rfl (iM) (Vc.out_spec W _ (g := x.k) (out := (own.drop at0).take n) (inn := [])) rfl (fun _ => iM) (fun _ => Imp.refl _) (fun _ => iM) ?_
      rintro ⟨ja, jc⟩ -
      dsimp only
      refine DG.look rfl rfl (Yield.toStr (bs := (own.drop at0).take n) Tryz.underlying32 Tryz.underlying9 Tryz.underlying5 rfl (SlR.of_osl (E := 5) (a := ja) (c := jc) eX)) rfl ?_
      refine DG.look rfl rfl (Yield.str_samen rfl rfl) rfl ?_
      refine DG.look rfl rfl Yield.pickA rfl ?_
      refine DG.look rfl rfl (Yield.move rfl) rfl ?_
      refine DG.look rfl rfl (Yield.fieldAddr fa31_0 rfl) rfl ?_
      refine DG.look rfl rfl (Yield.index_array Tryz.underlying28 ti27 rfl rfl (by omega) (by omega)) rfl ?_
      refine DG.look rfl rfl (Yield.load (v := .int .u32 1) ti27 rfl (Cel.of_blk (b := b18) eX rfl)) rfl ?_
      refine DG.look rfl rfl (Yield.as (Yield.neq rfl rfl) (v' := .bool false) (bF (not_not_intro rfl))) rfl ?_
      refine DG.look rfl rfl Yield.pickA rfl ?_
      refine DG.look rfl rfl (Yield.move rfl) rfl ?_
      refine DG.look rfl rfl (Yield.move rfl) rfl ?_
      refine DG.look rfl rfl (Yield.len_slice Tryz.underlying98 rfl rfl) rfl ?_
      refine DG.look rfl rfl (Yield.as (Yield.neq rfl rfl) (v' := .bool false) (bF (not_not_intro rfl))) rfl ?_
      refine DG.look rfl rfl Yield.pickA rfl ?_
      refine DG.look rfl rfl (Yield.move rfl) rfl ?_
      refine DG.look rfl rfl (Yield.move rfl) rfl ?_
      refine DG.look rfl rfl (Yield.index_slice Tryz.underlying98 ti101 rfl rfl (by omega) (by show (0 : Int) < ((1 : Nat) : Int); decide)) rfl ?_
      refine DG.look rfl rfl (Yield.fieldAddr fa101_3 rfl) rfl ?_
      refine DG.look rfl rfl (Yield.load (v := .int .i64 6) ti3 rfl ((SlR.elem (i := 0) (SlR.of_osl (E := 101) (a := some ⟨bl, ol, none⟩) (c := lc) eX) Vd.CR.len rfl) 3 _ rfl)) rfl ?_
      refine DG.look rfl rfl (Yield.as (Yield.neq rfl rfl) (v' := .bool false) (bF (not_not_intro rfl))) rfl ?_
      refine DG.look rfl rfl Yield.pickA rfl ?_
      refine DG.look rfl rfl (Yield.move rfl) rfl ?_
      refine DG.look rfl rfl (Yield.move rfl) rfl ?_
      refine DG.look rfl rfl (Yield.index_slice Tryz.underlying98 ti101 rfl rfl (by omega) (by show (0 : Int) < ((1 : Nat) : Int); decide)) rfl ?_
      refine DG.look rfl rfl (Yield.fieldAddr fa101_4 rfl) rfl ?_
      refine DG.look rfl rfl (Yield.load (v := .slice ma ((own.drop at0).take 64).length mc) ti32 rfl ((SlR.elem (i := 0) (SlR.of_osl (E := 101) (a := some ⟨bl, ol, none⟩) (c := lc) eX) Vd.CR.len rfl) 4 _ rfl)) rfl ?_
      refine DG.look rfl rfl (Yield.toStr (bs := (own.drop at0).take 64) Tryz.underlying32 Tryz.underlying9 Tryz.underlying5 rfl ((Ms.pool_rd (ms := [(⟨part, tag, write, 6, ⟨ma, mc, (own.drop at0).take 64⟩⟩ : Vd.CR)].map Vd.CR.m) (m := ⟨ma, mc, (own.drop at0).take 64⟩) eX (by simp [Vd.CR.m])).slR)) rfl ?_
      refine DG.look rfl rfl (Yield.move rfl) rfl ?_
      refine DG.look rfl rfl (Yield.move rfl) rfl ?_
      refine DG.look rfl rfl (Yield.sub (c := (at0 : Int)) rfl rfl (by rw [w64 (by omega) (by omega)]; omega)) rfl ?_
      refine DG.look rfl rfl (Yield.move rfl) rfl ?_
      refine DG.look rfl rfl (Yield.sub (c := (at0 : Int)) rfl rfl (by rw [w64 (by omega) (by omega)]; omega)) rfl ?_
      refine DG.look rfl rfl (Yield.add (c := ((at0 + 64 : Nat) : Int)) rfl rfl (by rw [w64 (by omega) (by omega)]; omega)) rfl ?_
      refine DG.look rfl rfl (Yield.as (Yield.slice Tryz.underlying32 ti5 rfl (Bound.some rfl) (Bound.some rfl) (by omega) (by omega) (by omega)) (v' := .slice ((some ⟨b49, 0, none⟩ : Option Addr).map fun a => cutAt a at0 512 1) ((own.drop at0).take 64).length (512 - at0)) (by rw [lsc, Int.toNat_natCast, Int.toNat_natCast, show at0 + 64 - at0 = 64 by omega])) rfl ?_
      refine DG.look rfl rfl (Yield.toStr (bs := (own.drop at0).take 64) Tryz.underlying32 Tryz.underlying9 Tryz.underlying5 rfl (SlR.midB (SlR.of_osl (E := 5) (a := some ⟨b49, 0, none⟩) eX) (by omega) (by omega))) rfl ?_
      refine DG.look rfl rfl (Yield.str_samen rfl rfl) rfl ?_
      refine DG.look rfl rfl Yield.pickA rfl ?_
      refine DG.done ?_
      refine QG.then ?_
      refine CG.cond_f rfl ?_
      refine CG.skip ?_
      refine QG.then ?_
      refine CG.seq ?_
      refine CG.region ?_
      refine OG.mv rfl rfl ?_
      refine OG.mv rfl rfl ?_
      refine OG.yield (Yield.conv (c := ((256 + at0 : Nat) : Int)) Tryz.underlying27 rfl rfl (wu32 (by omega) (by omega))) rfl ?_
      refine OG.mv rfl rfl ?_
      refine OG.yield (Yield.as (Yield.min2 rfl rfl) (v' := .int .i64 k) (by congr 1; omega)) rfl ?_
      refine OG.yield (Yield.conv (c := (k : Int)) Tryz.underlying27 rfl rfl (wu32 (by omega) (by omega))) rfl ?_
      refine OG.callo call28 rfl (Imp.refl _) (call_spec W _ 9 2 ((256 + at0 : Nat) : Int) k) rfl ?_
      rintro ⟨⟩ -
      refine OG.callo call16 rfl (iM) (Do_m W (oby 5 (some ⟨b49, 0, none⟩) 512 own :: [old W]) (S := { HS0 with o := o3, out := (own.drop at0).take n, d := Vd.issS (dk1 (256 + at0) ((own.drop at0).take 64)) }) (g := cR 9 2 ((256 + at0 : Nat) : Int) k) (n := 9) (a := 2) (b := 256 + at0) (c := k) (HI.like I5 rfl rfl rfl rfl rfl) (by omega) (by decide) (by omega) (by omega) (by decide) rfl rfl rfl rfl (f_sd hpk (by omega) lpk rfl)) rfl ?_
      rintro σ6 I6
      dsimp only at I6 ⊢
      refine OG.mv rfl rfl ?_
      refine OG.yield (Yield.extract rfl rfl) rfl ?_
      refine OG.yield (Yield.extract rfl rfl) rfl ?_
      refine OG.yield (Yield.extract rfl rfl) rfl ?_
      refine OG.effd (Eff.alloc ti31) rfl ?_
      rintro b22 -
      refine OG.eff (Eff.storeAll ti31 rfl rfl fC (Rg.len _) (Rg.ones _) rfl) rfl ?_
      rintro ⟨⟩ -
      refine OG.sg rfl rfl ?_
      refine OG.sg rfl rfl ?_
      refine OG.nil ?_
      refine QG.then ?_
      refine CG.seq ?_
      refine CG.region ?_
      refine OG.mv rfl rfl ?_
      refine OG.yield (Yield.nilCheck rfl) rfl ?_
      refine OG.yield (Yield.fieldAddr fa83_5 rfl) rfl ?_
      refine OG.yield (Yield.load ti62 rfl (by first | exact Cel.of_blk eX rfl | exact (hrow eX) _ _ rfl)) rfl ?_
      refine OG.callo call43 rfl (iM) (Po.held_in W _ (p := x.p) (n := 2) (acs := A1 ((own.drop at0).take k)) true (ac := ⟨1, 0, 1, 16, 1, [(own.drop at0).take k], []⟩) rfl) rfl ?_
      rintro ⟨ya, yc, yms⟩ hy
      obtain ⟨ym, rfl⟩ : ∃ m, yms = [m] := by
        have := congrArg List.length hy
        simp only [Po.End.bs, List.length_map, if_true, List.length_cons, List.length_nil] at this
        exact List.length_eq_one_iff.1 this
      obtain ⟨ma, mc, mb⟩ := ym
      simp only [Po.End.bs, List.map_cons, List.map_nil, if_true, List.cons.injEq, and_true] at hy
      subst hy
      dsimp only [Po.End.cell]
      refine OG.sg rfl rfl ?_
      refine OG.nil ?_
      refine QG.then ?_
      refine CG.seq ?_
      refine CG.seq ?_
      refine CG.pure (fun w hw => SlR.shape (SlR.of_osl (W0 := W) (E := 32) (a := ya) (c := yc) eX) (fun q => by cases q) w hw) ?_
      rintro ⟨bl, ol, rfl⟩
      refine CG.draw (.look 0 1 (.look 1 1 (.look 2 1 (.look 3 1 (.look 4 1 (.look 5 1 (.look 6 1 (.look 7 1 (.look 8 1 (.look 9 1 (.look 10 1 (.look 11 1 (.look 12 1 (.look 13 1 (.look 14 1 (.look 15 1 (.look 16 1 (.look 17 1 (.look 18 1 (.look 19 1 (.done))))))))))))))))))))) [] [] ([]) ([]) mixed (by kernel_rfl) (Imp.none _) (Imp.none _) ?_
      refine DG.look rfl rfl (Yield.fieldAddr fa31_0 rfl) rfl ?_
      refine DG.look rfl rfl (Yield.index_array Tryz.underlying28 ti27 rfl rfl (by omega) (by omega)) rfl ?_
      refine DG.look rfl rfl (Yield.load (v := .int .u32 0) ti27 rfl (Cel.of_blk (b := b22) eX rfl)) rfl ?_
      refine DG.look rfl rfl (Yield.as (Yield.neq rfl rfl) (v' := .bool false) (bF (not_not_intro rfl))) rfl ?_
      refine DG.look rfl rfl (Yield.move rfl) rfl ?_
      refine DG.look rfl rfl (Yield.move rfl) rfl ?_
      refine DG.look rfl rfl (Yield.len_slice Tryz.underlying67 rfl rfl) rfl ?_
      refine DG.look rfl rfl (Yield.as (Yield.neq rfl rfl) (v' := .bool false) (bF (not_not_intro rfl))) rfl ?_
      refine DG.look rfl rfl Yield.pickA rfl ?_
      refine DG.look rfl rfl (Yield.move rfl) rfl ?_
      refine DG.look rfl rfl (Yield.move rfl) rfl ?_
      refine DG.look rfl rfl (Yield.index_slice Tryz.underlying67 ti32 rfl rfl (by omega) (by show (0 : Int) < ((1 : Nat) : Int); decide)) rfl ?_
      refine DG.look rfl rfl (Yield.load (v := .slice ma ((own.drop at0).take k).length mc) ti32 rfl ((SlR.of_osl (E := 32) (a := some ⟨bl, ol, none⟩) (c := yc) eX).cel (i := 0) rfl)) rfl ?_
      refine DG.look rfl rfl (Yield.toStr (bs := (own.drop at0).take k) Tryz.underlying32 Tryz.underlying9 Tryz.underlying5 rfl ((Po.pool_rd (ms := [(⟨ma, mc, (own.drop at0).take k⟩ : Po.Msg)]) (m := ⟨ma, mc, (own.drop at0).take k⟩) eX (by simp)).slR)) rfl ?_
      refine DG.look rfl rfl (Yield.move rfl) rfl ?_
      refine DG.look rfl rfl (Yield.move rfl) rfl ?_
      refine DG.look rfl rfl (Yield.as (Yield.min2 rfl rfl) (v' := .int .i64 k) (by congr 1; omega)) rfl ?_
      refine DG.look rfl rfl (Yield.as (Yield.slice_str (bs := (own.drop at0).take n) Tryz.underlying9 rfl (Bound.some rfl) (by omega) (by omega)) (v' := .string (strOf ((own.drop at0).take k))) (by rw [Int.toNat_natCast, hkt])) rfl ?_
      refine DG.look rfl rfl (Yield.str_samen rfl rfl) rfl ?_
      refine DG.look rfl rfl Yield.pickA rfl ?_
      refine DG.done ?_
      refine QG.then ?_
      refine CG.cond_f rfl ?_
      refine CG.skip ?_
      refine QG.then ?_
      refine CG.seq ?_
      refine CG.region ?_
      refine OG.mv rfl rfl ?_
      refine OG.effd (Eff.makeB n Tryz.underlying32 ti5 rfl rfl (by omega)) rfl ?_
      rintro b218 -
      rw [show (List.replicate n (0 : UInt8)).length = nw.length by rw [hnl]; exact List.length_replicate, show (List.replicate n (0 : UInt8)) = tkd nw (List.replicate n 0) 0 from rfl]
      refine OG.sg rfl rfl ?_
      refine OG.nil ?_
      refine QG.then ?_
      refine CG.seq ?_
      refine CG.seq ?_
      refine CG.region ?_
      refine OG.sg rfl rfl ?_
      refine OG.nil ?_
      refine QG.then ?_
      refine CG.block ?_
      refine CG.loop (fun i : Nat => i ≤ n) (fun i => [(1, .int .i64 ((256 + at0 : Nat) : Int)), (2, .int .i64 n), (7, .pointer (some ⟨x.e, 0, none⟩)), (8, .slice (some ⟨b49, 0, none⟩) own.length 512), (26, .slice (some ⟨b218, 0, none⟩) nw.length n), (27, .int .i64 i)]) (fun i => oby 5 (some ⟨b218, 0, none⟩) n (tkd nw (List.replicate n 0) i) :: oby 5 (some ⟨b49, 0, none⟩) 512 own :: hG x { HS0 with o := o3, out := (own.drop at0).take n, d := Vd.issS (dk1 (256 + at0) ((own.drop at0).take 64)), acs := A1 ((own.drop at0).take k) } [20, 8] σ6 [old W]) (fun i => n - i) 0 (Nat.zero_le _) eS iM ?_
      rintro i hi
      refine CG.seq ?_
      refine CG.seq ?_
      refine CG.region ?_
      refine OG.mv rfl rfl ?_
      refine OG.mv rfl rfl ?_
      refine OG.yield Yield.lssA rfl ?_
      refine OG.nil ?_
      refine QG.then ?_
      refine CG.cond rfl (fun hc => ?_) (fun hc => ?_)
      · try replace hc := of_decide_eq_true hc
        have hi' : i < n := by omega
        have htl : (tkd nw (List.replicate n 0) i).length = n := by rw [tkd_len (by rw [hnl]; simp)]; simp
        have hog : nw[i]? = some (UInt8.ofNat (200 - i)) := by rw [hnw]; exact newB_get hi'
        refine CG.skip ?_
        refine QG.then ?_
        refine CG.seq ?_
        refine CG.block ?_
        refine CG.region ?_
        refine OG.mv rfl rfl ?_
        refine OG.mv rfl rfl ?_
        refine OG.mv rfl rfl ?_
        refine OG.yield (Yield.sub (c := 200 - (i : Int)) rfl rfl (w64 (by omega) (by omega))) rfl ?_
        refine OG.yield (Yield.conv (c := ((UInt8.ofNat (200 - i)).toNat : Int)) Tryz.underlying5 rfl rfl (u8_sub (by omega))) rfl ?_
        refine OG.yield (Yield.index_slice Tryz.underlying32 ti5 rfl rfl (by omega) (by omega)) rfl ?_
        refine OG.eff (Eff.storeByteS (i := i) (z := UInt8.ofNat (200 - i)) (bs := tkd nw (List.replicate n 0) i) ti5 (show 0 + (i : Int).toNat * 1 = 0 + i by omega) rfl rfl fC (by omega)) rfl ?_
        rintro ⟨⟩ -
        refine OG.nil ?_
        refine QG.block_normal ?_
        refine QG.then ?_
        refine CG.region ?_
        refine OG.mv rfl rfl ?_
        refine OG.yield (Yield.add rfl rfl (w64 (by omega) (by omega))) rfl ?_
        refine OG.sg rfl rfl ?_
        refine OG.nil ?_
        rw [tkd_set (by rw [hnl]; simp) hog]
        exact QG.next (i + 1) (by omega) (by omega) eS iM
      · try replace hc := of_decide_eq_false hc
        refine CG.exit ?_
        refine QG.pass_exit ?_
        refine QG.pass_exit ?_
        refine QG.block_exit ?_
        refine QG.then ?_
        refine CG.seq ?_
        obtain rfl : i = n := by omega
        rw [tkd_all (by rw [hnl]; simp) (by simp)]
        refine CG.draw (.look 0 0 (.look 1 0 (.look 2 0 (.look 3 0 (.look 5 0 (.eff1 4 false (.eff1 6 false (.eff1 7 false (.done))))))))) [4, 6, 7] [] ([heB x { HS0 with o := o3, out := (own.drop at0).take i, d := Vd.issS (dk1 (256 + at0) ((own.drop at0).take 64)), acs := A1 ((own.drop at0).take k) }]) ([]) mixed (by kernel_rfl) iM (Imp.none _) ?_
        refine DG.look rfl rfl (Yield.move rfl) rfl ?_
        refine DG.look rfl rfl (Yield.nilCheck rfl) rfl ?_
        refine DG.look rfl rfl (Yield.fieldAddr fa83_5 rfl) rfl ?_
        refine DG.look rfl rfl (Yield.load ti62 rfl (by first | exact Cel.of_blk eX rfl | exact (hrow eX) _ _ rfl)) rfl ?_
        refine DG.look rfl rfl (Yield.move rfl) rfl ?_
        refine DG.eff1 ?_
        refine Chg.eff rfl rfl (Eff.lit0 Tryz.underlying32 ti5 rfl) rfl (fun _ => iM) (fun _ => Imp.refl _) (fun _ => iM) ?_
        rintro b234 -
        refine DG.eff1 ?_
        refine Chg.eff rfl rfl (Eff.appendB0 rfl rfl rfl Tryz.underlying32 Tryz.underlying32 ti5 (by decide) fC (SlR.of_osl (E := 5) (a := some ⟨b218, 0, none⟩) eX) (by omega)) rfl (fun _ => iM) (fun _ => Imp.refl _) (fun _ => iM) ?_
        rintro ⟨a236, c236⟩ -
        refine DG.eff1 ?_
        refine Chg.callo rfl rfl call44 rfl (iM) (snd_spec W _ (p := x.p) (acs := A1 ((own.drop at0).take k)) 1 1 (a := a236) (c := c236) (bs := nw) (SlR.of_osl (E := 5) (a := a236) eX) (by omega)) rfl (fun _ => iM) (fun _ => Imp.refl _) (fun _ => iM) ?_
        rintro ⟨⟩ -
        rw [snd2 (by omega)]
        refine DG.done ?_
        refine QG.then ?_
        refine CG.seq ?_
        refine CG.region ?_
        refine OG.mv rfl rfl ?_
        refine OG.yield (Yield.nilCheck rfl) rfl ?_
        refine OG.yield (Yield.fieldAddr fa83_5 rfl) rfl ?_
        refine OG.yield (Yield.load ti62 rfl (by first | exact Cel.of_blk eX rfl | exact (hrow eX) _ _ rfl)) rfl ?_
        refine OG.callo call45 rfl (iM) (Po.transfer_spec W _ (p := x.p) (acs := A2 ((own.drop at0).take k) nw)) rfl ?_
        rintro ⟨ja, jc⟩ -
        rw [tr3]
        refine OG.nil ?_
        refine QG.then ?_
        refine CG.seq ?_
        refine CG.region ?_
        refine OG.mv rfl rfl ?_
        refine OG.mv rfl rfl ?_
        refine OG.yield (Yield.conv (c := ((256 + at0 : Nat) : Int)) Tryz.underlying27 rfl rfl (wu32 (by omega) (by omega))) rfl ?_
        refine OG.callo call28 rfl (Imp.refl _) (call_spec W _ 10 1 ((256 + at0 : Nat) : Int) 64) rfl ?_
        rintro ⟨⟩ -
        refine OG.callo call16 rfl (iM) (Do_m W (oby 5 (some ⟨b218, 0, none⟩) i nw :: oby 5 (some ⟨b49, 0, none⟩) 512 own :: [old W]) (S := { HS0 with o := o3, out := (own.drop at0).take i, d := Vd.issS (dk1 (256 + at0) ((own.drop at0).take 64)), acs := A3 ((own.drop at0).take k) nw }) (g := cR 10 1 ((256 + at0 : Nat) : Int) 64) (n := 10) (a := 1) (b := 256 + at0) (c := 64) (HI.like I6 rfl rfl rfl rfl rfl) (by omega) (by decide) (by omega) (by decide) (by decide) rfl rfl rfl rfl (f_rc e4 hnl hn64 rfl)) rfl ?_
        rintro σ7 I7
        dsimp only at I7 ⊢
        refine OG.mv rfl rfl ?_
        refine OG.yield (Yield.extract rfl rfl) rfl ?_
        refine OG.yield (Yield.extract rfl rfl) rfl ?_
        refine OG.yield (Yield.extract rfl rfl) rfl ?_
        refine OG.effd (Eff.alloc ti31) rfl ?_
        rintro b28 -
        refine OG.eff (Eff.storeAll ti31 rfl rfl fC (Rg.len _) (Rg.ones _) rfl) rfl ?_
        rintro ⟨⟩ -
        refine OG.sg rfl rfl ?_
        refine OG.sg rfl rfl ?_
        refine OG.nil ?_
        refine QG.then ?_
        refine CG.seq ?_
        refine CG.region ?_
        refine OG.mv rfl rfl ?_
        refine OG.yield (Yield.nilCheck rfl) rfl ?_
        refine OG.yield (Yield.fieldAddr fa83_1 rfl) rfl ?_
        refine OG.yield (Yield.load ti53 rfl (by first | exact Cel.of_blk eX rfl | exact (hrow eX) _ _ rfl)) rfl ?_
        refine OG.callo call30 rfl (iM) (in_spec W _ (s := x.s) (m := x.m) (f := x.f) (t := x.t) (k := 0) (r := x.r) I7.L rfl (by omega) (ad := 256) (by decide) 512) rfl ?_
        rintro ⟨ia, ic, ib, σ8⟩ ⟨hib, L8⟩
        dsimp only [WG] at hib L8 ⊢
        rw [e44] at hib ⊢
        dsimp only at hib ⊢
        subst hib
        refine OG.mv rfl rfl ?_
        refine OG.yield (Yield.extract rfl rfl) rfl ?_
        refine OG.yield (Yield.extract rfl rfl) rfl ?_
        refine OG.sg rfl rfl ?_
        refine OG.sg rfl rfl ?_
        refine OG.nil ?_
        refine QG.then ?_
        refine CG.seq ?_
        refine CG.seq ?_
        refine CG.pure (fun w hw => SlR.shape (SlR.of_osl (W0 := W) (E := 5) (a := ia) (c := ic) (m := (overB own at0 nw).length) (xs := bytesV (overB own at0 nw)) eX) (fun q => by have := congrArg List.length q; simp only [bytesV_length, List.length_nil] at this; omega) w hw) ?_
        rintro ⟨bx, ox, rfl⟩
        refine CG.region ?_
        refine OG.yield (Yield.fieldAddr fa31_0 rfl) rfl ?_
        refine OG.yield (Yield.index_array Tryz.underlying28 ti27 rfl rfl (by omega) (by omega)) rfl ?_
        refine OG.yield (Yield.load (v := .int .u32 i) ti27 rfl (Cel.of_blk (b := b28) eX rfl)) rfl ?_
        refine OG.mv rfl rfl ?_
        refine OG.yield (Yield.conv (c := (i : Int)) Tryz.underlying27 rfl rfl (wu32 (by omega) (by omega))) rfl ?_
        refine OG.yield (Yield.as (Yield.neq rfl rfl) (v' := .bool false) (bF (not_not_intro rfl))) rfl ?_
        refine OG.mv rfl rfl ?_
        refine OG.gy rfl rfl rfl ?_
        refine OG.mv rfl rfl ?_
        refine OG.gy rfl rfl rfl ?_
        refine OG.callo call31 rfl (Imp.refl _) (num_spec W _ 0) rfl ?_
        rintro ⟨⟩ -
        refine OG.gy rfl rfl rfl ?_
        refine OG.yield (Yield.as (Yield.neq rfl rfl) (v' := .bool false) (bF (not_not_intro rfl))) rfl ?_
        refine OG.yield Yield.pickA rfl ?_
        refine OG.mv rfl rfl ?_
        refine OG.gy rfl rfl rfl ?_
        refine OG.mv rfl rfl ?_
        refine OG.gy rfl rfl rfl ?_
        refine OG.yield (Yield.len_slice Tryz.underlying32 rfl rfl) rfl ?_
        refine OG.gy rfl rfl rfl ?_
        refine OG.yield (Yield.as (Yield.neq rfl rfl) (v' := .bool false) (bF (not_not_intro (by rw [h4l]; rfl)))) rfl ?_
        refine OG.yield Yield.pickA rfl ?_
        refine OG.nil ?_
        refine QG.then ?_
        refine CG.cond_f rfl ?_
        refine CG.skip ?_
        refine QG.then ?_
        refine CG.seq ?_
        refine CG.seq ?_
        refine CG.region ?_
        refine OG.sg rfl rfl ?_
        refine OG.nil ?_
        refine QG.then ?_
        refine CG.block ?_
        refine CG.loop (fun j : Nat => j ≤ 512) (fun j => [(1, .int .i64 ((256 + at0 : Nat) : Int)), (2, .int .i64 i), (8, .slice (some ⟨b49, 0, none⟩) own.length 512), (26, .slice (some ⟨b218, 0, none⟩) nw.length i), (31, .slice (some ⟨bx, ox, none⟩) (overB own at0 nw).length ic), (33, .int .i64 j)]) (fun _ => oby 5 (some ⟨bx, ox, none⟩) ic (overB own at0 nw) :: oby 5 (some ⟨b218, 0, none⟩) i nw :: oby 5 (some ⟨b49, 0, none⟩) 512 own :: [old W]) (fun j => 512 - j) 0 (Nat.zero_le _) eS iM ?_
        rintro j hj
        refine CG.seq ?_
        refine CG.seq ?_
        refine CG.region ?_
        refine OG.mv rfl rfl ?_
        refine OG.yield Yield.lssA rfl ?_
        refine OG.nil ?_
        refine QG.then ?_
        refine CG.cond rfl (fun hc => ?_) (fun hc => ?_)
        · try replace hc := of_decide_eq_true hc
          have hj' : j < 512 := by omega
          obtain ⟨w, hw⟩ : ∃ w, own[j]? = some w := ⟨own[j], by simp⟩
          have hg := overB_get (bs := own) (ys := nw) (a := at0) (i := j) (by omega)
          refine CG.skip ?_
          refine QG.then ?_
          refine CG.seq ?_
          refine CG.block ?_
          refine CG.seq ?_
          refine CG.region ?_
          refine OG.mv rfl rfl ?_
          refine OG.mv rfl rfl ?_
          refine OG.yield (Yield.index_slice Tryz.underlying32 ti5 rfl rfl (by omega) (by omega)) rfl ?_
          refine OG.yield (Yield.load ti5 rfl (v := byteV w) (by rw [show 0 + (j : Int).toNat * 1 = 0 + j by omega]; exact (SlR.of_osl (E := 5) (a := some ⟨b49, 0, none⟩) (c := 512) (xs := bytesV own) eX).cel (bytesV_get hw))) rfl ?_
          refine OG.sg rfl rfl ?_
          refine OG.nil ?_
          refine QG.then ?_
          refine CG.seq ?_
          refine CG.seq ?_
          rcases (show j < at0 ∨ (at0 ≤ j ∧ j < at0 + i) ∨ (at0 ≤ j ∧ at0 + i ≤ j) by omega) with q | q | q
          · skip
            rw [if_neg (by omega), hw] at hg
            refine CG.region ?_
            refine OG.mv rfl rfl ?_
            refine OG.mv rfl rfl ?_
            refine OG.yield (Yield.sub (c := (at0 : Int)) rfl rfl (by rw [w64 (by omega) (by omega)]; omega)) rfl ?_
            refine OG.yield (Yield.as (Yield.geq rfl rfl) (v' := .bool false) (bF (by omega))) rfl ?_
            refine OG.mv rfl rfl ?_
            refine OG.gn rfl rfl rfl rfl rfl ?_
            refine OG.gn rfl rfl rfl rfl rfl ?_
            refine OG.gn rfl rfl rfl rfl rfl ?_
            refine OG.gn rfl rfl rfl rfl rfl ?_
            refine OG.gn rfl rfl rfl rfl rfl ?_
            refine OG.gn rfl rfl rfl rfl rfl ?_
            refine OG.yield Yield.pickA rfl ?_
            refine OG.nil ?_
            refine QG.then ?_
            refine CG.cond_f rfl ?_
            refine CG.skip ?_
            refine QG.then ?_
            refine CG.seq ?_
            refine CG.region ?_
            refine OG.mv rfl rfl ?_
            refine OG.mv rfl rfl ?_
            refine OG.yield (Yield.index_slice Tryz.underlying32 ti5 rfl rfl (by omega) (by omega)) rfl ?_
            refine OG.yield (Yield.load ti5 rfl (v := byteV w) (by rw [show ox + (j : Int).toNat * 1 = ox + j by omega]; exact (SlR.of_osl (E := 5) (a := some ⟨bx, ox, none⟩) eX).cel (bytesV_get hg))) rfl ?_
            refine OG.mv rfl rfl ?_
            refine OG.yield (Yield.as (Yield.neq rfl rfl) (v' := .bool false) (bF (not_not_intro rfl))) rfl ?_
            refine OG.nil ?_
            refine QG.then ?_
            refine CG.cond_f rfl ?_
            refine CG.skip ?_
            refine QG.block_normal ?_
            refine QG.then ?_
            refine CG.region ?_
            refine OG.mv rfl rfl ?_
            refine OG.yield (Yield.add rfl rfl (w64 (by omega) (by omega))) rfl ?_
            refine OG.sg rfl rfl ?_
            refine OG.nil ?_
            exact QG.next (j + 1) (by omega) (by omega) eS iM
          · skip
            rw [if_pos (by omega)] at hg
            obtain ⟨v, hv⟩ : ∃ v, nw[j - at0]? = some v := ⟨nw[j - at0]'(by omega), List.getElem?_eq_getElem (by omega)⟩
            rw [hv] at hg
            refine CG.region ?_
            refine OG.mv rfl rfl ?_
            refine OG.mv rfl rfl ?_
            refine OG.yield (Yield.sub (c := (at0 : Int)) rfl rfl (by rw [w64 (by omega) (by omega)]; omega)) rfl ?_
            refine OG.yield (Yield.as (Yield.geq rfl rfl) (v' := .bool true) (bT (by omega))) rfl ?_
            refine OG.mv rfl rfl ?_
            refine OG.gy rfl rfl rfl ?_
            refine OG.mv rfl rfl ?_
            refine OG.gy rfl rfl rfl ?_
            refine OG.mv rfl rfl ?_
            refine OG.gy rfl rfl rfl ?_
            refine OG.yield (Yield.sub (c := (at0 : Int)) rfl rfl (by rw [w64 (by omega) (by omega)]; omega)) rfl ?_
            refine OG.gy rfl rfl rfl ?_
            refine OG.mv rfl rfl ?_
            refine OG.gy rfl rfl rfl ?_
            refine OG.yield (Yield.add (c := ((at0 + i : Nat) : Int)) rfl rfl (by rw [w64 (by omega) (by omega)]; omega)) rfl ?_
            refine OG.gy rfl rfl rfl ?_
            refine OG.yield (Yield.as (Yield.lss rfl rfl) (v' := .bool true) (bT (by omega))) rfl ?_
            refine OG.yield Yield.pickA rfl ?_
            refine OG.nil ?_
            refine QG.then ?_
            refine CG.cond_t rfl ?_
            refine CG.region ?_
            refine OG.mv rfl rfl ?_
            refine OG.mv rfl rfl ?_
            refine OG.mv rfl rfl ?_
            refine OG.yield (Yield.sub (c := (at0 : Int)) rfl rfl (by rw [w64 (by omega) (by omega)]; omega)) rfl ?_
            refine OG.yield (Yield.sub (c := ((j - at0 : Nat) : Int)) rfl rfl (by rw [w64 (by omega) (by omega)]; omega)) rfl ?_
            refine OG.yield (Yield.index_slice Tryz.underlying32 ti5 rfl rfl (by omega) (by omega)) rfl ?_
            refine OG.yield (Yield.load ti5 rfl (v := byteV v) (by rw [show 0 + ((j - at0 : Nat) : Int).toNat * 1 = 0 + (j - at0) by omega]; exact (SlR.of_osl (E := 5) (a := some ⟨b218, 0, none⟩) (xs := bytesV nw) eX).cel (bytesV_get hv))) rfl ?_
            refine OG.sg rfl rfl ?_
            refine OG.nil ?_
            refine QG.then ?_
            refine CG.seq ?_
            refine CG.region ?_
            refine OG.mv rfl rfl ?_
            refine OG.mv rfl rfl ?_
            refine OG.yield (Yield.index_slice Tryz.underlying32 ti5 rfl rfl (by omega) (by omega)) rfl ?_
            refine OG.yield (Yield.load ti5 rfl (v := byteV v) (by rw [show ox + (j : Int).toNat * 1 = ox + j by omega]; exact (SlR.of_osl (E := 5) (a := some ⟨bx, ox, none⟩) eX).cel (bytesV_get hg))) rfl ?_
            refine OG.mv rfl rfl ?_
            refine OG.yield (Yield.as (Yield.neq rfl rfl) (v' := .bool false) (bF (not_not_intro rfl))) rfl ?_
            refine OG.nil ?_
            refine QG.then ?_
            refine CG.cond_f rfl ?_
            refine CG.skip ?_
            refine QG.block_normal ?_
            refine QG.then ?_
            refine CG.region ?_
            refine OG.mv rfl rfl ?_
            refine OG.yield (Yield.add rfl rfl (w64 (by omega) (by omega))) rfl ?_
            refine OG.sg rfl rfl ?_
            refine OG.nil ?_
            exact QG.next (j + 1) (by omega) (by omega) eS iM
          · skip
            rw [if_neg (by omega), hw] at hg
            refine CG.region ?_
            refine OG.mv rfl rfl ?_
            refine OG.mv rfl rfl ?_
            refine OG.yield (Yield.sub (c := (at0 : Int)) rfl rfl (by rw [w64 (by omega) (by omega)]; omega)) rfl ?_
            refine OG.yield (Yield.as (Yield.geq rfl rfl) (v' := .bool true) (bT (by omega))) rfl ?_
            refine OG.mv rfl rfl ?_
            refine OG.gy rfl rfl rfl ?_
            refine OG.mv rfl rfl ?_
            refine OG.gy rfl rfl rfl ?_
            refine OG.mv rfl rfl ?_
            refine OG.gy rfl rfl rfl ?_
            refine OG.yield (Yield.sub (c := (at0 : Int)) rfl rfl (by rw [w64 (by omega) (by omega)]; omega)) rfl ?_
            refine OG.gy rfl rfl rfl ?_
            refine OG.mv rfl rfl ?_
            refine OG.gy rfl rfl rfl ?_
            refine OG.yield (Yield.add (c := ((at0 + i : Nat) : Int)) rfl rfl (by rw [w64 (by omega) (by omega)]; omega)) rfl ?_
            refine OG.gy rfl rfl rfl ?_
            refine OG.yield (Yield.as (Yield.lss rfl rfl) (v' := .bool false) (bF (by omega))) rfl ?_
            refine OG.yield Yield.pickA rfl ?_
            refine OG.nil ?_
            refine QG.then ?_
            refine CG.cond_f rfl ?_
            refine CG.skip ?_
            refine QG.then ?_
            refine CG.seq ?_
            refine CG.region ?_
            refine OG.mv rfl rfl ?_
            refine OG.mv rfl rfl ?_
            refine OG.yield (Yield.index_slice Tryz.underlying32 ti5 rfl rfl (by omega) (by omega)) rfl ?_
            refine OG.yield (Yield.load ti5 rfl (v := byteV w) (by rw [show ox + (j : Int).toNat * 1 = ox + j by omega]; exact (SlR.of_osl (E := 5) (a := some ⟨bx, ox, none⟩) eX).cel (bytesV_get hg))) rfl ?_
            refine OG.mv rfl rfl ?_
            refine OG.yield (Yield.as (Yield.neq rfl rfl) (v' := .bool false) (bF (not_not_intro rfl))) rfl ?_
            refine OG.nil ?_
            refine QG.then ?_
            refine CG.cond_f rfl ?_
            refine CG.skip ?_
            refine QG.block_normal ?_
            refine QG.then ?_
            refine CG.region ?_
            refine OG.mv rfl rfl ?_
            refine OG.yield (Yield.add rfl rfl (w64 (by omega) (by omega))) rfl ?_
            refine OG.sg rfl rfl ?_
            refine OG.nil ?_
            exact QG.next (j + 1) (by omega) (by omega) eS iM
        · try replace hc := of_decide_eq_false hc
          refine CG.exit ?_
          refine QG.pass_exit ?_
          refine QG.pass_exit ?_
          refine QG.block_exit ?_
          refine QG.then ?_
          refine CG.seq ?_
          refine CG.region ?_
          refine OG.sg rfl rfl ?_
          refine OG.nil ?_
          refine QG.then ?_
          refine CG.ret ?_
          exact QG.ret1 rfl rfl () trivial rfl iM
open Go.ChangeShapes Go.WideShapes Go.ChangeAt
theorem own : ownKnob Tryz.prog.godebug = none := by kernel_rfl
theorem laid : laidOutB Tryz.prog = true := by kernel_rfl
set_option maxRecDepth 100000 in
theorem lifted (os : Os) (started : os.Started) (H : Type) (enc : TypeId × Value → H) :
    ReturnsInHanded {} Tryz.checked os 9 .any (Rows.hcallMovesSpec.pre6 enc Tryz.prog Tryz.f9 Rows.hcallMovesRow.domain false) (Rows.hcallMovesSpec.post enc Tryz.prog Tryz.f9 false true false false) := by
  refine returnsInHanded_of_change_sized (C := Tryz.checked) own started (by kernel_rfl) Tryz.func9
    (ChangeSpec.witness6 (enc := enc) (C := Tryz.checked) false ⟨#[], #[.slice none 0 0, .int .i64 0, .int .i64 0], []⟩ 8 (by kernel_rfl) (by kernel_rfl) (by kernel_rfl) (by kernel_rfl)) ?_
  intro W base args ds gs before hval0 hW hcnd hsz0 _
  have hsz : (DataW.weightsEach Tryz.prog (Tryz.f9.params.toList ++ Rows.hcallMovesSpec.plain.varTypes Tryz.prog) (ds ++ gs)).all (· ≤ reachBytes) = true := hsz0
  have hval : ∀ (j : Nat) t v, Tryz.f9.params[j]? = some t → args[j]? = some v → Value.okWide Tryz.prog W .any base t v := hval0
  have hW' := hW
  obtain ⟨p, q, hA0, hV, rfl, hfz, hnd⟩ := hW
  have hA : DataW.TrodAll enc Tryz.prog W 0 (fun _ => true) true Tryz.f9.params.toList args.toList ds p := hA0
  rw [Tryz.params9] at hA hval hsz
  obtain ⟨v0, vs0, d0, ds0, p0, q0, hargs, rfl, rfl, h0, r0⟩ := trodAll_cons hA
  obtain ⟨v1, vs1, d1, ds1, p1, q1, rfl, rfl, rfl, h1, r1⟩ := trodAll_cons r0
  obtain ⟨v2, vs2, d2, ds2, p2, q2, rfl, rfl, rfl, h2, r2⟩ := trodAll_cons r1
  obtain ⟨rfl, rfl, rfl⟩ := trodAll_nil r2
  obtain rfl : args = #[v0, v1, v2] := by cases args; simp_all
  obtain ⟨rfl, rfl⟩ := trodVars_none hV
  have k0 := weights_le hsz 0 (t := 32) (d := d0) rfl rfl
  have s0 := Opn.param Tryz.underlying32 (Opn.bytes Tryz.underlying32 Tryz.underlying5 (by kernel_rfl) (by kernel_rfl)) (hval 0 32 v0 rfl rfl) h0 k0
  obtain ⟨x0, c0, b0, e0, l0, s0, m0⟩ := s0
  cases e0
  obtain ⟨a1, rfl, rfl, rfl, w1⟩ := open_int Tryz.underlying3 (hval 1 3 v1 rfl rfl) h1
  obtain ⟨a2, rfl, rfl, rfl, w2⟩ := open_int Tryz.underlying3 (hval 2 3 v2 rfl rfl) h2
  clear hA0 hval0 hsz0 hsz
  refine ((walk W s0) W (Sat.start W)).mono fun e W' he => ?_
  obtain ⟨_, _, he, hs⟩ := he
  subst he
  exact ⟨_, rfl, law_post laid (params_ok (by kernel_rfl)) rfl Tryz.underlying4 hW' rfl rfl (Sat.below eX hs)⟩
theorem over : Rows.hcallMovesRow.holds Tryz.pinned (OpenSpec.ofChange Rows.hcallMovesSpec) :=
  OpenClaim.holds_of_wide 9 Tryz.f9 rfl rfl rfl rfl rfl rfl rfl ⟨rfl, rfl, rfl, rfl, rfl⟩ rfl rfl rfl rfl rfl (by kernel_rfl) Tryz.func9 (by kernel_rfl)
    (of_decide_eq_true (by kernel_rfl)) (by unfold Func.isWrapper; first | (rw [if_pos (by decide +kernel)]; kernel_rfl) | (rw [if_neg (by decide +kernel)]; exact ⟨rfl, rfl⟩))
    (fun os started H enc _ => lifted os started H enc)
theorem proved : Rows.HcallMovesSaid := over
#print axioms proved
end Go.Proofs.YtphljkplokjonaaGreat.hcallMoves
