/- SpaceTlb's words: what a space answers to an act, as bytes. -/
import Derived.Test.YtmlfcfbblfcpdaaSlw
import Derived.Test.YtmlfcfbblfcpdaaSpi
namespace Go.Proofs.Ytmlfcfbblfcpdaa.Sp
open Go Go.Sl Go.RowKit Go.Proofs Go.Proofs.Ytmlfcfbblfcpdaa.T Go.Proofs.Ytmlfcfbblfcpdaa.Me Go.Proofs.Ytmlfcfbblfcpdaa.Pe Go.Proofs.Ytmlfcfbblfcpdaa.Pg
set_option linter.unusedVariables false
set_option linter.unusedSimpArgs false
set_option maxRecDepth 100000
/-- What Perm answers. -/
def permO (o : Ob) (k : Nat) (p : Int) : Int := match vI o k p with | some x => x.1 | none => 0
/-- What a space answers to an act, and what becomes of it. -/
def tellO (qk : Int) (op : SOp) (k : Nat) (o : Ob) : (Int × Int × List UInt8) × Ob :=
  if op.Kind = 0 then ((0, (mapO qk o k op.Page op.Perm).1, []), (mapO qk o k op.Page op.Perm).2)
  else if op.Kind = 1 then ((0, (unmapO o k op.Page).1, []), (unmapO o k op.Page).2)
  else if op.Kind = 2 then ((0, (protO o k op.Page op.Perm).1, []), (protO o k op.Page op.Perm).2)
  else if op.Kind = 3 then ((((readO o k op.Addr.toNat op.Size (Go.bits .and .i64 op.Perm 7)).1 : Nat), (readO o k op.Addr.toNat op.Size (Go.bits .and .i64 op.Perm 7)).2, []), o)
  else if op.Kind = 4 then ((0, (writeO o k op.Addr.toNat op.Size op.V.toNat).1, []), (writeO o k op.Addr.toNat op.Size op.V.toNat).2)
  else if op.Kind = 5 then ((0, (inO o k op.Addr.toNat op.Size).2, (inO o k op.Addr.toNat op.Size).1), o)
  else if op.Kind = 6 then ((0, (outR o k op.Addr.toNat op.B).1, []), (outR o k op.Addr.toNat op.B).2)
  else ((IntKind.u64.wrap (permO o k op.Page), 0, []), o)
def byteI (x : Int) : UInt8 := UInt8.ofNat (IntKind.u8.wrap x).toNat
theorem byteI_val (x : Int) : ((byteI x).toNat : Int) = IntKind.u8.wrap x := by
  unfold byteI
  rw [IntKind.wrap_u8]
  have h1 := Int.emod_nonneg x (show (256 : Int) ≠ 0 by decide)
  have h2 := Int.emod_lt_of_pos x (show (0 : Int) < 256 by decide)
  rw [UInt8.toNat_ofNat']
  omega
/-- The first bytes of an answer. -/
def outB (n e : Int) : Nat → List UInt8
  | 0 => []
  | i + 1 => outB n e i ++ [byteI (n / 2 ^ (8 * i)), byteI (e / 2 ^ (8 * i))]
theorem outB_len (n e : Int) : ∀ i, (outB n e i).length = 2 * i
  | 0 => rfl
  | i + 1 => by unfold outB; rw [List.length_append, outB_len n e i]; simp; omega
/-- An answer, as bytes. -/
def ansB (x : Int × Int × List UInt8) : List UInt8 := outB x.1 x.2.1 8 ++ x.2.2
theorem inO_len (o : Ob) (k ad : Nat) (n : Int) : (inO o k ad n).1.length ≤ 4096 := by
  unfold inO
  split
  · simp
  · split
    · rw [bufI_len]; omega
    · simp
section
variable (W0 : World) (Fr : List HProp)
variable {n : Nat} {qs : List Int} {rt : Nat → Option Nat} {o : Ob} {c : Nat} {σ : St} {k r s m f t : Nat}
theorem permO_spec (L : Lk n qs rt o c σ) (hk : rt k = some r) (p : Int) : Ctr Try.prog W0 70 [.pointer (some ⟨s, 0, none⟩), .int .i64 p] (WG m f t n qs σ (sb s k r m f t :: Fr)) (fun _ : Unit => True) (fun _ => .int .i64 (permO o k p)) (fun _ => WG m f t n qs σ (sb s k r m f t :: Fr)) := by
  obtain ⟨A, rfl, h0, G, rfl, hcc⟩ := L
  have h := perm_spec W0 Fr (s := s) (m := m) (f := f) (t := t) (σ := σ) (qs := qs) G.rep hk p
  have e : (match vp A k p with | some x => (x.2 : Int) | none => 0) = permO (obs A σ) k p := by
    unfold permO vI vp
    by_cases hp : 0 ≤ p ∧ p < 4096
    · rw [if_pos hp, if_pos hp, vw_obs]; cases A.pg k p.toNat <;> rfl
    · rw [if_neg hp, if_neg hp]
  rw [← e]
  exact h
set_option maxHeartbeats 4000000 in
theorem tells_spec {op : SOp} (hop : op.OK W0) (L : Lk n qs rt o c σ) (hq : ∀ q ∈ qs, 0 ≤ q ∧ q ≤ 1024) {qk : Int} (hqk : qs[k]? = some qk) (hk : rt k = some r) (hb : c < 1000000000000000000 - 8192) :
    Ctr Try.prog W0 34 [.pointer (some ⟨s, 0, none⟩), .agg op.cells.toArray] (WG m f t n qs σ (sb s k r m f t :: old W0 :: Fr))
      (fun σ' : St => Lk n qs rt (tellO qk op k o).2 (c + 8192) σ') (fun _ => .string (strOf (ansB (tellO qk op k o).1))) (fun σ' => WG m f t n qs σ' (sb s k r m f t :: old W0 :: Fr)) := by
  obtain ⟨hA0, hA1⟩ := wf_u32 hop.Addr
  obtain ⟨hV0, hV1⟩ := wf_u64 hop.V
  obtain ⟨v, hv⟩ : ∃ v : Nat, op.V = (v : Int) := ⟨op.V.toNat, by omega⟩
  obtain ⟨ad, had⟩ : ∃ v : Nat, op.Addr = (v : Int) := ⟨op.Addr.toNat, by omega⟩
  refine Ctr.of_body Try.func34 rfl Try.ntmps34 rfl ?_
  refine CG.seq ?_
  refine CG.region ?_
  refine OG.effd (Eff.box rfl) rfl ?_
  rintro b3 -
  refine OG.yield (Yield.assign rfl) rfl ?_
  refine OG.nil ?_
  refine QG.then ?_
  refine CG.seq ?_
  refine CG.region ?_
  refine OG.yield (Yield.assign rfl) rfl ?_
  refine OG.yield (Yield.assign rfl) rfl ?_
  refine OG.nil ?_
  refine QG.then ?_
  refine CG.seq ?_
  refine CG.region ?_
  refine OG.yield (Yield.assign rfl) rfl ?_
  refine OG.nil ?_
  refine QG.then ?_
  refine CG.cut (fun x : Int × Int × BA => (x.1, x.2.1, x.2.2.b) = (tellO qk op k o).1 ∧ x.2.2.b.length ≤ 4096 ∧ Lk n qs rt (tellO qk op k o).2 (c + 8192) x.2.2.σ) (fun x => [(5, .int .u64 x.1), (6, .int .i64 x.2.1), (7, .slice x.2.2.a x.2.2.b.length x.2.2.c)]) (fun x => oby 5 x.2.2.a x.2.2.c x.2.2.b :: WG m f t n qs x.2.2.σ (sb s k r m f t :: old W0 :: Fr)) ?_ ?_
  · skip
    refine CG.seq ?_
    refine CG.region ?_
    refine OG.yield (Yield.fieldAddr fa78_0 rfl) rfl ?_
    refine OG.yield (Yield.load ti3 rfl (by first | exact Cel.of_blk (by repeat (first | exact Ext.here | apply Ext.there)) rfl | exact (hrow (by repeat (first | exact Ext.here | apply Ext.there))) _ _ rfl)) rfl ?_
    refine OG.nil ?_
    refine QG.then ?_
    refine CG.block ?_
    refine CG.seq ?_
    refine CG.region ?_
    refine OG.yield (by first | exact Yield.as (Yield.eql rfl rfl) (bT (by omega)) | exact Yield.as (Yield.eql rfl rfl) (bF (by omega)) | exact Yield.eql rfl rfl) rfl ?_
    refine OG.yield (Yield.assign rfl) rfl ?_
    refine OG.nil ?_
    refine QG.then ?_
    refine CG.cond rfl (fun hc => ?_) (fun hc => ?_)
    · try replace hc := of_decide_eq_true hc
      refine CG.region ?_
      refine OG.yield (Yield.move rfl) rfl ?_
      refine OG.yield (Yield.fieldAddr fa78_2 rfl) rfl ?_
      refine OG.yield (Yield.load ti3 rfl (by first | exact Cel.of_blk (by repeat (first | exact Ext.here | apply Ext.there)) rfl | exact (hrow (by repeat (first | exact Ext.here | apply Ext.there))) _ _ rfl)) rfl ?_
      refine OG.yield (Yield.fieldAddr fa78_3 rfl) rfl ?_
      refine OG.yield (Yield.load ti3 rfl (by first | exact Cel.of_blk (by repeat (first | exact Ext.here | apply Ext.there)) rfl | exact (hrow (by repeat (first | exact Ext.here | apply Ext.there))) _ _ rfl)) rfl ?_
      refine OG.callo call25 rfl ((by repeat (first | exact Imp.refl _ | exact Imp.none _ | apply Imp.pull (by repeat (first | exact Ext.here | apply Ext.there)) | apply Imp.trans Imp.drop))) (map_spec W0 _ (s := s) (m := m) (f := f) (t := t) (k := k) (r := r) L hq hqk hk op.Page op.Perm) rfl ?_
      rintro σ2 L2
      refine OG.yield (Yield.assign rfl) rfl ?_
      refine OG.nil ?_
      refine QG.block_normal ?_
      have hT : tellO qk op k o = ((0, (mapO qk o k op.Page op.Perm).1, []), (mapO qk o k op.Page op.Perm).2) := by unfold tellO; rw [if_pos hc]
      exact QG.mid (0, (mapO qk o k op.Page op.Perm).1, (⟨none, 0, [], σ2⟩ : BA)) ⟨by rw [hT], by simp, by rw [hT]; exact Lk.mono L2 (by omega)⟩ (by repeat (first | exact Env.sub_nil _ | refine Env.sub_cons rfl ?_)) (Imp.trans (oby_nil (E := 5)) (by repeat (first | exact Imp.refl _ | exact Imp.none _ | apply Imp.pull (by repeat (first | exact Ext.here | apply Ext.there)) | apply Imp.trans Imp.drop)))
    · try replace hc := of_decide_eq_false hc
      have k0 : ¬ op.Kind = 0 := hc
      refine CG.seq ?_
      refine CG.region ?_
      refine OG.yield (by first | exact Yield.as (Yield.eql rfl rfl) (bT (by omega)) | exact Yield.as (Yield.eql rfl rfl) (bF (by omega)) | exact Yield.eql rfl rfl) rfl ?_
      refine OG.yield (Yield.assign rfl) rfl ?_
      refine OG.nil ?_
      refine QG.then ?_
      refine CG.cond rfl (fun hc => ?_) (fun hc => ?_)
      · try replace hc := of_decide_eq_true hc
        refine CG.region ?_
        refine OG.yield (Yield.move rfl) rfl ?_
        refine OG.yield (Yield.fieldAddr fa78_2 rfl) rfl ?_
        refine OG.yield (Yield.load ti3 rfl (by first | exact Cel.of_blk (by repeat (first | exact Ext.here | apply Ext.there)) rfl | exact (hrow (by repeat (first | exact Ext.here | apply Ext.there))) _ _ rfl)) rfl ?_
        refine OG.callo call26 rfl ((by repeat (first | exact Imp.refl _ | exact Imp.none _ | apply Imp.pull (by repeat (first | exact Ext.here | apply Ext.there)) | apply Imp.trans Imp.drop))) (unmap_spec W0 _ (s := s) (m := m) (f := f) (t := t) (k := k) (r := r) L hqk hk op.Page) rfl ?_
        rintro σ2 L2
        refine OG.yield (Yield.assign rfl) rfl ?_
        refine OG.nil ?_
        refine QG.block_normal ?_
        have hT : tellO qk op k o = ((0, (unmapO o k op.Page).1, []), (unmapO o k op.Page).2) := by unfold tellO; rw [if_neg k0, if_pos hc]
        exact QG.mid (0, (unmapO o k op.Page).1, (⟨none, 0, [], σ2⟩ : BA)) ⟨by rw [hT], by simp, by rw [hT]; exact Lk.mono L2 (by omega)⟩ (by repeat (first | exact Env.sub_nil _ | refine Env.sub_cons rfl ?_)) (Imp.trans (oby_nil (E := 5)) (by repeat (first | exact Imp.refl _ | exact Imp.none _ | apply Imp.pull (by repeat (first | exact Ext.here | apply Ext.there)) | apply Imp.trans Imp.drop)))
      · try replace hc := of_decide_eq_false hc
        have k1 : ¬ op.Kind = 1 := hc
        refine CG.seq ?_
        refine CG.region ?_
        refine OG.yield (by first | exact Yield.as (Yield.eql rfl rfl) (bT (by omega)) | exact Yield.as (Yield.eql rfl rfl) (bF (by omega)) | exact Yield.eql rfl rfl) rfl ?_
        refine OG.yield (Yield.assign rfl) rfl ?_
        refine OG.nil ?_
        refine QG.then ?_
        refine CG.cond rfl (fun hc => ?_) (fun hc => ?_)
        · try replace hc := of_decide_eq_true hc
          refine CG.region ?_
          refine OG.yield (Yield.move rfl) rfl ?_
          refine OG.yield (Yield.fieldAddr fa78_2 rfl) rfl ?_
          refine OG.yield (Yield.load ti3 rfl (by first | exact Cel.of_blk (by repeat (first | exact Ext.here | apply Ext.there)) rfl | exact (hrow (by repeat (first | exact Ext.here | apply Ext.there))) _ _ rfl)) rfl ?_
          refine OG.yield (Yield.fieldAddr fa78_3 rfl) rfl ?_
          refine OG.yield (Yield.load ti3 rfl (by first | exact Cel.of_blk (by repeat (first | exact Ext.here | apply Ext.there)) rfl | exact (hrow (by repeat (first | exact Ext.here | apply Ext.there))) _ _ rfl)) rfl ?_
          refine OG.callo call74 rfl ((by repeat (first | exact Imp.refl _ | exact Imp.none _ | apply Imp.pull (by repeat (first | exact Ext.here | apply Ext.there)) | apply Imp.trans Imp.drop))) (protect_spec W0 _ (s := s) (m := m) (f := f) (t := t) (k := k) (r := r) L hk op.Page op.Perm) rfl ?_
          rintro σ2 L2
          refine OG.yield (Yield.assign rfl) rfl ?_
          refine OG.nil ?_
          refine QG.block_normal ?_
          have hT : tellO qk op k o = ((0, (protO o k op.Page op.Perm).1, []), (protO o k op.Page op.Perm).2) := by unfold tellO; rw [if_neg k0, if_neg k1, if_pos hc]
          exact QG.mid (0, (protO o k op.Page op.Perm).1, (⟨none, 0, [], σ2⟩ : BA)) ⟨by rw [hT], by simp, by rw [hT]; exact Lk.mono L2 (by omega)⟩ (by repeat (first | exact Env.sub_nil _ | refine Env.sub_cons rfl ?_)) (Imp.trans (oby_nil (E := 5)) (by repeat (first | exact Imp.refl _ | exact Imp.none _ | apply Imp.pull (by repeat (first | exact Ext.here | apply Ext.there)) | apply Imp.trans Imp.drop)))
        · try replace hc := of_decide_eq_false hc
          have k2 : ¬ op.Kind = 2 := hc
          refine CG.seq ?_
          refine CG.region ?_
          refine OG.yield (by first | exact Yield.as (Yield.eql rfl rfl) (bT (by omega)) | exact Yield.as (Yield.eql rfl rfl) (bF (by omega)) | exact Yield.eql rfl rfl) rfl ?_
          refine OG.yield (Yield.assign rfl) rfl ?_
          refine OG.nil ?_
          refine QG.then ?_
          refine CG.cond rfl (fun hc => ?_) (fun hc => ?_)
          · try replace hc := of_decide_eq_true hc
            refine CG.region ?_
            refine OG.yield (Yield.move rfl) rfl ?_
            refine OG.yield (Yield.fieldAddr fa78_4 rfl) rfl ?_
            refine OG.yield (Yield.as (Yield.load (v := .int .u32 op.Addr) ti32 rfl (Cel.of_blk (by repeat (first | exact Ext.here | apply Ext.there)) rfl)) (v' := .int .u32 ad) (by rw [had])) rfl ?_
            refine OG.yield (Yield.fieldAddr fa78_5 rfl) rfl ?_
            refine OG.yield (Yield.load ti3 rfl (by first | exact Cel.of_blk (by repeat (first | exact Ext.here | apply Ext.there)) rfl | exact (hrow (by repeat (first | exact Ext.here | apply Ext.there))) _ _ rfl)) rfl ?_
            refine OG.yield (Yield.fieldAddr fa78_3 rfl) rfl ?_
            refine OG.yield (Yield.load ti3 rfl (by first | exact Cel.of_blk (by repeat (first | exact Ext.here | apply Ext.there)) rfl | exact (hrow (by repeat (first | exact Ext.here | apply Ext.there))) _ _ rfl)) rfl ?_
            refine OG.callo call28 rfl ((by repeat (first | exact Imp.refl _ | exact Imp.none _ | apply Imp.pull (by repeat (first | exact Ext.here | apply Ext.there)) | apply Imp.trans Imp.drop))) (read_spec W0 _ (s := s) (m := m) (f := f) (t := t) (k := k) (r := r) L hk (by omega) (ad := ad) (by omega) op.Size op.Perm) rfl ?_
            rintro σ2 L2
            refine OG.yield (Yield.move rfl) rfl ?_
            refine OG.yield (Yield.extract rfl rfl) rfl ?_
            refine OG.yield (Yield.extract rfl rfl) rfl ?_
            refine OG.yield (Yield.assign rfl) rfl ?_
            refine OG.yield (Yield.assign rfl) rfl ?_
            refine OG.nil ?_
            refine QG.block_normal ?_
            have hT : tellO qk op k o = (((((readO o k ad op.Size (Go.bits .and .i64 op.Perm 7)).1 : Nat) : Int), (readO o k ad op.Size (Go.bits .and .i64 op.Perm 7)).2, []), o) := by unfold tellO; rw [if_neg k0, if_neg k1, if_neg k2, if_pos hc]; rw [had, Int.toNat_natCast]
            exact QG.mid ((((readO o k ad op.Size (Go.bits .and .i64 op.Perm 7)).1 : Nat) : Int), (readO o k ad op.Size (Go.bits .and .i64 op.Perm 7)).2, (⟨none, 0, [], σ2⟩ : BA)) ⟨by rw [hT], by simp, by rw [hT]; exact Lk.mono L2 (by omega)⟩ (by repeat (first | exact Env.sub_nil _ | refine Env.sub_cons rfl ?_)) (Imp.trans (oby_nil (E := 5)) (by repeat (first | exact Imp.refl _ | exact Imp.none _ | apply Imp.pull (by repeat (first | exact Ext.here | apply Ext.there)) | apply Imp.trans Imp.drop)))
          · try replace hc := of_decide_eq_false hc
            have k3 : ¬ op.Kind = 3 := hc
            refine CG.seq ?_
            refine CG.region ?_
            refine OG.yield (by first | exact Yield.as (Yield.eql rfl rfl) (bT (by omega)) | exact Yield.as (Yield.eql rfl rfl) (bF (by omega)) | exact Yield.eql rfl rfl) rfl ?_
            refine OG.yield (Yield.assign rfl) rfl ?_
            refine OG.nil ?_
            refine QG.then ?_
            refine CG.cond rfl (fun hc => ?_) (fun hc => ?_)
            · try replace hc := of_decide_eq_true hc
              refine CG.region ?_
              refine OG.yield (Yield.move rfl) rfl ?_
              refine OG.yield (Yield.fieldAddr fa78_4 rfl) rfl ?_
              refine OG.yield (Yield.as (Yield.load (v := .int .u32 op.Addr) ti32 rfl (Cel.of_blk (by repeat (first | exact Ext.here | apply Ext.there)) rfl)) (v' := .int .u32 ad) (by rw [had])) rfl ?_
              refine OG.yield (Yield.fieldAddr fa78_5 rfl) rfl ?_
              refine OG.yield (Yield.load ti3 rfl (by first | exact Cel.of_blk (by repeat (first | exact Ext.here | apply Ext.there)) rfl | exact (hrow (by repeat (first | exact Ext.here | apply Ext.there))) _ _ rfl)) rfl ?_
              refine OG.yield (Yield.fieldAddr fa78_6 rfl) rfl ?_
              refine OG.yield (Yield.as (Yield.load (v := .int .u64 op.V) ti29 rfl (Cel.of_blk (by repeat (first | exact Ext.here | apply Ext.there)) rfl)) (v' := .int .u64 v) (by rw [hv])) rfl ?_
              refine OG.callo call27 rfl ((by repeat (first | exact Imp.refl _ | exact Imp.none _ | apply Imp.pull (by repeat (first | exact Ext.here | apply Ext.there)) | apply Imp.trans Imp.drop))) (write_spec W0 _ (s := s) (m := m) (f := f) (t := t) (k := k) (r := r) L hk (by omega) (ad := ad) (v := v) (by omega) (by omega) op.Size) rfl ?_
              rintro σ2 L2
              refine OG.yield (Yield.assign rfl) rfl ?_
              refine OG.nil ?_
              refine QG.block_normal ?_
              have hT : tellO qk op k o = ((0, (writeO o k ad op.Size v).1, []), (writeO o k ad op.Size v).2) := by unfold tellO; rw [if_neg k0, if_neg k1, if_neg k2, if_neg k3, if_pos hc]; rw [had, hv, Int.toNat_natCast, Int.toNat_natCast]
              exact QG.mid (0, (writeO o k ad op.Size v).1, (⟨none, 0, [], σ2⟩ : BA)) ⟨by rw [hT], by simp, by rw [hT]; exact Lk.mono L2 (by omega)⟩ (by repeat (first | exact Env.sub_nil _ | refine Env.sub_cons rfl ?_)) (Imp.trans (oby_nil (E := 5)) (by repeat (first | exact Imp.refl _ | exact Imp.none _ | apply Imp.pull (by repeat (first | exact Ext.here | apply Ext.there)) | apply Imp.trans Imp.drop)))
            · try replace hc := of_decide_eq_false hc
              have k4 : ¬ op.Kind = 4 := hc
              refine CG.seq ?_
              refine CG.region ?_
              refine OG.yield (by first | exact Yield.as (Yield.eql rfl rfl) (bT (by omega)) | exact Yield.as (Yield.eql rfl rfl) (bF (by omega)) | exact Yield.eql rfl rfl) rfl ?_
              refine OG.yield (Yield.assign rfl) rfl ?_
              refine OG.nil ?_
              refine QG.then ?_
              refine CG.cond rfl (fun hc => ?_) (fun hc => ?_)
              · try replace hc := of_decide_eq_true hc
                refine CG.region ?_
                refine OG.yield (Yield.move rfl) rfl ?_
                refine OG.yield (Yield.fieldAddr fa78_4 rfl) rfl ?_
                refine OG.yield (Yield.as (Yield.load (v := .int .u32 op.Addr) ti32 rfl (Cel.of_blk (by repeat (first | exact Ext.here | apply Ext.there)) rfl)) (v' := .int .u32 ad) (by rw [had])) rfl ?_
                refine OG.yield (Yield.fieldAddr fa78_5 rfl) rfl ?_
                refine OG.yield (Yield.load ti3 rfl (by first | exact Cel.of_blk (by repeat (first | exact Ext.here | apply Ext.there)) rfl | exact (hrow (by repeat (first | exact Ext.here | apply Ext.there))) _ _ rfl)) rfl ?_
                refine OG.callo call75 rfl ((by repeat (first | exact Imp.refl _ | exact Imp.none _ | apply Imp.pull (by repeat (first | exact Ext.here | apply Ext.there)) | apply Imp.trans Imp.drop))) (in_spec W0 _ (s := s) (m := m) (f := f) (t := t) (k := k) (r := r) L hk (by omega) (ad := ad) (by omega) op.Size) rfl ?_
                rintro ⟨ia, ic, ib, σ2⟩ ⟨hib, L2⟩
                dsimp only at hib L2 ⊢
                refine OG.yield (Yield.move rfl) rfl ?_
                refine OG.yield (Yield.extract rfl rfl) rfl ?_
                refine OG.yield (Yield.extract rfl rfl) rfl ?_
                refine OG.yield (Yield.assign rfl) rfl ?_
                refine OG.yield (Yield.assign rfl) rfl ?_
                refine OG.nil ?_
                refine QG.block_normal ?_
                have hT : tellO qk op k o = ((0, (inO o k ad op.Size).2, (inO o k ad op.Size).1), o) := by unfold tellO; rw [if_neg k0, if_neg k1, if_neg k2, if_neg k3, if_neg k4, if_pos hc]; rw [had, Int.toNat_natCast]
                exact QG.mid (0, (inO o k ad op.Size).2, (⟨ia, ic, ib, σ2⟩ : BA)) ⟨by rw [hT, hib], by rw [hib]; exact inO_len _ _ _ _, by rw [hT]; exact Lk.mono L2 (by omega)⟩ (by repeat (first | exact Env.sub_nil _ | refine Env.sub_cons rfl ?_)) (by repeat (first | exact Imp.refl _ | exact Imp.none _ | apply Imp.pull (by repeat (first | exact Ext.here | apply Ext.there)) | apply Imp.trans Imp.drop))
              · try replace hc := of_decide_eq_false hc
                have k5 : ¬ op.Kind = 5 := hc
                refine CG.seq ?_
                refine CG.region ?_
                refine OG.yield (by first | exact Yield.as (Yield.eql rfl rfl) (bT (by omega)) | exact Yield.as (Yield.eql rfl rfl) (bF (by omega)) | exact Yield.eql rfl rfl) rfl ?_
                refine OG.yield (Yield.assign rfl) rfl ?_
                refine OG.nil ?_
                refine QG.then ?_
                refine CG.cond rfl (fun hc => ?_) (fun hc => ?_)
                · try replace hc := of_decide_eq_true hc
                  refine CG.draw (.look 0 0 (.look 1 0 (.look 2 0 (.look 4 0 (.look 5 0 (.eff1 3 false (.eff1 6 false (.eff1 7 false (.look 8 1 (.done)))))))))) [3, 6, 7] [] ([blk b3 op.cells 78]) ([]) mixed (by kernel_rfl) ((by repeat (first | exact Imp.refl _ | exact Imp.none _ | apply Imp.pull (by repeat (first | exact Ext.here | apply Ext.there)) | apply Imp.trans Imp.drop))) (Imp.none _) ?_
                  refine DG.look rfl rfl (Yield.move rfl) rfl ?_
                  refine DG.look rfl rfl (Yield.fieldAddr fa78_4 rfl) rfl ?_
                  refine DG.look rfl rfl (Yield.as (Yield.load (v := .int .u32 op.Addr) ti32 rfl (Cel.of_blk (by repeat (first | exact Ext.here | apply Ext.there)) rfl)) (v' := .int .u32 ad) (by rw [had])) rfl ?_
                  refine DG.look rfl rfl (Yield.fieldAddr fa78_7 rfl) rfl ?_
                  refine DG.look rfl rfl (Yield.load ti73 rfl (by first | exact Cel.of_blk (by repeat (first | exact Ext.here | apply Ext.there)) rfl | exact (hrow (by repeat (first | exact Ext.here | apply Ext.there))) _ _ rfl)) rfl ?_
                  refine DG.eff1 ?_
                  refine Chg.eff rfl rfl (Eff.lit0 Try.underlying73 ti5 rfl) rfl (fun _ => (by repeat (first | exact Imp.refl _ | exact Imp.none _ | apply Imp.pull (by repeat (first | exact Ext.here | apply Ext.there)) | apply Imp.trans Imp.drop))) (fun _ => Imp.refl _) (fun _ => (by repeat (first | exact Imp.refl _ | exact Imp.none _ | apply Imp.pull (by repeat (first | exact Ext.here | apply Ext.there)) | apply Imp.trans Imp.drop))) ?_
                  rintro b78 -
                  refine DG.eff1 ?_
                  refine Chg.eff rfl rfl (Eff.appendB0 (ys := op.B) rfl rfl rfl Try.underlying73 Try.underlying73 ti5 (by decide) (by repeat (first | exact Foc.here | apply Foc.there)) (hop.B.old (by repeat (first | exact Ext.here | apply Ext.there))) (by have := hop.Bm; unfold reachBytes at this; omega)) rfl (fun _ => (by repeat (first | exact Imp.refl _ | exact Imp.none _ | apply Imp.pull (by repeat (first | exact Ext.here | apply Ext.there)) | apply Imp.trans Imp.drop))) (fun _ => Imp.refl _) (fun _ => (by repeat (first | exact Imp.refl _ | exact Imp.none _ | apply Imp.pull (by repeat (first | exact Ext.here | apply Ext.there)) | apply Imp.trans Imp.drop))) ?_
                  rintro ⟨a81, c81⟩ -
                  refine DG.eff1 ?_
                  refine Chg.callo rfl rfl call76 rfl ((by repeat (first | exact Imp.refl _ | exact Imp.none _ | apply Imp.pull (by repeat (first | exact Ext.here | apply Ext.there)) | apply Imp.trans Imp.drop))) (out_of W0 _ (s := s) (m := m) (f := f) (t := t) (k := k) (r := r) (ba := a81) (bc := c81) (b := op.B) (by exact RdB.of_osl (E := 5) (by repeat (first | exact Ext.here | apply Ext.there)) rfl rfl) L hk (by omega) (ad := ad) (by omega)) rfl (fun _ => (by repeat (first | exact Imp.refl _ | exact Imp.none _ | apply Imp.pull (by repeat (first | exact Ext.here | apply Ext.there)) | apply Imp.trans Imp.drop))) (fun _ => Imp.refl _) (fun _ => (by repeat (first | exact Imp.refl _ | exact Imp.none _ | apply Imp.pull (by repeat (first | exact Ext.here | apply Ext.there)) | apply Imp.trans Imp.drop))) ?_
                  rintro σ2 L2
                  refine DG.look rfl rfl (Yield.assign rfl) rfl ?_
                  refine DG.done ?_
                  refine QG.block_normal ?_
                  have hT : tellO qk op k o = ((0, (outR o k ad op.B).1, []), (outR o k ad op.B).2) := by unfold tellO; rw [if_neg k0, if_neg k1, if_neg k2, if_neg k3, if_neg k4, if_neg k5, if_pos hc]; rw [had, Int.toNat_natCast]
                  exact QG.mid (0, (outR o k ad op.B).1, (⟨none, 0, [], σ2⟩ : BA)) ⟨by rw [hT], by simp, by rw [hT]; exact Lk.mono L2 (by omega)⟩ (by repeat (first | exact Env.sub_nil _ | refine Env.sub_cons rfl ?_)) (Imp.trans (oby_nil (E := 5)) (by repeat (first | exact Imp.refl _ | exact Imp.none _ | apply Imp.pull (by repeat (first | exact Ext.here | apply Ext.there)) | apply Imp.trans Imp.drop)))
                · try replace hc := of_decide_eq_false hc
                  have k6 : ¬ op.Kind = 6 := hc
                  refine CG.region ?_
                  refine OG.yield (Yield.move rfl) rfl ?_
                  refine OG.yield (Yield.fieldAddr fa78_2 rfl) rfl ?_
                  refine OG.yield (Yield.load ti3 rfl (by first | exact Cel.of_blk (by repeat (first | exact Ext.here | apply Ext.there)) rfl | exact (hrow (by repeat (first | exact Ext.here | apply Ext.there))) _ _ rfl)) rfl ?_
                  refine OG.callo call70 rfl ((by repeat (first | exact Imp.refl _ | exact Imp.none _ | apply Imp.pull (by repeat (first | exact Ext.here | apply Ext.there)) | apply Imp.trans Imp.drop))) (permO_spec W0 _ (s := s) (m := m) (f := f) (t := t) (k := k) (r := r) L hk op.Page) rfl ?_
                  rintro ⟨⟩ -
                  refine OG.yield (by first | exact Yield.conv Try.underlying29 rfl rfl (wu64 (by omega) (by omega)) | exact Yield.conv Try.underlying29 rfl rfl rfl) rfl ?_
                  refine OG.yield (Yield.assign rfl) rfl ?_
                  refine OG.nil ?_
                  refine QG.block_normal ?_
                  have hT : tellO qk op k o = ((IntKind.u64.wrap (permO o k op.Page), 0, []), o) := by unfold tellO; rw [if_neg k0, if_neg k1, if_neg k2, if_neg k3, if_neg k4, if_neg k5, if_neg k6]
                  exact QG.mid (IntKind.u64.wrap (permO o k op.Page), 0, (⟨none, 0, [], σ⟩ : BA)) ⟨by rw [hT], by simp, by rw [hT]; exact Lk.mono L (by omega)⟩ (by repeat (first | exact Env.sub_nil _ | refine Env.sub_cons rfl ?_)) (Imp.trans (oby_nil (E := 5)) (by repeat (first | exact Imp.refl _ | exact Imp.none _ | apply Imp.pull (by repeat (first | exact Ext.here | apply Ext.there)) | apply Imp.trans Imp.drop)))
  rintro ⟨n', e', z⟩ ⟨hT, hbl, L2⟩
  dsimp only at hT hbl L2 ⊢
  refine CG.seq ?_
  refine CG.region ?_
  refine OG.yield (Yield.assign rfl) rfl ?_
  refine OG.nil ?_
  refine QG.then ?_
  refine CG.seq ?_
  refine CG.seq ?_
  refine CG.region ?_
  refine OG.yield (Yield.assign rfl) rfl ?_
  refine OG.nil ?_
  refine QG.then ?_
  refine CG.block ?_
  refine CG.loop (fun y : Nat × Option Addr × Nat => y.1 ≤ 8) (fun y => [(5, .int .u64 n'), (6, .int .i64 e'), (7, .slice z.a z.b.length z.c), (8, .slice y.2.1 (outB n' e' y.1).length y.2.2), (9, .int .i64 y.1)]) (fun y => oby 5 y.2.1 y.2.2 (outB n' e' y.1) :: oby 5 z.a z.c z.b :: WG m f t n qs z.σ (sb s k r m f t :: old W0 :: Fr)) (fun y => 8 - y.1) (0, none, 0) (Nat.zero_le _) (by repeat (first | exact Env.sub_nil _ | refine Env.sub_cons rfl ?_)) (Imp.trans (oby_nil (E := 5)) (by repeat (first | exact Imp.refl _ | exact Imp.none _ | apply Imp.pull (by repeat (first | exact Ext.here | apply Ext.there)) | apply Imp.trans Imp.drop))) ?_
  rintro ⟨i, ya, yc⟩ hi
  dsimp only at hi ⊢
  refine CG.seq ?_
  refine CG.seq ?_
  refine CG.region ?_
  refine OG.yield (Yield.move rfl) rfl ?_
  refine OG.yield (by first | exact Yield.as (Yield.lss rfl rfl) (bT (by omega)) | exact Yield.as (Yield.lss rfl rfl) (bF (by omega)) | exact Yield.lss rfl rfl) rfl ?_
  refine OG.nil ?_
  refine QG.then ?_
  refine CG.cond rfl (fun hc => ?_) (fun hc => ?_)
  · try replace hc := of_decide_eq_true hc
    refine CG.skip ?_
    refine QG.then ?_
    refine CG.seq ?_
    refine CG.block ?_
    refine CG.draw (.look 0 0 (.look 1 1 (.look 2 1 (.look 3 1 (.look 4 1 (.look 5 1 (.look 6 1 (.look 7 1 (.look 8 1 (.look 9 1 (.look 10 1 (.eff1 11 false (.eff1 12 false (.look 13 1 (.done))))))))))))))) [11, 12] [] ([]) ([]) mixed (by kernel_rfl) (Imp.none _) (Imp.none _) ?_
    refine DG.look rfl rfl (Yield.move rfl) rfl ?_
    refine DG.look rfl rfl (Yield.move rfl) rfl ?_
    refine DG.look rfl rfl (Yield.move rfl) rfl ?_
    refine DG.look rfl rfl (Yield.mul rfl rfl (w64 (by omega) (by omega))) rfl ?_
    refine DG.look rfl rfl (Yield.shr (m := 8 * i) (c := n' / 2 ^ (8 * i)) rfl rfl (by omega) (by simp only [IntKind.bits]; omega) rfl) rfl ?_
    refine DG.look rfl rfl (Yield.conv (c := ((byteI (n' / 2 ^ (8 * i))).toNat : Int)) Try.underlying5 rfl rfl (byteI_val _).symm) rfl ?_
    refine DG.look rfl rfl (Yield.move rfl) rfl ?_
    refine DG.look rfl rfl (Yield.move rfl) rfl ?_
    refine DG.look rfl rfl (Yield.mul rfl rfl (w64 (by omega) (by omega))) rfl ?_
    refine DG.look rfl rfl (Yield.shr (m := 8 * i) (c := e' / 2 ^ (8 * i)) rfl rfl (by omega) (by simp only [IntKind.bits]; omega) rfl) rfl ?_
    refine DG.look rfl rfl (Yield.conv (c := ((byteI (e' / 2 ^ (8 * i))).toNat : Int)) Try.underlying5 rfl rfl (byteI_val _).symm) rfl ?_
    refine DG.eff1 ?_
    refine Chg.eff rfl rfl (Eff.lit [.tmp 92, .tmp 97] Try.underlying73 ti5 rfl rfl rfl rfl (by decide) (by simp [Value.cells]) (by simp [Value.cells]; rfl)) rfl (fun _ => (by repeat (first | exact Imp.refl _ | exact Imp.none _ | apply Imp.pull (by repeat (first | exact Ext.here | apply Ext.there)) | apply Imp.trans Imp.drop))) (fun _ => Imp.refl _) (fun _ => (by repeat (first | exact Imp.refl _ | exact Imp.none _ | apply Imp.pull (by repeat (first | exact Ext.here | apply Ext.there)) | apply Imp.trans Imp.drop))) ?_
    rintro b98 -
    refine DG.eff1 ?_
    refine Chg.eff rfl rfl (Eff.appendB (bs := outB n' e' i) (ys := [byteI (n' / 2 ^ (8 * i)), byteI (e' / 2 ^ (8 * i))]) rfl rfl rfl Try.underlying73 Try.underlying73 ti5 (by decide) (by repeat (first | exact Foc.here | apply Foc.there)) (SlR.of_osl_eq (E := 5) (a := some ⟨b98, 0, none⟩) (by repeat (first | exact Ext.here | apply Ext.there)) rfl rfl) (by rw [outB_len]; simp only [List.length_cons, List.length_nil]; omega)) rfl (fun _ => (by repeat (first | exact Imp.refl _ | exact Imp.none _ | apply Imp.pull (by repeat (first | exact Ext.here | apply Ext.there)) | apply Imp.trans Imp.drop))) (fun _ => Imp.refl _) (fun _ => (by repeat (first | exact Imp.refl _ | exact Imp.none _ | apply Imp.pull (by repeat (first | exact Ext.here | apply Ext.there)) | apply Imp.trans Imp.drop))) ?_
    rintro ⟨a99, c99⟩ -
    refine DG.look rfl rfl (Yield.assign rfl) rfl ?_
    refine DG.done ?_
    refine QG.block_normal ?_
    refine QG.then ?_
    refine CG.region ?_
    refine OG.yield (Yield.move rfl) rfl ?_
    refine OG.yield (Yield.add rfl rfl (w64 (by omega) (by omega))) rfl ?_
    refine OG.yield (Yield.assign rfl) rfl ?_
    refine OG.nil ?_
    exact QG.next (i + 1, a99, c99) (by simp only; omega) (by simp only; omega) (by repeat (first | exact Env.sub_nil _ | refine Env.sub_cons rfl ?_)) (by repeat (first | exact Imp.refl _ | exact Imp.none _ | apply Imp.pull (by repeat (first | exact Ext.here | apply Ext.there)) | apply Imp.trans Imp.drop))
  · try replace hc := of_decide_eq_false hc
    refine CG.exit ?_
    refine QG.pass_exit ?_
    refine QG.pass_exit ?_
    refine QG.block_exit ?_
    refine QG.then ?_
    refine CG.seq ?_
    refine CG.region ?_
    refine OG.yield (Yield.move rfl) rfl ?_
    refine OG.yield (Yield.toStr (bs := outB n' e' i) Try.underlying73 Try.underlying9 Try.underlying5 rfl (SlR.of_osl (E := 5) (a := ya) (by repeat (first | exact Ext.here | apply Ext.there)))) rfl ?_
    refine OG.yield (Yield.move rfl) rfl ?_
    refine OG.yield (Yield.toStr (bs := z.b) Try.underlying73 Try.underlying9 Try.underlying5 rfl (SlR.of_osl (E := 5) (a := z.a) (by repeat (first | exact Ext.here | apply Ext.there)))) rfl ?_
    refine OG.yield (Yield.str_cat rfl rfl (by rw [outB_len]; omega)) rfl ?_
    refine OG.yield (Yield.assign rfl) rfl ?_
    refine OG.nil ?_
    refine QG.then ?_
    refine CG.ret ?_
    obtain rfl : i = 8 := by omega
    exact QG.ret1 rfl rfl z.σ L2 (by rw [← hT]; rfl) (by repeat (first | exact Imp.refl _ | exact Imp.none _ | apply Imp.pull (by repeat (first | exact Ext.here | apply Ext.there)) | apply Imp.trans Imp.drop))
end
end Go.Proofs.Ytmlfcfbblfcpdaa.Sp
