/- HcallPages: a page that a call maps is empty, and one that it takes away is gone for good: the law returns true at every input and changes nothing that was there. No conditions. -/
import Derived.Test.YtphljkplokjonaaGreatPa4
import Derived.Test.YtphljkplokjonaaGreatRows
import Derived.OpenShut
set_option linter.unusedSimpArgs false
set_option linter.unusedVariables false
/- Calls of a partition: what each does. -/
namespace Go.Proofs.YtphljkplokjonaaGreat.Hc
open Go Go.Sl Go.RowKit Go.Proofs Go.Proofs.YtphljkplokjonaaGreat.T Go.Proofs.YtphljkplokjonaaGreat.Sp
set_option maxRecDepth 100000
abbrev w32 (n : Int) : Int := IntKind.u32.wrap n
abbrev mG (cl : Nat) (x : HP) (a b c rg : Nat) (cp ef : Int) (S : HS) (R : List Value) (qs : List Int) (σ : St) (Fr : List HProp) : List HProp := clB cl x a b c rg cp ef :: blk rg R 31 :: hG x S qs σ Fr
/-- What is known where a call begins. -/
structure HK (qs : List Int) (rt : Nat → Option Nat) (σ : St) (cc : Nat) (x : HP) (S : HS) (qk : Int) : Prop where
  L : Lk 64 qs rt S.o cc σ
  hq : ∀ q ∈ qs, 0 ≤ q ∧ q ≤ 1024
  hqk : qs[0]? = some qk
  hk : rt 0 = some x.r
  hc : cc ≤ 100000000000
  q : S.q < 256
  p : S.p < 256
  told : S.d.told.length ≤ 4294967296
/-- A method's contract: it comes to oc. -/
def Meth (W0 : World) (Fr : List HProp) (F : FuncId) (cl : Nat) (x : HP) (a b c rg : Nat) (S : HS) (R : List Value) (qs : List Int) (rt : Nat → Option Nat) (σ : St) (cc : Nat) (oc : Nat ⊕ MO) : Prop :=
  CtrX Tryz.prog W0 F [.pointer (some ⟨cl, 0, none⟩)] (mG cl x a b c rg 0 0 S R qs σ Fr)
    (fun y : St × MO => oc = .inr y.2 ∧ Lk 64 qs rt y.2.S.o (cc + 8192) y.1) (fun y => .int .u32 y.2.ans) (fun y => mG cl x a b c rg y.2.cp y.2.ef y.2.S y.2.R qs y.1 Fr)
    (fun y : St × Nat => oc = .inl y.2 ∧ Lk 64 qs rt S.o (cc + 8192) y.1) (fun y => .iface 235 (.int .i64 y.2)) (fun y => mG cl x a b c rg 0 0 S R qs y.1 Fr)
/-! ### outcomes -/
def ocMap (qk : Int) (S : HS) (R : List Value) (a b : Nat) : Nat ⊕ MO := let r := mapO qk S.o 0 a b; if r.1 = 0 then .inr ⟨0, 0, 0, { S with o := r.2 }, R⟩ else .inl (errC r.1)
def ocUnmap (S : HS) (R : List Value) (a : Nat) : Nat ⊕ MO := let r := unmapO S.o 0 a; if r.1 = 0 then .inr ⟨0, 0, 0, { S with o := r.2 }, R⟩ else .inl (errC r.1)
def ocProt (S : HS) (R : List Value) (a b : Nat) : Nat ⊕ MO := let r := protO S.o 0 a b; if r.1 = 0 then .inr ⟨0, 0, 0, { S with o := r.2 }, R⟩ else .inl (errC r.1)
def wrO (S : HS) (ds : B) : HS := { S with out := S.out ++ ds.take (64 - S.out.length) }
def ocWrite (S : HS) (R : List Value) (a b : Nat) : Nat ⊕ MO := if 64 < b then .inl 3 else let r := inO S.o 0 a b; if r.2 = 0 then .inr ⟨(min r.1.length (64 - S.out.length) : Nat), (min r.1.length (64 - S.out.length) : Nat), 0, wrO S r.1, R⟩ else .inl (errC r.2)
def ocRead (S : HS) (R : List Value) (a b : Nat) : Nat ⊕ MO := if 64 < b then .inl 3 else let r := outR S.o 0 a (S.inn.take b); if r.1 = 0 then .inr ⟨(S.inn.take b).length, (S.inn.take b).length, 0, { S with o := r.2, inn := S.inn.drop b }, R⟩ else .inl (errC r.1)
def roomO (o : Ob) (ad n : Nat) : Bool := (List.range n).all fun i => decide (ad + i < 1048576) && decide (Go.bits .and .i64 (prmO o 0 (((ad + i) / 256 : Nat) : Int)) 2 ≠ 0)
def ocDiskR (S : HS) (R : List Value) (a b : Nat) : Nat ⊕ MO := if roomO S.o b 64 then let r := subP S.d false a b [] S.major; (if r.2.1 = 0 then .inr ⟨r.1, 0, 0, { S with d := r.2.2 }, R⟩ else .inl (errC r.2.1)) else .inl 2
def ocDiskW (S : HS) (R : List Value) (a b : Nat) : Nat ⊕ MO := let q := inO S.o 0 b ((64 : Nat) : Int); if q.2 = 0 then let r := subP S.d true a b q.1 S.major; (if r.2.1 = 0 then .inr ⟨r.1, q.1.length, 0, { S with d := r.2.2 }, R⟩ else .inl (errC r.2.1)) else .inl (errC q.2)
def ocSend (S : HS) (R : List Value) (a b c : Nat) : Nat ⊕ MO := if 64 < c then .inl 3 else let q := inO S.o 0 b c; if q.2 = 0 then let r := sndP S.acs 0 a q.1; (if r.1 = 0 then .inr ⟨0, q.1.length, 0, { S with acs := r.2 }, R⟩ else .inl (errC r.1)) else .inl (errC q.2)
def ocRecv (S : HS) (R : List Value) (a b c : Nat) : Nat ⊕ MO := if 64 < c then .inl 3 else let q := rcvP S.acs 0 a; if q.1 = 0 then (if c < q.2.1.length then .inl 3 else let r := outR S.o 0 b q.2.1; if r.1 = 0 then .inr ⟨w32 q.2.1.length, q.2.1.length, 0, { S with o := r.2, acs := q.2.2 }, R⟩ else .inl (errC r.1)) else .inl (errC q.1)
def ocTime (S : HS) (R : List Value) : Nat ⊕ MO := .inr ⟨w32 S.time, 0, 0, S, R.set 2 (.int .u32 (w32 (S.time / 2 ^ 32)))⟩
def tmN (a b : Nat) : Int := Go.bits .or .i64 (IntKind.i64.wrap ((b : Int) * 2 ^ 32)) a
def tmB (t : Int) : Bool := decide (0 ≤ t ∧ t ≤ 281474976710656)
def ocTimer (S : HS) (R : List Value) (a b : Nat) : Nat ⊕ MO := if 65536 < b then .inl 3 else if tmB (tmN a b) = true then .inr ⟨0, 0, 0, { S with at' := tmN a b, set := true }, R⟩ else .inl 3
def ocAck (S : HS) (R : List Value) (a : Nat) : Nat ⊕ MO := .inr ⟨0, 0, 0, { S with p := Vi.clr S.p a }, R⟩
def ocInfo (S : HS) (R : List Value) (a : Nat) : Nat ⊕ MO :=
  if a = 0 then .inr ⟨0, 0, 0, S, R⟩ else if a = 1 then .inr ⟨w32 S.major, 0, 0, S, R⟩ else if a = 2 then .inr ⟨w32 (S.d.asks.map Vd.Ak.tag).length, 0, 0, S, R⟩
  else if a = 3 then .inr ⟨(S.d.told.getLast?).getD 0, 0, 0, S, R⟩ else if a = 4 then .inr ⟨w32 S.inn.length, 0, 0, S, R⟩ else if a = 5 then .inr ⟨w32 (IntKind.i64.wrap (64 - (S.out.length : Int))), 0, 0, S, R⟩ else .inl 3
theorem sub_same {s : Vd.Ds} {write : Bool} {sector addr major : Int} {data : B} (h : (subP s write sector addr data major).2.1 ≠ 0) : (subP s write sector addr data major).2.2 = s := by
  unfold subP at h ⊢; split at h
  · exact absurd rfl h
  · rename_i q; rw [if_neg q]
theorem snd_same {acs : List Po.AC} {part n : Int} {bs : B} (h : (sndP acs part n bs).1 ≠ 0) : (sndP acs part n bs).2 = acs := by
  unfold sndP at h ⊢
  by_cases h0 : 0 ≤ n
  · rw [if_pos h0] at h ⊢
    cases hac : acs[n.toNat]? with
    | none => rfl
    | some ac =>
      rw [hac] at h
      simp only at h ⊢
      have hs : (Po.sendR ac part bs).2 = ac := by
        unfold Po.sendR at h ⊢
        split
        · rfl
        · rename_i k1; rw [if_neg k1] at h
          split
          · rfl
          · rename_i k2; rw [if_neg k2] at h
            split
            · rename_i k3; rw [if_pos k3] at h; exact absurd rfl h
            · rename_i k3; rw [if_neg k3] at h
              split
              · rfl
              · rename_i k4; rw [if_neg k4] at h; exact absurd rfl h
      rw [hs]; exact Po.set_self hac
  · rw [if_neg h0]
theorem out_same {o : Ob} {k ad : Nat} {b : B} (h : (outR o k ad b).1 ≠ 0) : (outR o k ad b).2 = o := by
  unfold outR at h ⊢
  split
  · rfl
  · rename_i k1; rw [if_neg k1] at h
    split
    · rename_i k2; rw [if_pos k2] at h; exact absurd rfl h
    · rfl
theorem unmap_same {o : Ob} {k : Nat} {p : Int} (h : (unmapO o k p).1 ≠ 0) : (unmapO o k p).2 = o := by
  unfold unmapO at h ⊢
  split
  · rfl
  · rename_i k1; rw [if_neg k1] at h
    split
    · rename_i k2; rw [if_pos k2] at h; exact absurd rfl h
    · rfl
theorem prot_same {o : Ob} {k : Nat} {p pm : Int} (h : (protO o k p pm).1 ≠ 0) : (protO o k p pm).2 = o := by
  unfold protO at h ⊢
  split
  · rfl
  · rename_i k1; rw [if_neg k1] at h
    cases hx : o.vw k p.toNat with
    | none => rfl
    | some y => rw [hx] at h; exact absurd rfl h
theorem roomO_succ {o : Ob} {ad n : Nat} : roomO o ad (n + 1) = (roomO o ad n && (decide (ad + n < 1048576) && decide (Go.bits .and .i64 (prmO o 0 (((ad + n) / 256 : Nat) : Int)) 2 ≠ 0))) := by unfold roomO; rw [List.range_succ, List.all_append]; simp
theorem roomO_no {o : Ob} {ad n m : Nat} (h : n ≤ m) (hn : roomO o ad n = false) : roomO o ad m = false := by
  induction m with
  | zero => obtain rfl : n = 0 := by omega
            exact hn
  | succ m ih =>
    by_cases q : n = m + 1
    · subst q; exact hn
    · rw [roomO_succ, ih (by omega)]; rfl
theorem inO_le (o : Ob) (k ad : Nat) (n : Nat) : (inO o k ad n).1.length ≤ 4096 := by
  unfold inO
  split
  · simp
  · split
    · rw [bufI_len]; omega
    · simp
section
variable (W0 : World) (Fr : List HProp)
theorem prm_c {n : Nat} {qs : List Int} {rt : Nat → Option Nat} {o : Ob} {c : Nat} {σ : St} {k r s m f t : Nat} (L : Lk n qs rt o c σ) (hk : rt k = some r) (p : Int) : Ctr Tryz.prog W0 29 [.pointer (some ⟨s, 0, none⟩), .int .i64 p] (WG m f t n qs σ (sb s k r m f t :: Fr)) (fun _ : Unit => True) (fun _ => .int .i64 (prmO o k p)) (fun _ => WG m f t n qs σ (sb s k r m f t :: Fr)) := by
  obtain ⟨A, rfl, h0, G, rfl, hcc⟩ := L
  have h := perm_spec W0 Fr (s := s) (m := m) (f := f) (t := t) (σ := σ) (qs := qs) G.rep hk p
  have e : (match vp A k p with | some x => (x.2 : Int) | none => 0) = prmO (obs A σ) k p := by
    unfold prmO vI vp
    by_cases hp : 0 ≤ p ∧ p < 4096
    · rw [if_pos hp, if_pos hp, vw_obs]; cases A.pg k p.toNat <;> rfl
    · rw [if_neg hp, if_neg hp]
  rw [← e]
  exact h
variable {x : HP} {S : HS} {qs : List Int} {rt : Nat → Option Nat} {σ : St} {cc cl a b c rg : Nat} {qk : Int} {R : List Value}
theorem atMostT {n : Nat} (hn : n < 4294967296) : CtrX Tryz.prog W0 214 [.int .u32 n, .int .i64 65536] Fr (fun _ : Unit => n ≤ 65536) (fun _ => .int .i64 n) (fun _ => Fr) (fun y : Nat => ¬ n ≤ 65536 ∧ y = 3) (fun y => .iface 235 (.int .i64 y)) (fun _ => Fr) := by
  have h := atMost_spec W0 Fr (n := n) (most := 65536) hn (by decide)
  rw [show ((65536 : Nat) : Int) = 65536 by simp] at h
  exact h
theorem timer_ok {v q p : Nat} {a' : Int} {s : Bool} {n : Int} (hn : 0 ≤ n ∧ n ≤ 281474976710656) : Ctr Tryz.prog W0 217 [.pointer (some ⟨v, 0, none⟩), .int .i64 n] (Vi.V v q p a' s :: Fr) (fun _ : Unit => True) (fun _ => .int .i64 0) (fun _ => Vi.V v q p n true :: Fr) := by
  have h := Vi.timer_spec W0 Fr (v := v) (q := q) (p := p) (a := a') (s := s) n
  rw [if_pos hn] at h
  simp only [if_pos hn] at h
  exact h
theorem timer_bad {v q p : Nat} {a' : Int} {s : Bool} {n : Int} (hn : ¬ (0 ≤ n ∧ n ≤ 281474976710656)) : Ctr Tryz.prog W0 217 [.pointer (some ⟨v, 0, none⟩), .int .i64 n] (Vi.V v q p a' s :: Fr) (fun _ : Unit => True) (fun _ => .int .i64 2) (fun _ => Vi.V v q p a' s :: Fr) := by
  have h := Vi.timer_spec W0 Fr (v := v) (q := q) (p := p) (a := a') (s := s) n
  rw [if_neg hn] at h
  simp only [if_neg hn] at h
  exact h
theorem in_c (h : HK qs rt σ cc x S qk) {ad n : Nat} (had : ad < 4294967296) (hn : n ≤ 4096) : CtrX Tryz.prog W0 213 [.pointer (some ⟨cl, 0, none⟩), .int .u32 ad, .int .i64 n] (mG cl x a b c rg 0 0 S R qs σ Fr)
    (fun z : BA => (inO S.o 0 ad n).2 = 0 ∧ z.b = (inO S.o 0 ad n).1 ∧ Lk 64 qs rt S.o (cc + 4096) z.σ) (fun z => .slice z.a z.b.length z.c) (fun z => oby 5 z.a z.c z.b :: mG cl x a b c rg 0 0 S R qs z.σ Fr)
    (fun y : St × Nat => (inO S.o 0 ad n).2 ≠ 0 ∧ y.2 = errC (inO S.o 0 ad n).2 ∧ Lk 64 qs rt S.o (cc + 4096) y.1) (fun y => .iface 235 (.int .i64 y.2)) (fun y => mG cl x a b c rg 0 0 S R qs y.1 Fr) := by
  have hcc := h.hc
  refine CtrX.of_body Tryz.func213 rfl Tryz.ntmps213 rfl ?_
  dsimp only [mG, hG, WG, heB, clB]
  refine CG.seq ?_
  refine CG.region ?_
  refine OG.sg rfl rfl ?_
  refine OG.nil ?_
  refine QG.then ?_
  refine CG.seq ?_
  refine CG.region ?_
  refine OG.mv rfl rfl ?_
  refine OG.yield (Yield.nilCheck rfl) rfl ?_
  refine OG.yield (Yield.fieldAddr fa137_0 rfl) rfl ?_
  refine OG.yield (Yield.load ti25 rfl (by first | exact Cel.of_blk eX rfl | exact (hrow eX) _ _ rfl)) rfl ?_
  refine OG.yield (Yield.nilCheck rfl) rfl ?_
  refine OG.yield (Yield.fieldAddr fa83_1 rfl) rfl ?_
  refine OG.yield (Yield.load ti53 rfl (by first | exact Cel.of_blk eX rfl | exact (hrow eX) _ _ rfl)) rfl ?_
  refine OG.mv rfl rfl ?_
  refine OG.mv rfl rfl ?_
  refine OG.callo call30 rfl (iM) (in_spec W0 _ (s := x.s) (m := x.m) (f := x.f) (t := x.t) (k := 0) (r := x.r) h.L h.hk (by omega) (ad := ad) had (n : Int)) rfl ?_
  rintro ⟨ia, ic, ib, σ2⟩ ⟨hib, L2⟩
  dsimp only [WG] at hib L2 ⊢
  refine OG.mv rfl rfl ?_
  refine OG.yield (Yield.extract rfl rfl) rfl ?_
  refine OG.yield (Yield.extract rfl rfl) rfl ?_
  refine OG.sg rfl rfl ?_
  refine OG.sg rfl rfl ?_
  refine OG.nil ?_
  refine QG.then ?_
  refine CG.seq ?_
  refine CG.region ?_
  refine OG.mv rfl rfl ?_
  refine OG.callx call210 rfl (Imp.refl _) (check_spec W0 _ (inO S.o 0 ad n).2) rfl (fun y hy => ?_) ?_
  · skip
    refine QG.pass_panic ?_
    exact QG.px (σ2, y) ⟨hy.1, hy.2, L2⟩ rfl iM
  rintro ⟨⟩ h0
  refine OG.nil ?_
  refine QG.then ?_
  refine CG.seq ?_
  refine CG.region ?_
  refine OG.mv rfl rfl ?_
  refine OG.sg rfl rfl ?_
  refine OG.nil ?_
  refine QG.then ?_
  refine CG.ret ?_
  exact QG.bx (QG.ret1 rfl rfl (⟨ia, ic, ib, σ2⟩ : BA) ⟨h0, hib, L2⟩ rfl iM)
theorem open_c (h : HK qs rt σ cc x S qk) {ad : Nat} (had : ad < 4294967296) : CtrX Tryz.prog W0 215 [.pointer (some ⟨cl, 0, none⟩), .int .u32 ad] (mG cl x a b c rg 0 0 S R qs σ Fr)
    (fun _ : Unit => roomO S.o ad 64 = true) (fun _ => .tuple #[]) (fun _ => mG cl x a b c rg 0 0 S R qs σ Fr)
    (fun y : Nat => roomO S.o ad 64 = false ∧ y = 2) (fun y => .iface 235 (.int .i64 y)) (fun y => mG cl x a b c rg 0 0 S R qs σ Fr) := by
  refine CtrX.of_body Tryz.func215 rfl Tryz.ntmps215 rfl ?_
  dsimp only [mG, hG, WG, heB, clB]
  refine CG.seq ?_
  refine CG.region ?_
  refine OG.mv rfl rfl ?_
  refine OG.nil ?_
  refine QG.then ?_
  refine CG.block ?_
  refine CG.loop (fun i : Nat => i ≤ 64 ∧ roomO S.o ad i = true) (fun i => [(0, .pointer (some ⟨cl, 0, none⟩)), (1, .int .u32 ad), (6, .int .i64 i)]) (fun _ => mG cl x a b c rg 0 0 S R qs σ Fr) (fun i => 64 - i) 0 ⟨Nat.zero_le _, rfl⟩ eS iM ?_
  rintro i ⟨hi, hro⟩
  dsimp only [mG, hG, WG, heB, clB]
  have hrs := roomO_succ (o := S.o) (ad := ad) (n := i)
  rw [hro, Bool.true_and] at hrs
  refine CG.seq ?_
  refine CG.region ?_
  refine OG.yield Yield.lssA rfl ?_
  refine OG.nil ?_
  refine QG.then ?_
  refine CG.seq ?_
  refine CG.cond rfl (fun hc => ?_) (fun hc => ?_)
  · try replace hc := of_decide_eq_true hc
    refine CG.skip ?_
    refine QG.then ?_
    refine CG.seq ?_
    refine CG.block ?_
    refine CG.seq ?_
    refine CG.region ?_
    refine OG.mv rfl rfl ?_
    refine OG.sg rfl rfl ?_
    refine OG.nil ?_
    refine QG.then ?_
    refine CG.seq ?_
    refine CG.region ?_
    refine OG.mv rfl rfl ?_
    refine OG.yield (by first | exact Yield.conv Tryz.underlying3 rfl rfl (w64 (by omega) (by omega)) | exact Yield.conv Tryz.underlying3 rfl rfl rfl) rfl ?_
    refine OG.mv rfl rfl ?_
    refine OG.yield (Yield.add rfl rfl (w64 (by omega) (by omega))) rfl ?_
    refine OG.sg rfl rfl ?_
    refine OG.nil ?_
    refine QG.then ?_
    refine CG.seq ?_
    rcases (show 1048576 ≤ ad + i ∨ (ad + i < 1048576 ∧ Go.bits .and .i64 (prmO S.o 0 (((ad + i) / 256 : Nat) : Int)) 2 = 0) ∨ (ad + i < 1048576 ∧ Go.bits .and .i64 (prmO S.o 0 (((ad + i) / 256 : Nat) : Int)) 2 ≠ 0) by by_cases q1 : 1048576 ≤ ad + i <;> by_cases q2 : Go.bits .and .i64 (prmO S.o 0 (((ad + i) / 256 : Nat) : Int)) 2 = 0 <;> simp [q1, q2] <;> omega) with q | q | q
    · skip
      refine CG.region ?_
      refine OG.mv rfl rfl ?_
      refine OG.yield (Yield.as (Yield.geq rfl rfl) (v' := .bool true) (bT (by omega))) rfl ?_
      refine OG.mv rfl rfl ?_
      refine OG.gn rfl rfl rfl rfl rfl ?_
      refine OG.gn rfl rfl rfl rfl rfl ?_
      refine OG.gn rfl rfl rfl rfl rfl ?_
      refine OG.gn rfl rfl rfl rfl rfl ?_
      refine OG.gn rfl rfl rfl rfl rfl ?_
      refine OG.gn rfl rfl rfl rfl rfl ?_
      refine OG.gn rfl rfl rfl rfl rfl ?_
      refine OG.gn rfl rfl rfl rfl rfl ?_
      refine OG.gn rfl rfl rfl rfl rfl ?_
      refine OG.gn rfl rfl rfl rfl rfl ?_
      refine OG.gn rfl rfl rfl rfl rfl ?_
      refine OG.gn rfl rfl rfl rfl rfl ?_
      refine OG.yield Yield.pickA rfl ?_
      refine OG.nil ?_
      refine QG.then ?_
      refine CG.cond_t rfl ?_
      refine CG.region ?_
      refine OG.yield (Yield.makeIface Tryz.underlying235 (by intro _ h; cases h) rfl) rfl ?_
      refine OG.panic rfl ?_
      refine QG.block_panic ?_
      refine QG.pass_panic ?_
      refine QG.pass_panic ?_
      refine QG.block_panic ?_
      exact QG.px 2 ⟨roomO_no (n := i + 1) (by omega) (by rw [hrs]; first | (rw [decide_eq_false (by omega)]; rfl) | (rw [decide_eq_true q.1, decide_eq_false (not_not_intro q.2)]; rfl)), rfl⟩ rfl iM
    · skip
      refine CG.region ?_
      refine OG.mv rfl rfl ?_
      refine OG.yield (Yield.as (Yield.geq rfl rfl) (v' := .bool false) (bF (by omega))) rfl ?_
      refine OG.mv rfl rfl ?_
      refine OG.gy rfl rfl rfl ?_
      refine OG.mv rfl rfl ?_
      refine OG.gy rfl rfl rfl ?_
      refine OG.yield (Yield.nilCheck rfl) rfl ?_
      refine OG.gy rfl rfl rfl ?_
      refine OG.yield (Yield.fieldAddr fa137_0 rfl) rfl ?_
      refine OG.gy rfl rfl rfl ?_
      refine OG.yield (Yield.load ti25 rfl (by first | exact Cel.of_blk eX rfl | exact (hrow eX) _ _ rfl)) rfl ?_
      refine OG.gy rfl rfl rfl ?_
      refine OG.yield (Yield.nilCheck rfl) rfl ?_
      refine OG.gy rfl rfl rfl ?_
      refine OG.yield (Yield.fieldAddr fa83_1 rfl) rfl ?_
      refine OG.gy rfl rfl rfl ?_
      refine OG.yield (Yield.load ti53 rfl (by first | exact Cel.of_blk eX rfl | exact (hrow eX) _ _ rfl)) rfl ?_
      refine OG.gy rfl rfl rfl ?_
      refine OG.mv rfl rfl ?_
      refine OG.gy rfl rfl rfl ?_
      refine OG.yield (Yield.as (Yield.quo rfl rfl (by omega) (tdiv_pos (by omega) (by omega) (by omega))) (v' := .int .i64 (((ad + i) / 256 : Nat) : Int)) (by rw [show (ad : Int) + (i : Int) = ((ad + i : Nat) : Int) by omega]; congr 1)) rfl ?_
      refine OG.gy rfl rfl rfl ?_
      refine OG.callo call29 rfl (iM) (prm_c W0 _ (s := x.s) (m := x.m) (f := x.f) (t := x.t) (k := 0) (r := x.r) h.L h.hk (((ad + i) / 256 : Nat) : Int)) rfl ?_
      rintro ⟨⟩ -
      refine OG.gy rfl rfl rfl ?_
      refine OG.yield (Yield.bitop rfl rfl rfl rfl) rfl ?_
      refine OG.gy rfl rfl rfl ?_
      refine OG.yield (Yield.as (Yield.eql rfl rfl) (v' := .bool true) (bT q.2)) rfl ?_
      refine OG.yield Yield.pickA rfl ?_
      refine OG.nil ?_
      refine QG.then ?_
      refine CG.cond_t rfl ?_
      refine CG.region ?_
      refine OG.yield (Yield.makeIface Tryz.underlying235 (by intro _ h; cases h) rfl) rfl ?_
      refine OG.panic rfl ?_
      refine QG.block_panic ?_
      refine QG.pass_panic ?_
      refine QG.pass_panic ?_
      refine QG.block_panic ?_
      exact QG.px 2 ⟨roomO_no (n := i + 1) (by omega) (by rw [hrs]; first | (rw [decide_eq_false (by omega)]; rfl) | (rw [decide_eq_true q.1, decide_eq_false (not_not_intro q.2)]; rfl)), rfl⟩ rfl iM
    · skip
      refine CG.region ?_
      refine OG.mv rfl rfl ?_
      refine OG.yield (Yield.as (Yield.geq rfl rfl) (v' := .bool false) (bF (by omega))) rfl ?_
      refine OG.mv rfl rfl ?_
      refine OG.gy rfl rfl rfl ?_
      refine OG.mv rfl rfl ?_
      refine OG.gy rfl rfl rfl ?_
      refine OG.yield (Yield.nilCheck rfl) rfl ?_
      refine OG.gy rfl rfl rfl ?_
      refine OG.yield (Yield.fieldAddr fa137_0 rfl) rfl ?_
      refine OG.gy rfl rfl rfl ?_
      refine OG.yield (Yield.load ti25 rfl (by first | exact Cel.of_blk eX rfl | exact (hrow eX) _ _ rfl)) rfl ?_
      refine OG.gy rfl rfl rfl ?_
      refine OG.yield (Yield.nilCheck rfl) rfl ?_
      refine OG.gy rfl rfl rfl ?_
      refine OG.yield (Yield.fieldAddr fa83_1 rfl) rfl ?_
      refine OG.gy rfl rfl rfl ?_
      refine OG.yield (Yield.load ti53 rfl (by first | exact Cel.of_blk eX rfl | exact (hrow eX) _ _ rfl)) rfl ?_
      refine OG.gy rfl rfl rfl ?_
      refine OG.mv rfl rfl ?_
      refine OG.gy rfl rfl rfl ?_
      refine OG.yield (Yield.as (Yield.quo rfl rfl (by omega) (tdiv_pos (by omega) (by omega) (by omega))) (v' := .int .i64 (((ad + i) / 256 : Nat) : Int)) (by rw [show (ad : Int) + (i : Int) = ((ad + i : Nat) : Int) by omega]; congr 1)) rfl ?_
      refine OG.gy rfl rfl rfl ?_
      refine OG.callo call29 rfl (iM) (prm_c W0 _ (s := x.s) (m := x.m) (f := x.f) (t := x.t) (k := 0) (r := x.r) h.L h.hk (((ad + i) / 256 : Nat) : Int)) rfl ?_
      rintro ⟨⟩ -
      refine OG.gy rfl rfl rfl ?_
      refine OG.yield (Yield.bitop rfl rfl rfl rfl) rfl ?_
      refine OG.gy rfl rfl rfl ?_
      refine OG.yield (Yield.as (Yield.eql rfl rfl) (v' := .bool false) (bF q.2)) rfl ?_
      refine OG.yield Yield.pickA rfl ?_
      refine OG.nil ?_
      refine QG.then ?_
      refine CG.cond_f rfl ?_
      refine CG.skip ?_
      refine QG.block_normal ?_
      refine QG.then ?_
      refine CG.region ?_
      refine OG.yield (Yield.add rfl rfl (w64 (by omega) (by omega))) rfl ?_
      refine OG.mv rfl rfl ?_
      refine OG.nil ?_
      exact QG.next (i + 1) ⟨by omega, by rw [hrs, decide_eq_true q.1, decide_eq_true q.2]; rfl⟩ (by omega) eS iM
  · try replace hc := of_decide_eq_false hc
    refine CG.exit ?_
    refine QG.pass_exit ?_
    refine QG.pass_exit ?_
    refine QG.block_exit ?_
    obtain rfl : i = 64 := by omega
    exact QG.bx (QG.end0 rfl () hro rfl iM)
theorem m_yield (h : HK qs rt σ cc x S qk) (ha : a < 4294967296) (hb : b < 4294967296) (hc : c < 4294967296) : Meth W0 Fr 172 cl x a b c rg S R qs rt σ cc (.inr ⟨0, 0, 1, S, R⟩) := by
  have hcc := h.hc
  unfold Meth
  refine CtrX.of_body Tryz.func172 rfl Tryz.ntmps172 rfl ?_
  dsimp only [mG, hG, WG, heB, clB]
  refine CG.seq ?_
  refine CG.region ?_
  refine OG.sg rfl rfl ?_
  refine OG.nil ?_
  refine QG.then ?_
  refine CG.seq ?_
  refine CG.region ?_
  refine OG.mv rfl rfl ?_
  refine OG.yield (Yield.nilCheck rfl) rfl ?_
  refine OG.yield (Yield.fieldAddr fa137_6 rfl) rfl ?_
  refine OG.eff (Eff.store1 ti3 rfl rfl fC rfl (by first | (simp; done) | decide)) rfl ?_
  rintro ⟨⟩ -
  refine OG.nil ?_
  refine QG.then ?_
  refine CG.seq ?_
  refine CG.region ?_
  refine OG.sg rfl rfl ?_
  refine OG.nil ?_
  refine QG.then ?_
  refine CG.ret ?_
  exact QG.bx (QG.ret1 rfl rfl (σ, ⟨0, 0, 1, S, R⟩) ⟨rfl, h.L.mono (by omega)⟩ rfl iM)
theorem m_map (h : HK qs rt σ cc x S qk) (ha : a < 4294967296) (hb : b < 4294967296) (hc : c < 4294967296) : Meth W0 Fr 173 cl x a b c rg S R qs rt σ cc (ocMap qk S R a b) := by
  have hcc := h.hc
  unfold Meth
  refine CtrX.of_body Tryz.func173 rfl Tryz.ntmps173 rfl ?_
  dsimp only [mG, hG, WG, heB, clB]
  refine CG.seq ?_
  refine CG.region ?_
  refine OG.sg rfl rfl ?_
  refine OG.nil ?_
  refine QG.then ?_
  refine CG.seq ?_
  refine CG.draw (.look 0 1 (.look 1 1 (.look 2 1 (.look 3 1 (.look 4 1 (.look 5 1 (.look 6 1 (.look 7 1 (.look 8 1 (.look 9 1 (.look 10 1 (.look 11 1 (.look 12 1 (.look 13 1 (.look 14 1 (.look 15 1 (.look 16 1 (.eff1 17 false (.eff1 18 false (.done)))))))))))))))))))) [17, 18] [] ([]) ([]) mixed (by kernel_rfl) (Imp.none _) (Imp.none _) ?_
  refine DG.look rfl rfl (Yield.move rfl) rfl ?_
  refine DG.look rfl rfl (Yield.nilCheck rfl) rfl ?_
  refine DG.look rfl rfl (Yield.fieldAddr fa137_0 rfl) rfl ?_
  refine DG.look rfl rfl (Yield.load ti25 rfl (by first | exact Cel.of_blk eX rfl | exact (hrow eX) _ _ rfl)) rfl ?_
  refine DG.look rfl rfl (Yield.nilCheck rfl) rfl ?_
  refine DG.look rfl rfl (Yield.fieldAddr fa83_1 rfl) rfl ?_
  refine DG.look rfl rfl (Yield.load ti53 rfl (by first | exact Cel.of_blk eX rfl | exact (hrow eX) _ _ rfl)) rfl ?_
  refine DG.look rfl rfl (Yield.move rfl) rfl ?_
  refine DG.look rfl rfl (Yield.nilCheck rfl) rfl ?_
  refine DG.look rfl rfl (Yield.fieldAddr fa137_1 rfl) rfl ?_
  refine DG.look rfl rfl (Yield.load ti27 rfl (by first | exact Cel.of_blk eX rfl | exact (hrow eX) _ _ rfl)) rfl ?_
  refine DG.look rfl rfl (by first | exact Yield.conv Tryz.underlying3 rfl rfl (w64 (by omega) (by omega)) | exact Yield.conv Tryz.underlying3 rfl rfl rfl) rfl ?_
  refine DG.look rfl rfl (Yield.move rfl) rfl ?_
  refine DG.look rfl rfl (Yield.nilCheck rfl) rfl ?_
  refine DG.look rfl rfl (Yield.fieldAddr fa137_2 rfl) rfl ?_
  refine DG.look rfl rfl (Yield.load ti27 rfl (by first | exact Cel.of_blk eX rfl | exact (hrow eX) _ _ rfl)) rfl ?_
  refine DG.look rfl rfl (by first | exact Yield.conv Tryz.underlying3 rfl rfl (w64 (by omega) (by omega)) | exact Yield.conv Tryz.underlying3 rfl rfl rfl) rfl ?_
  refine DG.eff1 ?_
  refine Chg.callo rfl rfl call72 rfl (iM) (map_spec W0 _ (s := x.s) (m := x.m) (f := x.f) (t := x.t) (k := 0) (r := x.r) h.L h.hq h.hqk h.hk (a : Int) (b : Int)) rfl (fun _ => iM) (fun _ => Imp.refl _) (fun _ => iM) ?_
  rintro σ2 L2
  refine DG.eff1 ?_
  refine Chg.callx rfl rfl call210 rfl (Imp.refl _) (check_spec W0 _ (mapO qk S.o 0 a b).1) rfl (fun _ => iM) (fun _ => Imp.refl _) (fun _ => iM) (fun y hy => ?_) ?_
  · skip
    refine QG.pass_panic ?_
    exact QG.px (σ2, y) ⟨by unfold ocMap; dsimp only; rw [if_neg hy.1, hy.2], by have L3 := L2; rw [map_same hy.1] at L3; exact L3.mono (by omega)⟩ rfl iM
  rintro ⟨⟩ h0
  refine DG.done ?_
  refine QG.then ?_
  refine CG.seq ?_
  refine CG.region ?_
  refine OG.sg rfl rfl ?_
  refine OG.nil ?_
  refine QG.then ?_
  refine CG.ret ?_
  exact QG.bx (QG.ret1 rfl rfl (σ2, ⟨0, 0, 0, { S with o := (mapO qk S.o 0 a b).2 }, R⟩) ⟨by unfold ocMap; dsimp only; rw [if_pos h0], L2.mono (by omega)⟩ rfl iM)
theorem m_unmap (h : HK qs rt σ cc x S qk) (ha : a < 4294967296) (hb : b < 4294967296) (hc : c < 4294967296) : Meth W0 Fr 174 cl x a b c rg S R qs rt σ cc (ocUnmap S R a) := by
  have hcc := h.hc
  unfold Meth
  refine CtrX.of_body Tryz.func174 rfl Tryz.ntmps174 rfl ?_
  dsimp only [mG, hG, WG, heB, clB]
  refine CG.seq ?_
  refine CG.region ?_
  refine OG.sg rfl rfl ?_
  refine OG.nil ?_
  refine QG.then ?_
  refine CG.seq ?_
  refine CG.draw (.look 0 1 (.look 1 1 (.look 2 1 (.look 3 1 (.look 4 1 (.look 5 1 (.look 6 1 (.look 7 1 (.look 8 1 (.look 9 1 (.look 10 1 (.look 11 1 (.eff1 12 false (.eff1 13 false (.done))))))))))))))) [12, 13] [] ([]) ([]) mixed (by kernel_rfl) (Imp.none _) (Imp.none _) ?_
  refine DG.look rfl rfl (Yield.move rfl) rfl ?_
  refine DG.look rfl rfl (Yield.nilCheck rfl) rfl ?_
  refine DG.look rfl rfl (Yield.fieldAddr fa137_0 rfl) rfl ?_
  refine DG.look rfl rfl (Yield.load ti25 rfl (by first | exact Cel.of_blk eX rfl | exact (hrow eX) _ _ rfl)) rfl ?_
  refine DG.look rfl rfl (Yield.nilCheck rfl) rfl ?_
  refine DG.look rfl rfl (Yield.fieldAddr fa83_1 rfl) rfl ?_
  refine DG.look rfl rfl (Yield.load ti53 rfl (by first | exact Cel.of_blk eX rfl | exact (hrow eX) _ _ rfl)) rfl ?_
  refine DG.look rfl rfl (Yield.move rfl) rfl ?_
  refine DG.look rfl rfl (Yield.nilCheck rfl) rfl ?_
  refine DG.look rfl rfl (Yield.fieldAddr fa137_1 rfl) rfl ?_
  refine DG.look rfl rfl (Yield.load ti27 rfl (by first | exact Cel.of_blk eX rfl | exact (hrow eX) _ _ rfl)) rfl ?_
  refine DG.look rfl rfl (by first | exact Yield.conv Tryz.underlying3 rfl rfl (w64 (by omega) (by omega)) | exact Yield.conv Tryz.underlying3 rfl rfl rfl) rfl ?_
  refine DG.eff1 ?_
  refine Chg.callo rfl rfl call211 rfl (iM) (unmap_spec W0 _ (s := x.s) (m := x.m) (f := x.f) (t := x.t) (k := 0) (r := x.r) h.L h.hqk h.hk (a : Int)) rfl (fun _ => iM) (fun _ => Imp.refl _) (fun _ => iM) ?_
  rintro σ2 L2
  refine DG.eff1 ?_
  refine Chg.callx rfl rfl call210 rfl (Imp.refl _) (check_spec W0 _ (unmapO S.o 0 a).1) rfl (fun _ => iM) (fun _ => Imp.refl _) (fun _ => iM) (fun y hy => ?_) ?_
  · skip
    refine QG.pass_panic ?_
    exact QG.px (σ2, y) ⟨by unfold ocUnmap; dsimp only; rw [if_neg hy.1, hy.2], by have L3 := L2; rw [unmap_same hy.1] at L3; exact L3.mono (by omega)⟩ rfl iM
  rintro ⟨⟩ h0
  refine DG.done ?_
  refine QG.then ?_
  refine CG.seq ?_
  refine CG.region ?_
  refine OG.sg rfl rfl ?_
  refine OG.nil ?_
  refine QG.then ?_
  refine CG.ret ?_
  exact QG.bx (QG.ret1 rfl rfl (σ2, ⟨0, 0, 0, { S with o := (unmapO S.o 0 a).2 }, R⟩) ⟨by unfold ocUnmap; dsimp only; rw [if_pos h0], L2.mono (by omega)⟩ rfl iM)
theorem m_prot (h : HK qs rt σ cc x S qk) (ha : a < 4294967296) (hb : b < 4294967296) (hc : c < 4294967296) : Meth W0 Fr 175 cl x a b c rg S R qs rt σ cc (ocProt S R a b) := by
  have hcc := h.hc
  unfold Meth
  refine CtrX.of_body Tryz.func175 rfl Tryz.ntmps175 rfl ?_
  dsimp only [mG, hG, WG, heB, clB]
  refine CG.seq ?_
  refine CG.region ?_
  refine OG.sg rfl rfl ?_
  refine OG.nil ?_
  refine QG.then ?_
  refine CG.seq ?_
  refine CG.draw (.look 0 1 (.look 1 1 (.look 2 1 (.look 3 1 (.look 4 1 (.look 5 1 (.look 6 1 (.look 7 1 (.look 8 1 (.look 9 1 (.look 10 1 (.look 11 1 (.look 12 1 (.look 13 1 (.look 14 1 (.look 15 1 (.look 16 1 (.eff1 17 false (.eff1 18 false (.done)))))))))))))))))))) [17, 18] [] ([]) ([]) mixed (by kernel_rfl) (Imp.none _) (Imp.none _) ?_
  refine DG.look rfl rfl (Yield.move rfl) rfl ?_
  refine DG.look rfl rfl (Yield.nilCheck rfl) rfl ?_
  refine DG.look rfl rfl (Yield.fieldAddr fa137_0 rfl) rfl ?_
  refine DG.look rfl rfl (Yield.load ti25 rfl (by first | exact Cel.of_blk eX rfl | exact (hrow eX) _ _ rfl)) rfl ?_
  refine DG.look rfl rfl (Yield.nilCheck rfl) rfl ?_
  refine DG.look rfl rfl (Yield.fieldAddr fa83_1 rfl) rfl ?_
  refine DG.look rfl rfl (Yield.load ti53 rfl (by first | exact Cel.of_blk eX rfl | exact (hrow eX) _ _ rfl)) rfl ?_
  refine DG.look rfl rfl (Yield.move rfl) rfl ?_
  refine DG.look rfl rfl (Yield.nilCheck rfl) rfl ?_
  refine DG.look rfl rfl (Yield.fieldAddr fa137_1 rfl) rfl ?_
  refine DG.look rfl rfl (Yield.load ti27 rfl (by first | exact Cel.of_blk eX rfl | exact (hrow eX) _ _ rfl)) rfl ?_
  refine DG.look rfl rfl (by first | exact Yield.conv Tryz.underlying3 rfl rfl (w64 (by omega) (by omega)) | exact Yield.conv Tryz.underlying3 rfl rfl rfl) rfl ?_
  refine DG.look rfl rfl (Yield.move rfl) rfl ?_
  refine DG.look rfl rfl (Yield.nilCheck rfl) rfl ?_
  refine DG.look rfl rfl (Yield.fieldAddr fa137_2 rfl) rfl ?_
  refine DG.look rfl rfl (Yield.load ti27 rfl (by first | exact Cel.of_blk eX rfl | exact (hrow eX) _ _ rfl)) rfl ?_
  refine DG.look rfl rfl (by first | exact Yield.conv Tryz.underlying3 rfl rfl (w64 (by omega) (by omega)) | exact Yield.conv Tryz.underlying3 rfl rfl rfl) rfl ?_
  refine DG.eff1 ?_
  refine Chg.callo rfl rfl call212 rfl (iM) (protect_spec W0 _ (s := x.s) (m := x.m) (f := x.f) (t := x.t) (k := 0) (r := x.r) h.L h.hk (a : Int) (b : Int)) rfl (fun _ => iM) (fun _ => Imp.refl _) (fun _ => iM) ?_
  rintro σ2 L2
  refine DG.eff1 ?_
  refine Chg.callx rfl rfl call210 rfl (Imp.refl _) (check_spec W0 _ (protO S.o 0 a b).1) rfl (fun _ => iM) (fun _ => Imp.refl _) (fun _ => iM) (fun y hy => ?_) ?_
  · skip
    refine QG.pass_panic ?_
    exact QG.px (σ2, y) ⟨by unfold ocProt; dsimp only; rw [if_neg hy.1, hy.2], by have L3 := L2; rw [prot_same hy.1] at L3; exact L3.mono (by omega)⟩ rfl iM
  rintro ⟨⟩ h0
  refine DG.done ?_
  refine QG.then ?_
  refine CG.seq ?_
  refine CG.region ?_
  refine OG.sg rfl rfl ?_
  refine OG.nil ?_
  refine QG.then ?_
  refine CG.ret ?_
  exact QG.bx (QG.ret1 rfl rfl (σ2, ⟨0, 0, 0, { S with o := (protO S.o 0 a b).2 }, R⟩) ⟨by unfold ocProt; dsimp only; rw [if_pos h0], L2.mono (by omega)⟩ rfl iM)
theorem m_write (h : HK qs rt σ cc x S qk) (ha : a < 4294967296) (hb : b < 4294967296) (hc : c < 4294967296) : Meth W0 Fr 176 cl x a b c rg S R qs rt σ cc (ocWrite S R a b) := by
  have hcc := h.hc
  unfold Meth
  refine CtrX.of_body Tryz.func176 rfl Tryz.ntmps176 rfl ?_
  dsimp only [mG, hG, WG, heB, clB]
  refine CG.seq ?_
  refine CG.region ?_
  refine OG.sg rfl rfl ?_
  refine OG.nil ?_
  refine QG.then ?_
  refine CG.seq ?_
  refine CG.draw (.look 0 0 (.look 1 0 (.look 2 0 (.look 3 0 (.look 4 0 (.look 5 1 (.look 6 1 (.look 7 1 (.look 8 1 (.eff1 9 false (.eff1 10 false (.look 11 1 (.done))))))))))))) [9, 10] [] ([clB cl x a b c rg 0 0]) ([]) mixed (by kernel_rfl) iM (Imp.none _) ?_
  refine DG.look rfl rfl (Yield.move rfl) rfl ?_
  refine DG.look rfl rfl (Yield.move rfl) rfl ?_
  refine DG.look rfl rfl (Yield.nilCheck rfl) rfl ?_
  refine DG.look rfl rfl (Yield.fieldAddr fa137_1 rfl) rfl ?_
  refine DG.look rfl rfl (Yield.load ti27 rfl (by first | exact Cel.of_blk eX rfl | exact (hrow eX) _ _ rfl)) rfl ?_
  refine DG.look rfl rfl (Yield.move rfl) rfl ?_
  refine DG.look rfl rfl (Yield.nilCheck rfl) rfl ?_
  refine DG.look rfl rfl (Yield.fieldAddr fa137_2 rfl) rfl ?_
  refine DG.look rfl rfl (Yield.load ti27 rfl (by first | exact Cel.of_blk eX rfl | exact (hrow eX) _ _ rfl)) rfl ?_
  refine DG.eff1 ?_
  refine Chg.callx rfl rfl call214 rfl (Imp.refl _) (atMost_spec W0 _ (n := b) (most := 64) hb (by decide)) rfl (fun _ => iM) (fun _ => Imp.refl _) (fun _ => iM) (fun y hy => ?_) ?_
  · skip
    refine QG.pass_panic ?_
    exact QG.px (σ, 3) ⟨by unfold ocWrite; rw [if_pos (by omega)], h.L.mono (by omega)⟩ (by rw [hy.2]) iM
  rintro ⟨⟩ hm
  refine DG.eff1 ?_
  refine Chg.callx rfl rfl call213 rfl (iM) (in_c W0 _ (cl := cl) (a := a) (b := b) (c := c) (rg := rg) (R := R) h (ad := a) (n := b) ha (by omega)) rfl (fun _ => iM) (fun _ => Imp.refl _) (fun _ => iM) (fun y hy => ?_) ?_
  · skip
    refine QG.pass_panic ?_
    exact QG.px y ⟨by unfold ocWrite; dsimp only; rw [if_neg (by omega), if_neg hy.1, hy.2.1], hy.2.2.mono (by omega)⟩ rfl iM
  rintro ⟨ia, ic, ib, σ2⟩ ⟨h0, hib, L2⟩
  dsimp only [mG, hG, WG, heB, clB] at h0 hib L2 ⊢
  refine DG.look rfl rfl (Yield.assign rfl) rfl ?_
  refine DG.done ?_
  refine QG.then ?_
  refine CG.seq ?_
  refine CG.region ?_
  refine OG.mv rfl rfl ?_
  refine OG.mv rfl rfl ?_
  refine OG.yield (Yield.nilCheck rfl) rfl ?_
  refine OG.yield (Yield.fieldAddr fa137_0 rfl) rfl ?_
  refine OG.yield (Yield.load ti25 rfl (by first | exact Cel.of_blk eX rfl | exact (hrow eX) _ _ rfl)) rfl ?_
  refine OG.yield (Yield.nilCheck rfl) rfl ?_
  refine OG.yield (Yield.fieldAddr fa83_3 rfl) rfl ?_
  refine OG.yield (Yield.load ti55 rfl (by first | exact Cel.of_blk eX rfl | exact (hrow eX) _ _ rfl)) rfl ?_
  refine OG.mv rfl rfl ?_
  refine OG.callo call20 rfl (iM) (Vc.writeB W0 _ (g := x.k) (out := S.out) (inn := S.inn) (ds := ib) (a2 := ia) (c2 := ic) (by exact RdB.of_osl (E := 5) eX rfl rfl) (by rw [hib]; have := inO_le S.o 0 a b; omega)) rfl ?_
  rintro ⟨⟩ -
  refine OG.yield (Yield.nilCheck rfl) rfl ?_
  refine OG.yield (Yield.fieldAddr fa137_5 rfl) rfl ?_
  refine OG.eff (Eff.store1 ti3 rfl rfl fC rfl (by first | (simp; done) | decide)) rfl ?_
  rintro ⟨⟩ -
  refine OG.nil ?_
  refine QG.then ?_
  refine CG.seq ?_
  refine CG.region ?_
  refine OG.mv rfl rfl ?_
  refine OG.yield (Yield.nilCheck rfl) rfl ?_
  refine OG.yield (Yield.fieldAddr fa137_5 rfl) rfl ?_
  refine OG.yield (Yield.load ti3 rfl (by first | exact Cel.of_blk eX rfl | exact (hrow eX) _ _ rfl)) rfl ?_
  refine OG.yield (Yield.conv (c := ((min ib.length (64 - S.out.length) : Nat) : Int)) Tryz.underlying27 rfl rfl (wu32 (by omega) (by omega))) rfl ?_
  refine OG.sg rfl rfl ?_
  refine OG.nil ?_
  refine QG.then ?_
  refine CG.ret ?_
  subst hib
  exact QG.bx (QG.ret1 rfl rfl (σ2, ⟨_, _, 0, wrO S (inO S.o 0 a b).1, R⟩) ⟨by unfold ocWrite; dsimp only; rw [if_neg (by omega), if_pos h0], L2.mono (by omega)⟩ rfl iM)
theorem m_read (h : HK qs rt σ cc x S qk) (ha : a < 4294967296) (hb : b < 4294967296) (hc : c < 4294967296) : Meth W0 Fr 177 cl x a b c rg S R qs rt σ cc (ocRead S R a b) := by
  have hcc := h.hc
  unfold Meth
  refine CtrX.of_body Tryz.func177 rfl Tryz.ntmps177 rfl ?_
  dsimp only [mG, hG, WG, heB, clB]
  refine CG.seq ?_
  refine CG.region ?_
  refine OG.sg rfl rfl ?_
  refine OG.nil ?_
  refine QG.then ?_
  refine CG.seq ?_
  refine CG.region ?_
  refine OG.mv rfl rfl ?_
  refine OG.yield (Yield.nilCheck rfl) rfl ?_
  refine OG.yield (Yield.fieldAddr fa137_2 rfl) rfl ?_
  refine OG.yield (Yield.load ti27 rfl (by first | exact Cel.of_blk eX rfl | exact (hrow eX) _ _ rfl)) rfl ?_
  refine OG.callx call214 rfl (Imp.refl _) (atMost_spec W0 _ (n := b) (most := 64) hb (by decide)) rfl (fun y hy => ?_) ?_
  · skip
    refine QG.pass_panic ?_
    exact QG.px (σ, 3) ⟨by unfold ocRead; rw [if_pos (by omega)], h.L.mono (by omega)⟩ (by rw [hy.2]) iM
  rintro ⟨⟩ hm
  refine OG.sg rfl rfl ?_
  refine OG.nil ?_
  refine QG.then ?_
  refine CG.seq ?_
  refine CG.region ?_
  refine OG.mv rfl rfl ?_
  refine OG.yield (Yield.nilCheck rfl) rfl ?_
  refine OG.yield (Yield.fieldAddr fa137_0 rfl) rfl ?_
  refine OG.yield (Yield.load ti25 rfl (by first | exact Cel.of_blk eX rfl | exact (hrow eX) _ _ rfl)) rfl ?_
  refine OG.yield (Yield.nilCheck rfl) rfl ?_
  refine OG.yield (Yield.fieldAddr fa83_3 rfl) rfl ?_
  refine OG.yield (Yield.load ti55 rfl (by first | exact Cel.of_blk eX rfl | exact (hrow eX) _ _ rfl)) rfl ?_
  refine OG.callo call36 rfl (iM) (Vc.in_spec W0 _ (g := x.k) (out := S.out) (inn := S.inn)) rfl ?_
  rintro ⟨ia, ic⟩ -
  dsimp only
  refine OG.sg rfl rfl ?_
  refine OG.nil ?_
  refine QG.then ?_
  refine CG.seq ?_
  refine CG.pure (fun w hw => (osl_facts (W0 := W0) (E := 5) (sz := 1) (a := ia) (c := ic) (m := S.inn.length) (xs := bytesV S.inn) eX w hw).2) ?_
  intro hcap
  have htk : (S.inn.take b).length = min b S.inn.length := List.length_take
  refine CG.region ?_
  refine OG.mv rfl rfl ?_
  refine OG.mv rfl rfl ?_
  refine OG.mv rfl rfl ?_
  refine OG.yield (Yield.len_slice Tryz.underlying32 rfl rfl) rfl ?_
  refine OG.yield (Yield.as (Yield.min2 rfl rfl) (v' := .int .i64 ((S.inn.take b).length : Nat)) (by rw [htk, show min (b : Int) (S.inn.length : Int) = ((min b S.inn.length : Nat) : Int) by omega])) rfl ?_
  refine OG.yield (Yield.as (Yield.slice_hi Tryz.underlying32 ti5 rfl (Bound.some rfl) (by omega) (by omega)) (v' := .slice ia (S.inn.take b).length ic) (by rw [Int.toNat_natCast])) rfl ?_
  refine OG.sg rfl rfl ?_
  refine OG.nil ?_
  refine QG.then ?_
  refine CG.seq ?_
  refine CG.draw (.look 0 1 (.look 1 1 (.look 2 1 (.look 3 1 (.look 4 1 (.look 5 1 (.look 6 1 (.look 7 1 (.look 8 1 (.look 9 1 (.look 10 1 (.look 11 1 (.eff1 12 false (.eff1 13 false (.done))))))))))))))) [12, 13] [] ([]) ([]) mixed (by kernel_rfl) (Imp.none _) (Imp.none _) ?_
  refine DG.look rfl rfl (Yield.move rfl) rfl ?_
  refine DG.look rfl rfl (Yield.nilCheck rfl) rfl ?_
  refine DG.look rfl rfl (Yield.fieldAddr fa137_0 rfl) rfl ?_
  refine DG.look rfl rfl (Yield.load ti25 rfl (by first | exact Cel.of_blk eX rfl | exact (hrow eX) _ _ rfl)) rfl ?_
  refine DG.look rfl rfl (Yield.nilCheck rfl) rfl ?_
  refine DG.look rfl rfl (Yield.fieldAddr fa83_1 rfl) rfl ?_
  refine DG.look rfl rfl (Yield.load ti53 rfl (by first | exact Cel.of_blk eX rfl | exact (hrow eX) _ _ rfl)) rfl ?_
  refine DG.look rfl rfl (Yield.move rfl) rfl ?_
  refine DG.look rfl rfl (Yield.nilCheck rfl) rfl ?_
  refine DG.look rfl rfl (Yield.fieldAddr fa137_1 rfl) rfl ?_
  refine DG.look rfl rfl (Yield.load ti27 rfl (by first | exact Cel.of_blk eX rfl | exact (hrow eX) _ _ rfl)) rfl ?_
  refine DG.look rfl rfl (Yield.move rfl) rfl ?_
  refine DG.eff1 ?_
  refine Chg.callo rfl rfl call32 rfl (iM) (out_of W0 _ (s := x.s) (m := x.m) (f := x.f) (t := x.t) (k := 0) (r := x.r) (ba := ia) (bc := ic) (b := S.inn.take b) (by exact RdB.of_slR (SlR.takeB (SlR.of_osl (E := 5) (a := ia) eX) b) (by omega)) h.L h.hk (by omega) (ad := a) ha) rfl (fun _ => iM) (fun _ => Imp.refl _) (fun _ => iM) ?_
  rintro σ2 L2
  refine DG.eff1 ?_
  refine Chg.callx rfl rfl call210 rfl (Imp.refl _) (check_spec W0 _ (outR S.o 0 a (S.inn.take b)).1) rfl (fun _ => iM) (fun _ => Imp.refl _) (fun _ => iM) (fun y hy => ?_) ?_
  · skip
    refine QG.pass_panic ?_
    exact QG.px (σ2, y) ⟨by unfold ocRead; dsimp only; rw [if_neg (by omega), if_neg hy.1, hy.2], by have L3 := L2; rw [out_same hy.1] at L3; exact L3⟩ rfl iM
  rintro ⟨⟩ h0
  refine DG.done ?_
  refine QG.then ?_
  refine CG.seq ?_
  refine CG.region ?_
  refine OG.mv rfl rfl ?_
  refine OG.mv rfl rfl ?_
  refine OG.yield (Yield.nilCheck rfl) rfl ?_
  refine OG.yield (Yield.fieldAddr fa137_0 rfl) rfl ?_
  refine OG.yield (Yield.load ti25 rfl (by first | exact Cel.of_blk eX rfl | exact (hrow eX) _ _ rfl)) rfl ?_
  refine OG.yield (Yield.nilCheck rfl) rfl ?_
  refine OG.yield (Yield.fieldAddr fa83_3 rfl) rfl ?_
  refine OG.yield (Yield.load ti55 rfl (by first | exact Cel.of_blk eX rfl | exact (hrow eX) _ _ rfl)) rfl ?_
  refine OG.mv rfl rfl ?_
  refine OG.yield (Yield.len_slice Tryz.underlying32 rfl rfl) rfl ?_
  refine OG.callo call26 rfl (iM) (Vc.readB W0 _ (g := x.k) (out := S.out) (inn := S.inn) ((S.inn.take b).length : Int)) rfl ?_
  rintro ⟨ja, jc⟩ -
  have hko : Vc.kOf ((S.inn.take b).length : Int) S.inn.length = (S.inn.take b).length := by unfold Vc.kOf; omega
  have htt : S.inn.take (S.inn.take b).length = S.inn.take b := by rw [htk, List.take_eq_take_iff]; omega
  have hdd : S.inn.drop (S.inn.take b).length = S.inn.drop b := by
    rw [htk]
    by_cases q : b ≤ S.inn.length
    · rw [Nat.min_eq_left q]
    · rw [Nat.min_eq_right (by omega), List.drop_length, List.drop_eq_nil_of_le (by omega)]
  rw [hko, htt, hdd]
  refine OG.yield (Yield.len_slice Tryz.underlying32 rfl rfl) rfl ?_
  refine OG.yield (Yield.nilCheck rfl) rfl ?_
  refine OG.yield (Yield.fieldAddr fa137_5 rfl) rfl ?_
  refine OG.eff (Eff.store1 ti3 rfl rfl fC rfl (by first | (simp; done) | decide)) rfl ?_
  rintro ⟨⟩ -
  refine OG.nil ?_
  refine QG.then ?_
  refine CG.seq ?_
  refine CG.region ?_
  refine OG.mv rfl rfl ?_
  refine OG.yield (Yield.nilCheck rfl) rfl ?_
  refine OG.yield (Yield.fieldAddr fa137_5 rfl) rfl ?_
  refine OG.yield (Yield.load ti3 rfl (by first | exact Cel.of_blk eX rfl | exact (hrow eX) _ _ rfl)) rfl ?_
  refine OG.yield (Yield.conv (c := ((S.inn.take b).length : Int)) Tryz.underlying27 rfl rfl (wu32 (by omega) (by omega))) rfl ?_
  refine OG.sg rfl rfl ?_
  refine OG.nil ?_
  refine QG.then ?_
  refine CG.ret ?_
  exact QG.bx (QG.ret1 rfl rfl (σ2, ⟨_, _, 0, { S with o := (outR S.o 0 a (S.inn.take b)).2, inn := S.inn.drop b }, R⟩) ⟨by unfold ocRead; dsimp only; rw [if_neg (by omega), if_pos h0], L2⟩ rfl iM)
theorem m_diskR (h : HK qs rt σ cc x S qk) (ha : a < 4294967296) (hb : b < 4294967296) (hc : c < 4294967296) : Meth W0 Fr 178 cl x a b c rg S R qs rt σ cc (ocDiskR S R a b) := by
  have hcc := h.hc
  unfold Meth
  refine CtrX.of_body Tryz.func178 rfl Tryz.ntmps178 rfl ?_
  dsimp only [mG, hG, WG, heB, clB]
  refine CG.seq ?_
  refine CG.region ?_
  refine OG.sg rfl rfl ?_
  refine OG.nil ?_
  refine QG.then ?_
  refine CG.seq ?_
  refine CG.region ?_
  refine OG.mv rfl rfl ?_
  refine OG.mv rfl rfl ?_
  refine OG.yield (Yield.nilCheck rfl) rfl ?_
  refine OG.yield (Yield.fieldAddr fa137_2 rfl) rfl ?_
  refine OG.yield (Yield.load ti27 rfl (by first | exact Cel.of_blk eX rfl | exact (hrow eX) _ _ rfl)) rfl ?_
  refine OG.callx call215 rfl (iM) (open_c W0 _ (cl := cl) (a := a) (b := b) (c := c) (rg := rg) (R := R) h (ad := b) hb) rfl (fun y hy => ?_) ?_
  · skip
    refine QG.pass_panic ?_
    exact QG.px (σ, 2) ⟨by unfold ocDiskR; rw [hy.1]; rfl, h.L.mono (by omega)⟩ (by rw [hy.2]) iM
  rintro ⟨⟩ hro
  dsimp only [mG, hG, WG, heB, clB]
  refine OG.nil ?_
  refine QG.then ?_
  refine CG.seq ?_
  refine CG.draw (.look 0 1 (.look 1 1 (.look 2 1 (.look 3 1 (.look 4 1 (.look 5 1 (.look 6 1 (.look 7 1 (.look 8 1 (.look 9 1 (.look 10 1 (.look 11 1 (.look 12 1 (.look 13 1 (.look 14 1 (.look 15 1 (.look 16 1 (.look 17 1 (.look 18 1 (.look 19 1 (.look 20 1 (.look 21 1 (.look 22 1 (.eff1 23 false (.look 24 1 (.look 25 1 (.look 26 1 (.look 27 1 (.look 28 1 (.done)))))))))))))))))))))))))))))) [23] [] ([]) ([]) mixed (by kernel_rfl) (Imp.none _) (Imp.none _) ?_
  refine DG.look rfl rfl (Yield.move rfl) rfl ?_
  refine DG.look rfl rfl (Yield.nilCheck rfl) rfl ?_
  refine DG.look rfl rfl (Yield.fieldAddr fa137_0 rfl) rfl ?_
  refine DG.look rfl rfl (Yield.load ti25 rfl (by first | exact Cel.of_blk eX rfl | exact (hrow eX) _ _ rfl)) rfl ?_
  refine DG.look rfl rfl (Yield.nilCheck rfl) rfl ?_
  refine DG.look rfl rfl (Yield.fieldAddr fa83_4 rfl) rfl ?_
  refine DG.look rfl rfl (Yield.load ti56 rfl (by first | exact Cel.of_blk eX rfl | exact (hrow eX) _ _ rfl)) rfl ?_
  refine DG.look rfl rfl (Yield.move rfl) rfl ?_
  refine DG.look rfl rfl (Yield.nilCheck rfl) rfl ?_
  refine DG.look rfl rfl (Yield.fieldAddr fa137_1 rfl) rfl ?_
  refine DG.look rfl rfl (Yield.load ti27 rfl (by first | exact Cel.of_blk eX rfl | exact (hrow eX) _ _ rfl)) rfl ?_
  refine DG.look rfl rfl (by first | exact Yield.conv Tryz.underlying3 rfl rfl (w64 (by omega) (by omega)) | exact Yield.conv Tryz.underlying3 rfl rfl rfl) rfl ?_
  refine DG.look rfl rfl (Yield.move rfl) rfl ?_
  refine DG.look rfl rfl (Yield.nilCheck rfl) rfl ?_
  refine DG.look rfl rfl (Yield.fieldAddr fa137_2 rfl) rfl ?_
  refine DG.look rfl rfl (Yield.load ti27 rfl (by first | exact Cel.of_blk eX rfl | exact (hrow eX) _ _ rfl)) rfl ?_
  refine DG.look rfl rfl (Yield.move rfl) rfl ?_
  refine DG.look rfl rfl (Yield.nilCheck rfl) rfl ?_
  refine DG.look rfl rfl (Yield.fieldAddr fa137_0 rfl) rfl ?_
  refine DG.look rfl rfl (Yield.load ti25 rfl (by first | exact Cel.of_blk eX rfl | exact (hrow eX) _ _ rfl)) rfl ?_
  refine DG.look rfl rfl (Yield.nilCheck rfl) rfl ?_
  refine DG.look rfl rfl (Yield.fieldAddr fa83_7 rfl) rfl ?_
  refine DG.look rfl rfl (Yield.load ti3 rfl (by first | exact Cel.of_blk eX rfl | exact (hrow eX) _ _ rfl)) rfl ?_
  refine DG.eff1 ?_
  refine Chg.callo rfl rfl call91 rfl (iM) (sub_spec W0 _ (d := x.d) (s := S.d) (write := false) (sector := a) (addr := b) (major := S.major) (da := none) (dc := 0) (data := []) (RdB.of_slR SlR.nil (Nat.le_refl _)) (by decide)) rfl (fun _ => iM) (fun _ => Imp.refl _) (fun _ => iM) ?_
  rintro ⟨⟩ -
  refine DG.look rfl rfl (Yield.move rfl) rfl ?_
  refine DG.look rfl rfl (Yield.extract rfl rfl) rfl ?_
  refine DG.look rfl rfl (Yield.extract rfl rfl) rfl ?_
  refine DG.look rfl rfl (Yield.assign rfl) rfl ?_
  refine DG.look rfl rfl (Yield.assign rfl) rfl ?_
  refine DG.done ?_
  refine QG.then ?_
  refine CG.seq ?_
  refine CG.region ?_
  refine OG.mv rfl rfl ?_
  refine OG.callx call210 rfl (Imp.refl _) (check_spec W0 _ (subP S.d false a b [] S.major).2.1) rfl (fun y hy => ?_) ?_
  · skip
    refine QG.pass_panic ?_
    exact QG.px (σ, y) ⟨by unfold ocDiskR; dsimp only; rw [if_pos hro, if_neg hy.1, hy.2], h.L.mono (by omega)⟩ rfl (by rw [sub_same hy.1]; exact iM)
  rintro ⟨⟩ h0
  refine OG.nil ?_
  refine QG.then ?_
  refine CG.seq ?_
  refine CG.region ?_
  refine OG.mv rfl rfl ?_
  refine OG.sg rfl rfl ?_
  refine OG.nil ?_
  refine QG.then ?_
  refine CG.ret ?_
  exact QG.bx (QG.ret1 rfl rfl (σ, ⟨_, 0, 0, { S with d := (subP S.d false a b [] S.major).2.2 }, R⟩) ⟨by unfold ocDiskR; dsimp only; rw [if_pos hro, if_pos h0], h.L.mono (by omega)⟩ rfl iM)
theorem m_diskW (h : HK qs rt σ cc x S qk) (ha : a < 4294967296) (hb : b < 4294967296) (hc : c < 4294967296) : Meth W0 Fr 179 cl x a b c rg S R qs rt σ cc (ocDiskW S R a b) := by
  have hcc := h.hc
  unfold Meth
  refine CtrX.of_body Tryz.func179 rfl Tryz.ntmps179 rfl ?_
  dsimp only [mG, hG, WG, heB, clB]
  refine CG.seq ?_
  refine CG.region ?_
  refine OG.sg rfl rfl ?_
  refine OG.nil ?_
  refine QG.then ?_
  refine CG.seq ?_
  refine CG.region ?_
  refine OG.mv rfl rfl ?_
  refine OG.mv rfl rfl ?_
  refine OG.yield (Yield.nilCheck rfl) rfl ?_
  refine OG.yield (Yield.fieldAddr fa137_2 rfl) rfl ?_
  refine OG.yield (Yield.load ti27 rfl (by first | exact Cel.of_blk eX rfl | exact (hrow eX) _ _ rfl)) rfl ?_
  refine OG.callx call213 rfl (iM) (in_c W0 _ (cl := cl) (a := a) (b := b) (c := c) (rg := rg) (R := R) h (ad := b) (n := 64) hb (by decide)) rfl (fun y hy => ?_) ?_
  · skip
    refine QG.pass_panic ?_
    exact QG.px y ⟨by unfold ocDiskW; dsimp only; rw [if_neg hy.1, hy.2.1], hy.2.2.mono (by omega)⟩ rfl iM
  rintro ⟨ia, ic, ib, σ2⟩ ⟨h0, hib, L2⟩
  dsimp only [mG, hG, WG, heB, clB] at h0 hib L2 ⊢
  subst hib
  refine OG.sg rfl rfl ?_
  refine OG.nil ?_
  refine QG.then ?_
  refine CG.seq ?_
  refine CG.draw (.look 0 1 (.look 1 1 (.look 2 1 (.look 3 1 (.look 4 1 (.look 5 1 (.look 6 1 (.look 7 1 (.look 8 1 (.look 9 1 (.look 10 1 (.look 11 1 (.look 12 1 (.look 13 1 (.look 14 1 (.look 15 1 (.look 16 1 (.look 17 1 (.look 18 1 (.look 19 1 (.look 20 1 (.look 21 1 (.look 22 1 (.look 23 1 (.eff1 24 false (.look 25 1 (.look 26 1 (.look 27 1 (.look 28 1 (.look 29 1 (.done))))))))))))))))))))))))))))))) [24] [] ([]) ([]) mixed (by kernel_rfl) (Imp.none _) (Imp.none _) ?_
  refine DG.look rfl rfl (Yield.move rfl) rfl ?_
  refine DG.look rfl rfl (Yield.nilCheck rfl) rfl ?_
  refine DG.look rfl rfl (Yield.fieldAddr fa137_0 rfl) rfl ?_
  refine DG.look rfl rfl (Yield.load ti25 rfl (by first | exact Cel.of_blk eX rfl | exact (hrow eX) _ _ rfl)) rfl ?_
  refine DG.look rfl rfl (Yield.nilCheck rfl) rfl ?_
  refine DG.look rfl rfl (Yield.fieldAddr fa83_4 rfl) rfl ?_
  refine DG.look rfl rfl (Yield.load ti56 rfl (by first | exact Cel.of_blk eX rfl | exact (hrow eX) _ _ rfl)) rfl ?_
  refine DG.look rfl rfl (Yield.move rfl) rfl ?_
  refine DG.look rfl rfl (Yield.nilCheck rfl) rfl ?_
  refine DG.look rfl rfl (Yield.fieldAddr fa137_1 rfl) rfl ?_
  refine DG.look rfl rfl (Yield.load ti27 rfl (by first | exact Cel.of_blk eX rfl | exact (hrow eX) _ _ rfl)) rfl ?_
  refine DG.look rfl rfl (by first | exact Yield.conv Tryz.underlying3 rfl rfl (w64 (by omega) (by omega)) | exact Yield.conv Tryz.underlying3 rfl rfl rfl) rfl ?_
  refine DG.look rfl rfl (Yield.move rfl) rfl ?_
  refine DG.look rfl rfl (Yield.nilCheck rfl) rfl ?_
  refine DG.look rfl rfl (Yield.fieldAddr fa137_2 rfl) rfl ?_
  refine DG.look rfl rfl (Yield.load ti27 rfl (by first | exact Cel.of_blk eX rfl | exact (hrow eX) _ _ rfl)) rfl ?_
  refine DG.look rfl rfl (Yield.move rfl) rfl ?_
  refine DG.look rfl rfl (Yield.move rfl) rfl ?_
  refine DG.look rfl rfl (Yield.nilCheck rfl) rfl ?_
  refine DG.look rfl rfl (Yield.fieldAddr fa137_0 rfl) rfl ?_
  refine DG.look rfl rfl (Yield.load ti25 rfl (by first | exact Cel.of_blk eX rfl | exact (hrow eX) _ _ rfl)) rfl ?_
  refine DG.look rfl rfl (Yield.nilCheck rfl) rfl ?_
  refine DG.look rfl rfl (Yield.fieldAddr fa83_7 rfl) rfl ?_
  refine DG.look rfl rfl (Yield.load ti3 rfl (by first | exact Cel.of_blk eX rfl | exact (hrow eX) _ _ rfl)) rfl ?_
  refine DG.eff1 ?_
  refine Chg.callo rfl rfl call91 rfl (iM) (sub_spec W0 _ (d := x.d) (s := S.d) (write := true) (sector := a) (addr := b) (major := S.major) (da := ia) (dc := ic) (data := (inO S.o 0 b ((64 : Nat) : Int)).1) (by exact RdB.of_osl (E := 5) eX rfl rfl) (by have := inO_le S.o 0 b 64; omega)) rfl (fun _ => iM) (fun _ => Imp.refl _) (fun _ => iM) ?_
  rintro ⟨⟩ -
  refine DG.look rfl rfl (Yield.move rfl) rfl ?_
  refine DG.look rfl rfl (Yield.extract rfl rfl) rfl ?_
  refine DG.look rfl rfl (Yield.extract rfl rfl) rfl ?_
  refine DG.look rfl rfl (Yield.assign rfl) rfl ?_
  refine DG.look rfl rfl (Yield.assign rfl) rfl ?_
  refine DG.done ?_
  refine QG.then ?_
  refine CG.seq ?_
  refine CG.region ?_
  refine OG.mv rfl rfl ?_
  refine OG.callx call210 rfl (Imp.refl _) (check_spec W0 _ (subP S.d true a b (inO S.o 0 b ((64 : Nat) : Int)).1 S.major).2.1) rfl (fun y hy => ?_) ?_
  · skip
    refine QG.pass_panic ?_
    exact QG.px (σ2, y) ⟨by unfold ocDiskW; dsimp only; rw [if_pos h0, if_neg hy.1, hy.2], L2.mono (by omega)⟩ rfl (by rw [sub_same hy.1]; exact iM)
  rintro ⟨⟩ h1
  refine OG.nil ?_
  refine QG.then ?_
  refine CG.seq ?_
  refine CG.region ?_
  refine OG.mv rfl rfl ?_
  refine OG.mv rfl rfl ?_
  refine OG.yield (Yield.len_slice Tryz.underlying32 rfl rfl) rfl ?_
  refine OG.yield (Yield.nilCheck rfl) rfl ?_
  refine OG.yield (Yield.fieldAddr fa137_5 rfl) rfl ?_
  refine OG.eff (Eff.store1 ti3 rfl rfl fC rfl (by first | (simp; done) | decide)) rfl ?_
  rintro ⟨⟩ -
  refine OG.nil ?_
  refine QG.then ?_
  refine CG.seq ?_
  refine CG.region ?_
  refine OG.mv rfl rfl ?_
  refine OG.sg rfl rfl ?_
  refine OG.nil ?_
  refine QG.then ?_
  refine CG.ret ?_
  exact QG.bx (QG.ret1 rfl rfl (σ2, ⟨_, _, 0, { S with d := (subP S.d true a b (inO S.o 0 b ((64 : Nat) : Int)).1 S.major).2.2 }, R⟩) ⟨by unfold ocDiskW; dsimp only; rw [if_pos h0, if_pos h1], L2.mono (by omega)⟩ rfl iM)
theorem m_send (h : HK qs rt σ cc x S qk) (ha : a < 4294967296) (hb : b < 4294967296) (hc : c < 4294967296) : Meth W0 Fr 180 cl x a b c rg S R qs rt σ cc (ocSend S R a b c) := by
  have hcc := h.hc
  unfold Meth
  refine CtrX.of_body Tryz.func180 rfl Tryz.ntmps180 rfl ?_
  dsimp only [mG, hG, WG, heB, clB]
  refine CG.seq ?_
  refine CG.region ?_
  refine OG.sg rfl rfl ?_
  refine OG.nil ?_
  refine QG.then ?_
  refine CG.seq ?_
  refine CG.draw (.look 0 0 (.look 1 0 (.look 2 0 (.look 3 0 (.look 4 0 (.look 5 1 (.look 6 1 (.look 7 1 (.look 8 1 (.eff1 9 false (.eff1 10 false (.look 11 1 (.done))))))))))))) [9, 10] [] ([clB cl x a b c rg 0 0]) ([]) mixed (by kernel_rfl) iM (Imp.none _) ?_
  refine DG.look rfl rfl (Yield.move rfl) rfl ?_
  refine DG.look rfl rfl (Yield.move rfl) rfl ?_
  refine DG.look rfl rfl (Yield.nilCheck rfl) rfl ?_
  refine DG.look rfl rfl (Yield.fieldAddr fa137_2 rfl) rfl ?_
  refine DG.look rfl rfl (Yield.load ti27 rfl (by first | exact Cel.of_blk eX rfl | exact (hrow eX) _ _ rfl)) rfl ?_
  refine DG.look rfl rfl (Yield.move rfl) rfl ?_
  refine DG.look rfl rfl (Yield.nilCheck rfl) rfl ?_
  refine DG.look rfl rfl (Yield.fieldAddr fa137_3 rfl) rfl ?_
  refine DG.look rfl rfl (Yield.load ti27 rfl (by first | exact Cel.of_blk eX rfl | exact (hrow eX) _ _ rfl)) rfl ?_
  refine DG.eff1 ?_
  refine Chg.callx rfl rfl call214 rfl (Imp.refl _) (atMost_spec W0 _ (n := c) (most := 64) hc (by decide)) rfl (fun _ => iM) (fun _ => Imp.refl _) (fun _ => iM) (fun y hy => ?_) ?_
  · skip
    refine QG.pass_panic ?_
    exact QG.px (σ, 3) ⟨by unfold ocSend; rw [if_pos (by omega)], h.L.mono (by omega)⟩ (by rw [hy.2]) iM
  rintro ⟨⟩ hm
  refine DG.eff1 ?_
  refine Chg.callx rfl rfl call213 rfl (iM) (in_c W0 _ (cl := cl) (a := a) (b := b) (c := c) (rg := rg) (R := R) h (ad := b) (n := c) hb (by omega)) rfl (fun _ => iM) (fun _ => Imp.refl _) (fun _ => iM) (fun y hy => ?_) ?_
  · skip
    refine QG.pass_panic ?_
    exact QG.px y ⟨by unfold ocSend; dsimp only; rw [if_neg (by omega), if_neg hy.1, hy.2.1], hy.2.2.mono (by omega)⟩ rfl iM
  rintro ⟨ia, ic, ib, σ2⟩ ⟨h0, hib, L2⟩
  dsimp only [mG, hG, WG, heB, clB] at h0 hib L2 ⊢
  subst hib
  refine DG.look rfl rfl (Yield.assign rfl) rfl ?_
  refine DG.done ?_
  refine QG.then ?_
  refine CG.seq ?_
  refine CG.draw (.look 0 1 (.look 1 1 (.look 2 1 (.look 3 1 (.look 4 1 (.look 5 1 (.look 6 1 (.look 7 1 (.look 8 1 (.look 9 1 (.look 10 1 (.look 11 1 (.look 12 1 (.look 13 1 (.look 14 1 (.look 15 1 (.look 16 1 (.look 17 1 (.look 18 1 (.look 19 1 (.eff1 20 false (.eff1 21 false (.done))))))))))))))))))))))) [20, 21] [] ([]) ([]) mixed (by kernel_rfl) (Imp.none _) (Imp.none _) ?_
  refine DG.look rfl rfl (Yield.move rfl) rfl ?_
  refine DG.look rfl rfl (Yield.nilCheck rfl) rfl ?_
  refine DG.look rfl rfl (Yield.fieldAddr fa137_0 rfl) rfl ?_
  refine DG.look rfl rfl (Yield.load ti25 rfl (by first | exact Cel.of_blk eX rfl | exact (hrow eX) _ _ rfl)) rfl ?_
  refine DG.look rfl rfl (Yield.nilCheck rfl) rfl ?_
  refine DG.look rfl rfl (Yield.fieldAddr fa83_5 rfl) rfl ?_
  refine DG.look rfl rfl (Yield.load ti62 rfl (by first | exact Cel.of_blk eX rfl | exact (hrow eX) _ _ rfl)) rfl ?_
  refine DG.look rfl rfl (Yield.move rfl) rfl ?_
  refine DG.look rfl rfl (Yield.nilCheck rfl) rfl ?_
  refine DG.look rfl rfl (Yield.fieldAddr fa137_0 rfl) rfl ?_
  refine DG.look rfl rfl (Yield.load ti25 rfl (by first | exact Cel.of_blk eX rfl | exact (hrow eX) _ _ rfl)) rfl ?_
  refine DG.look rfl rfl (Yield.nilCheck rfl) rfl ?_
  refine DG.look rfl rfl (Yield.fieldAddr fa83_0 rfl) rfl ?_
  refine DG.look rfl rfl (Yield.load ti3 rfl (by first | exact Cel.of_blk eX rfl | exact (hrow eX) _ _ rfl)) rfl ?_
  refine DG.look rfl rfl (Yield.move rfl) rfl ?_
  refine DG.look rfl rfl (Yield.nilCheck rfl) rfl ?_
  refine DG.look rfl rfl (Yield.fieldAddr fa137_1 rfl) rfl ?_
  refine DG.look rfl rfl (Yield.load ti27 rfl (by first | exact Cel.of_blk eX rfl | exact (hrow eX) _ _ rfl)) rfl ?_
  refine DG.look rfl rfl (by first | exact Yield.conv Tryz.underlying3 rfl rfl (w64 (by omega) (by omega)) | exact Yield.conv Tryz.underlying3 rfl rfl rfl) rfl ?_
  refine DG.look rfl rfl (Yield.move rfl) rfl ?_
  refine DG.eff1 ?_
  refine Chg.callo rfl rfl call44 rfl (iM) (snd_spec W0 _ (p := x.p) (acs := S.acs) 0 (a : Int) (a := ia) (c := ic) (bs := (inO S.o 0 b (c : Int)).1) (SlR.of_osl (E := 5) (a := ia) eX) (by have := inO_le S.o 0 b c; omega)) rfl (fun _ => iM) (fun _ => Imp.refl _) (fun _ => iM) ?_
  rintro ⟨⟩ -
  refine DG.eff1 ?_
  refine Chg.callx rfl rfl call210 rfl (Imp.refl _) (check_spec W0 _ (sndP S.acs 0 (a : Int) (inO S.o 0 b (c : Int)).1).1) rfl (fun _ => iM) (fun _ => Imp.refl _) (fun _ => iM) (fun y hy => ?_) ?_
  · skip
    refine QG.pass_panic ?_
    exact QG.px (σ2, y) ⟨by unfold ocSend; dsimp only; rw [if_neg (by omega), if_pos h0, if_neg hy.1, hy.2], L2.mono (by omega)⟩ rfl (by rw [snd_same hy.1]; exact iM)
  rintro ⟨⟩ h1
  refine DG.done ?_
  refine QG.then ?_
  refine CG.seq ?_
  refine CG.region ?_
  refine OG.mv rfl rfl ?_
  refine OG.mv rfl rfl ?_
  refine OG.yield (Yield.len_slice Tryz.underlying32 rfl rfl) rfl ?_
  refine OG.yield (Yield.nilCheck rfl) rfl ?_
  refine OG.yield (Yield.fieldAddr fa137_5 rfl) rfl ?_
  refine OG.eff (Eff.store1 ti3 rfl rfl fC rfl (by first | (simp; done) | decide)) rfl ?_
  rintro ⟨⟩ -
  refine OG.nil ?_
  refine QG.then ?_
  refine CG.seq ?_
  refine CG.region ?_
  refine OG.sg rfl rfl ?_
  refine OG.nil ?_
  refine QG.then ?_
  refine CG.ret ?_
  exact QG.bx (QG.ret1 rfl rfl (σ2, ⟨_, _, 0, { S with acs := (sndP S.acs 0 (a : Int) (inO S.o 0 b (c : Int)).1).2 }, R⟩) ⟨by unfold ocSend; dsimp only; rw [if_neg (by omega), if_pos h0, if_pos h1], L2.mono (by omega)⟩ rfl iM)
theorem m_recv (h : HK qs rt σ cc x S qk) (ha : a < 4294967296) (hb : b < 4294967296) (hc : c < 4294967296) : Meth W0 Fr 181 cl x a b c rg S R qs rt σ cc (ocRecv S R a b c) := by
  have hcc := h.hc
  unfold Meth
  refine CtrX.of_body Tryz.func181 rfl Tryz.ntmps181 rfl ?_
  dsimp only [mG, hG, WG, heB, clB]
  refine CG.seq ?_
  refine CG.region ?_
  refine OG.sg rfl rfl ?_
  refine OG.nil ?_
  refine QG.then ?_
  refine CG.seq ?_
  refine CG.region ?_
  refine OG.mv rfl rfl ?_
  refine OG.yield (Yield.nilCheck rfl) rfl ?_
  refine OG.yield (Yield.fieldAddr fa137_3 rfl) rfl ?_
  refine OG.yield (Yield.load ti27 rfl (by first | exact Cel.of_blk eX rfl | exact (hrow eX) _ _ rfl)) rfl ?_
  refine OG.callx call214 rfl (Imp.refl _) (atMost_spec W0 _ (n := c) (most := 64) hc (by decide)) rfl (fun y hy => ?_) ?_
  · skip
    refine QG.pass_panic ?_
    exact QG.px (σ, 3) ⟨by unfold ocRecv; rw [if_pos (by omega)], h.L.mono (by omega)⟩ (by rw [hy.2]) iM
  rintro ⟨⟩ hm
  refine OG.sg rfl rfl ?_
  refine OG.nil ?_
  refine QG.then ?_
  refine CG.seq ?_
  refine CG.draw (.look 0 1 (.look 1 1 (.look 2 1 (.look 3 1 (.look 4 1 (.look 5 1 (.look 6 1 (.look 8 0 (.look 9 0 (.look 10 0 (.look 11 0 (.look 12 0 (.look 13 0 (.look 14 0 (.look 15 0 (.look 16 0 (.look 17 0 (.look 18 0 (.look 19 0 (.eff1 7 false (.eff1 20 false (.look 21 1 (.look 22 1 (.look 23 1 (.look 24 1 (.look 25 1 (.done))))))))))))))))))))))))))) [7, 20] [] ([clB cl x a b c rg 0 0, heB x S]) ([]) mixed (by kernel_rfl) iM (Imp.none _) ?_
  refine DG.look rfl rfl (Yield.move rfl) rfl ?_
  refine DG.look rfl rfl (Yield.nilCheck rfl) rfl ?_
  refine DG.look rfl rfl (Yield.fieldAddr fa137_0 rfl) rfl ?_
  refine DG.look rfl rfl (Yield.load ti25 rfl (by first | exact Cel.of_blk eX rfl | exact (hrow eX) _ _ rfl)) rfl ?_
  refine DG.look rfl rfl (Yield.nilCheck rfl) rfl ?_
  refine DG.look rfl rfl (Yield.fieldAddr fa83_5 rfl) rfl ?_
  refine DG.look rfl rfl (Yield.load ti62 rfl (by first | exact Cel.of_blk eX rfl | exact (hrow eX) _ _ rfl)) rfl ?_
  refine DG.look rfl rfl (Yield.move rfl) rfl ?_
  refine DG.look rfl rfl (Yield.nilCheck rfl) rfl ?_
  refine DG.look rfl rfl (Yield.fieldAddr fa137_0 rfl) rfl ?_
  refine DG.look rfl rfl (Yield.load ti25 rfl (by first | exact Cel.of_blk eX rfl | exact (hrow eX) _ _ rfl)) rfl ?_
  refine DG.look rfl rfl (Yield.nilCheck rfl) rfl ?_
  refine DG.look rfl rfl (Yield.fieldAddr fa83_0 rfl) rfl ?_
  refine DG.look rfl rfl (Yield.load ti3 rfl (by first | exact Cel.of_blk eX rfl | exact (hrow eX) _ _ rfl)) rfl ?_
  refine DG.look rfl rfl (Yield.move rfl) rfl ?_
  refine DG.look rfl rfl (Yield.nilCheck rfl) rfl ?_
  refine DG.look rfl rfl (Yield.fieldAddr fa137_1 rfl) rfl ?_
  refine DG.look rfl rfl (Yield.load ti27 rfl (by first | exact Cel.of_blk eX rfl | exact (hrow eX) _ _ rfl)) rfl ?_
  refine DG.look rfl rfl (by first | exact Yield.conv Tryz.underlying3 rfl rfl (w64 (by omega) (by omega)) | exact Yield.conv Tryz.underlying3 rfl rfl rfl) rfl ?_
  refine DG.eff1 ?_
  refine Chg.callo rfl rfl call216 rfl (iM) (Po.clone_spec W0 _ (p := x.p) (acs := S.acs)) rfl (fun _ => iM) (fun _ => Imp.refl _) (fun _ => iM) ?_
  rintro u -
  refine DG.eff1 ?_
  refine Chg.callo rfl rfl call59 rfl (iM) (rcv_spec W0 _ (p := u) (acs := S.acs) 0 (a : Int)) rfl (fun _ => iM) (fun _ => Imp.refl _) (fun _ => iM) ?_
  rintro ⟨ba, bc, bb⟩ hbb
  dsimp only at hbb ⊢
  have hbl : bb.length ≤ 64 ∨ True := .inr trivial
  refine DG.look rfl rfl (Yield.move rfl) rfl ?_
  refine DG.look rfl rfl (Yield.extract rfl rfl) rfl ?_
  refine DG.look rfl rfl (Yield.extract rfl rfl) rfl ?_
  refine DG.look rfl rfl (Yield.assign rfl) rfl ?_
  refine DG.look rfl rfl (Yield.assign rfl) rfl ?_
  refine DG.done ?_
  refine QG.then ?_
  refine CG.seq ?_
  refine CG.region ?_
  refine OG.mv rfl rfl ?_
  refine OG.callx call210 rfl (Imp.refl _) (check_spec W0 _ (rcvP S.acs 0 (a : Int)).1) rfl (fun y hy => ?_) ?_
  · skip
    refine QG.pass_panic ?_
    exact QG.px (σ, y) ⟨by unfold ocRecv; dsimp only; rw [if_neg (by omega), if_neg hy.1, hy.2], h.L.mono (by omega)⟩ rfl iM
  rintro ⟨⟩ h0
  refine OG.nil ?_
  refine QG.then ?_
  refine CG.seq ?_
  refine CG.seq ?_
  refine CG.region ?_
  refine OG.mv rfl rfl ?_
  refine OG.yield (Yield.len_slice Tryz.underlying32 rfl rfl) rfl ?_
  refine OG.mv rfl rfl ?_
  refine OG.yield (Yield.gtr rfl rfl) rfl ?_
  refine OG.nil ?_
  refine QG.then ?_
  refine CG.cond rfl (fun hc => ?_) (fun hc => ?_)
  · try replace hc := of_decide_eq_true hc
    refine CG.region ?_
    refine OG.yield (Yield.makeIface Tryz.underlying235 (by intro _ h; cases h) rfl) rfl ?_
    refine OG.panic rfl ?_
    refine QG.pass_panic ?_
    exact QG.px (σ, 3) ⟨by unfold ocRecv; dsimp only; rw [if_neg (by omega), if_pos h0, if_pos (by rw [← hbb]; omega)], h.L.mono (by omega)⟩ rfl iM
  · try replace hc := of_decide_eq_false hc
    refine CG.skip ?_
    refine QG.then ?_
    refine CG.seq ?_
    refine CG.draw (.look 0 1 (.look 1 1 (.look 2 1 (.look 3 1 (.look 4 1 (.look 5 1 (.look 6 1 (.look 7 1 (.look 8 1 (.look 9 1 (.look 10 1 (.look 11 1 (.eff1 12 false (.eff1 13 false (.done))))))))))))))) [12, 13] [] ([]) ([]) mixed (by kernel_rfl) (Imp.none _) (Imp.none _) ?_
    refine DG.look rfl rfl (Yield.move rfl) rfl ?_
    refine DG.look rfl rfl (Yield.nilCheck rfl) rfl ?_
    refine DG.look rfl rfl (Yield.fieldAddr fa137_0 rfl) rfl ?_
    refine DG.look rfl rfl (Yield.load ti25 rfl (by first | exact Cel.of_blk eX rfl | exact (hrow eX) _ _ rfl)) rfl ?_
    refine DG.look rfl rfl (Yield.nilCheck rfl) rfl ?_
    refine DG.look rfl rfl (Yield.fieldAddr fa83_1 rfl) rfl ?_
    refine DG.look rfl rfl (Yield.load ti53 rfl (by first | exact Cel.of_blk eX rfl | exact (hrow eX) _ _ rfl)) rfl ?_
    refine DG.look rfl rfl (Yield.move rfl) rfl ?_
    refine DG.look rfl rfl (Yield.nilCheck rfl) rfl ?_
    refine DG.look rfl rfl (Yield.fieldAddr fa137_2 rfl) rfl ?_
    refine DG.look rfl rfl (Yield.load ti27 rfl (by first | exact Cel.of_blk eX rfl | exact (hrow eX) _ _ rfl)) rfl ?_
    refine DG.look rfl rfl (Yield.move rfl) rfl ?_
    refine DG.eff1 ?_
    refine Chg.callo rfl rfl call32 rfl (iM) (out_of W0 _ (s := x.s) (m := x.m) (f := x.f) (t := x.t) (k := 0) (r := x.r) (ba := ba) (bc := bc) (b := bb) (by exact RdB.of_osl (E := 5) eX rfl rfl) h.L h.hk (by omega) (ad := b) hb) rfl (fun _ => iM) (fun _ => Imp.refl _) (fun _ => iM) ?_
    rintro σ2 L2
    refine DG.eff1 ?_
    refine Chg.callx rfl rfl call210 rfl (Imp.refl _) (check_spec W0 _ (outR S.o 0 b bb).1) rfl (fun _ => iM) (fun _ => Imp.refl _) (fun _ => iM) (fun y hy => ?_) ?_
    · skip
      refine QG.pass_panic ?_
      exact QG.px (σ2, y) ⟨by unfold ocRecv; dsimp only; rw [if_neg (by omega), if_pos h0, if_neg (by rw [← hbb]; omega), ← hbb, if_neg hy.1, hy.2], by have L3 := L2; rw [out_same hy.1] at L3; exact L3⟩ rfl iM
    rintro ⟨⟩ h1
    refine DG.done ?_
    refine QG.then ?_
    refine CG.seq ?_
    refine CG.draw (.look 0 1 (.look 1 1 (.look 2 1 (.look 3 1 (.look 4 1 (.look 5 1 (.look 6 1 (.look 7 1 (.look 8 1 (.look 9 1 (.look 10 1 (.look 11 1 (.look 12 1 (.look 13 1 (.look 14 1 (.look 15 1 (.look 16 1 (.look 17 1 (.look 18 1 (.eff1 19 false (.done))))))))))))))))))))) [19] [] ([]) ([]) mixed (by kernel_rfl) (Imp.none _) (Imp.none _) ?_
    refine DG.look rfl rfl (Yield.move rfl) rfl ?_
    refine DG.look rfl rfl (Yield.nilCheck rfl) rfl ?_
    refine DG.look rfl rfl (Yield.fieldAddr fa137_0 rfl) rfl ?_
    refine DG.look rfl rfl (Yield.load ti25 rfl (by first | exact Cel.of_blk eX rfl | exact (hrow eX) _ _ rfl)) rfl ?_
    refine DG.look rfl rfl (Yield.nilCheck rfl) rfl ?_
    refine DG.look rfl rfl (Yield.fieldAddr fa83_5 rfl) rfl ?_
    refine DG.look rfl rfl (Yield.load ti62 rfl (by first | exact Cel.of_blk eX rfl | exact (hrow eX) _ _ rfl)) rfl ?_
    refine DG.look rfl rfl (Yield.move rfl) rfl ?_
    refine DG.look rfl rfl (Yield.nilCheck rfl) rfl ?_
    refine DG.look rfl rfl (Yield.fieldAddr fa137_0 rfl) rfl ?_
    refine DG.look rfl rfl (Yield.load ti25 rfl (by first | exact Cel.of_blk eX rfl | exact (hrow eX) _ _ rfl)) rfl ?_
    refine DG.look rfl rfl (Yield.nilCheck rfl) rfl ?_
    refine DG.look rfl rfl (Yield.fieldAddr fa83_0 rfl) rfl ?_
    refine DG.look rfl rfl (Yield.load ti3 rfl (by first | exact Cel.of_blk eX rfl | exact (hrow eX) _ _ rfl)) rfl ?_
    refine DG.look rfl rfl (Yield.move rfl) rfl ?_
    refine DG.look rfl rfl (Yield.nilCheck rfl) rfl ?_
    refine DG.look rfl rfl (Yield.fieldAddr fa137_1 rfl) rfl ?_
    refine DG.look rfl rfl (Yield.load ti27 rfl (by first | exact Cel.of_blk eX rfl | exact (hrow eX) _ _ rfl)) rfl ?_
    refine DG.look rfl rfl (by first | exact Yield.conv Tryz.underlying3 rfl rfl (w64 (by omega) (by omega)) | exact Yield.conv Tryz.underlying3 rfl rfl rfl) rfl ?_
    refine DG.eff1 ?_
    refine Chg.callo rfl rfl call59 rfl (iM) (rcv_spec W0 _ (p := x.p) (acs := S.acs) 0 (a : Int)) rfl (fun _ => iM) (fun _ => Imp.refl _) (fun _ => iM) ?_
    rintro ⟨ba2, bc2, bb2⟩ hbb2
    dsimp only at hbb2 ⊢
    refine DG.done ?_
    refine QG.then ?_
    refine CG.seq ?_
    refine CG.region ?_
    refine OG.mv rfl rfl ?_
    refine OG.mv rfl rfl ?_
    refine OG.yield (Yield.len_slice Tryz.underlying32 rfl rfl) rfl ?_
    refine OG.yield (Yield.nilCheck rfl) rfl ?_
    refine OG.yield (Yield.fieldAddr fa137_5 rfl) rfl ?_
    refine OG.eff (Eff.store1 ti3 rfl rfl fC rfl (by first | (simp; done) | decide)) rfl ?_
    rintro ⟨⟩ -
    refine OG.nil ?_
    refine QG.then ?_
    refine CG.seq ?_
    refine CG.region ?_
    refine OG.mv rfl rfl ?_
    refine OG.yield (Yield.len_slice Tryz.underlying32 rfl rfl) rfl ?_
    refine OG.yield (Yield.conv (c := w32 (bb.length : Int)) Tryz.underlying27 rfl rfl rfl) rfl ?_
    refine OG.sg rfl rfl ?_
    refine OG.nil ?_
    refine QG.then ?_
    refine CG.ret ?_
    exact QG.bx (QG.ret1 rfl rfl (σ2, ⟨w32 (bb.length : Int), (bb.length : Int), 0, { S with o := (outR S.o 0 b bb).2, acs := (rcvP S.acs 0 (a : Int)).2.2 }, R⟩) ⟨by unfold ocRecv; dsimp only; rw [if_neg (by omega), if_pos h0, if_neg (by rw [← hbb]; omega), ← hbb, if_pos h1], L2⟩ rfl iM)
theorem m_time (h : HK qs rt σ cc x S qk) (ha : a < 4294967296) (hb : b < 4294967296) (hc : c < 4294967296) (hR : R.length = 25) : Meth W0 Fr 182 cl x a b c rg S R qs rt σ cc (ocTime S R) := by
  have hcc := h.hc
  unfold Meth
  refine CtrX.of_body Tryz.func182 rfl Tryz.ntmps182 rfl ?_
  dsimp only [mG, hG, WG, heB, clB]
  refine CG.seq ?_
  refine CG.region ?_
  refine OG.sg rfl rfl ?_
  refine OG.nil ?_
  refine QG.then ?_
  refine CG.seq ?_
  refine CG.draw (.look 0 1 (.look 1 1 (.look 2 1 (.look 3 1 (.look 4 1 (.look 5 1 (.look 6 1 (.look 7 1 (.look 8 1 (.look 9 1 (.look 10 1 (.look 11 1 (.look 12 1 (.look 13 1 (.look 14 1 (.look 15 1 (.eff1 16 false (.done)))))))))))))))))) [16] [] ([]) ([]) mixed (by kernel_rfl) (Imp.none _) (Imp.none _) ?_
  refine DG.look rfl rfl (Yield.move rfl) rfl ?_
  refine DG.look rfl rfl (Yield.nilCheck rfl) rfl ?_
  refine DG.look rfl rfl (Yield.fieldAddr fa137_4 rfl) rfl ?_
  refine DG.look rfl rfl (Yield.load ti135 rfl (by first | exact Cel.of_blk eX rfl | exact (hrow eX) _ _ rfl)) rfl ?_
  refine DG.look rfl rfl (Yield.move rfl) rfl ?_
  refine DG.look rfl rfl (Yield.nilCheck rfl) rfl ?_
  refine DG.look rfl rfl (Yield.fieldAddr fa137_0 rfl) rfl ?_
  refine DG.look rfl rfl (Yield.load ti25 rfl (by first | exact Cel.of_blk eX rfl | exact (hrow eX) _ _ rfl)) rfl ?_
  refine DG.look rfl rfl (Yield.nilCheck rfl) rfl ?_
  refine DG.look rfl rfl (Yield.fieldAddr fa83_6 rfl) rfl ?_
  refine DG.look rfl rfl (Yield.load ti3 rfl (by first | exact Cel.of_blk eX rfl | exact (hrow eX) _ _ rfl)) rfl ?_
  refine DG.look rfl rfl (Yield.shr (m := 32) (c := S.time / 2 ^ 32) rfl rfl rfl (by decide) rfl) rfl ?_
  refine DG.look rfl rfl (Yield.conv (c := w32 (S.time / 2 ^ 32)) Tryz.underlying27 rfl rfl rfl) rfl ?_
  refine DG.look rfl rfl (Yield.nilCheck rfl) rfl ?_
  refine DG.look rfl rfl (Yield.fieldAddr fa31_0 rfl) rfl ?_
  refine DG.look rfl rfl (Yield.index_array Tryz.underlying28 ti27 rfl rfl (by omega) (by omega)) rfl ?_
  refine DG.eff1 ?_
  refine Chg.eff rfl rfl (Eff.store1 ti27 rfl rfl fC rfl (by rw [hR]; decide)) rfl (fun _ => iM) (fun _ => Imp.refl _) (fun _ => iM) ?_
  rintro ⟨⟩ -
  refine DG.done ?_
  refine QG.then ?_
  refine CG.seq ?_
  refine CG.region ?_
  refine OG.mv rfl rfl ?_
  refine OG.yield (Yield.nilCheck rfl) rfl ?_
  refine OG.yield (Yield.fieldAddr fa137_0 rfl) rfl ?_
  refine OG.yield (Yield.load ti25 rfl (by first | exact Cel.of_blk eX rfl | exact (hrow eX) _ _ rfl)) rfl ?_
  refine OG.yield (Yield.nilCheck rfl) rfl ?_
  refine OG.yield (Yield.fieldAddr fa83_6 rfl) rfl ?_
  refine OG.yield (Yield.load ti3 rfl (by first | exact Cel.of_blk eX rfl | exact (hrow eX) _ _ rfl)) rfl ?_
  refine OG.yield (Yield.conv (c := w32 S.time) Tryz.underlying27 rfl rfl rfl) rfl ?_
  refine OG.sg rfl rfl ?_
  refine OG.nil ?_
  refine QG.then ?_
  refine CG.ret ?_
  exact QG.bx (QG.ret1 rfl rfl (σ, ⟨_, 0, 0, S, R.set 2 (.int .u32 (w32 (S.time / 2 ^ 32)))⟩) ⟨rfl, h.L.mono (by omega)⟩ rfl iM)
theorem m_timer (h : HK qs rt σ cc x S qk) (ha : a < 4294967296) (hb : b < 4294967296) (hc : c < 4294967296) : Meth W0 Fr 183 cl x a b c rg S R qs rt σ cc (ocTimer S R a b) := by
  have hcc := h.hc
  obtain ⟨tm, htm⟩ : ∃ t : Int, t = tmN a b := ⟨_, rfl⟩
  have hot : ocTimer S R a b = if 65536 < b then .inl 3 else if tmB tm = true then .inr ⟨0, 0, 0, { S with at' := tm, set := true }, R⟩ else .inl 3 := by rw [htm]; rfl
  rw [hot]
  unfold Meth
  refine CtrX.of_body Tryz.func183 rfl Tryz.ntmps183 rfl ?_
  dsimp only [mG, hG, WG, heB, clB]
  refine CG.seq ?_
  refine CG.region ?_
  refine OG.sg rfl rfl ?_
  refine OG.nil ?_
  refine QG.then ?_
  refine CG.seq ?_
  refine CG.region ?_
  refine OG.mv rfl rfl ?_
  refine OG.yield (Yield.nilCheck rfl) rfl ?_
  refine OG.yield (Yield.fieldAddr fa137_2 rfl) rfl ?_
  refine OG.yield (Yield.load ti27 rfl (by first | exact Cel.of_blk eX rfl | exact (hrow eX) _ _ rfl)) rfl ?_
  refine OG.callx call214 rfl (Imp.refl _) (atMostT W0 _ (n := b) hb) rfl (fun y hy => ?_) ?_
  · skip
    refine QG.pass_panic ?_
    exact QG.px (σ, 3) ⟨by rw [if_pos (by omega)], h.L.mono (by omega)⟩ (by rw [hy.2]) iM
  rintro ⟨⟩ hm
  refine OG.sg rfl rfl ?_
  refine OG.nil ?_
  refine QG.then ?_
  refine CG.seq ?_
  by_cases hf2 : (tmB tm = true)
  · skip
    refine CG.draw (.look 0 1 (.look 1 1 (.look 2 1 (.look 3 1 (.look 4 1 (.look 5 1 (.look 6 1 (.look 7 1 (.look 8 1 (.look 9 1 (.look 10 1 (.look 11 1 (.look 12 1 (.look 13 1 (.look 14 1 (.eff1 15 false (.eff1 16 false (.done)))))))))))))))))) [15, 16] [] ([]) ([]) mixed (by kernel_rfl) (Imp.none _) (Imp.none _) ?_
    refine DG.look rfl rfl (Yield.move rfl) rfl ?_
    refine DG.look rfl rfl (Yield.nilCheck rfl) rfl ?_
    refine DG.look rfl rfl (Yield.fieldAddr fa137_0 rfl) rfl ?_
    refine DG.look rfl rfl (Yield.load ti25 rfl (by first | exact Cel.of_blk eX rfl | exact (hrow eX) _ _ rfl)) rfl ?_
    refine DG.look rfl rfl (Yield.nilCheck rfl) rfl ?_
    refine DG.look rfl rfl (Yield.fieldAddr fa83_2 rfl) rfl ?_
    refine DG.look rfl rfl (Yield.load ti54 rfl (by first | exact Cel.of_blk eX rfl | exact (hrow eX) _ _ rfl)) rfl ?_
    refine DG.look rfl rfl (Yield.move rfl) rfl ?_
    refine DG.look rfl rfl (Yield.shl (m := 32) (c := IntKind.i64.wrap ((b : Int) * 2 ^ 32)) rfl rfl rfl (by decide) rfl) rfl ?_
    refine DG.look rfl rfl (Yield.move rfl) rfl ?_
    refine DG.look rfl rfl (Yield.nilCheck rfl) rfl ?_
    refine DG.look rfl rfl (Yield.fieldAddr fa137_1 rfl) rfl ?_
    refine DG.look rfl rfl (Yield.load ti27 rfl (by first | exact Cel.of_blk eX rfl | exact (hrow eX) _ _ rfl)) rfl ?_
    refine DG.look rfl rfl (by first | exact Yield.conv Tryz.underlying3 rfl rfl (w64 (by omega) (by omega)) | exact Yield.conv Tryz.underlying3 rfl rfl rfl) rfl ?_
    refine DG.look rfl rfl (Yield.bitop (c := tm) rfl rfl rfl (by rw [htm]; rfl)) rfl ?_
    refine DG.eff1 ?_
    refine Chg.callo rfl rfl call217 rfl (iM) (timer_ok W0 _ (v := x.v) (q := S.q) (p := S.p) (a' := S.at') (s := S.set) (of_decide_eq_true hf2)) rfl (fun _ => iM) (fun _ => Imp.refl _) (fun _ => iM) ?_
    rintro ⟨⟩ -
    refine DG.eff1 ?_
    refine Chg.callx rfl rfl call210 rfl (Imp.refl _) (check_spec W0 _ 0) rfl (fun _ => iM) (fun _ => Imp.refl _) (fun _ => iM) (fun y hy => ?_) ?_
    · skip
      refine QG.pass_panic ?_
      exact absurd rfl hy.1
    rintro ⟨⟩ h0
    refine DG.done ?_
    refine QG.then ?_
    refine CG.seq ?_
    refine CG.region ?_
    refine OG.sg rfl rfl ?_
    refine OG.nil ?_
    refine QG.then ?_
    refine CG.ret ?_
    exact QG.bx (QG.ret1 rfl rfl (σ, ⟨0, 0, 0, { S with at' := tm, set := true }, R⟩) ⟨by rw [if_neg (by omega), if_pos hf2], h.L.mono (by omega)⟩ rfl iM)
  · skip
    refine CG.draw (.look 0 1 (.look 1 1 (.look 2 1 (.look 3 1 (.look 4 1 (.look 5 1 (.look 6 1 (.look 7 1 (.look 8 1 (.look 9 1 (.look 10 1 (.look 11 1 (.look 12 1 (.look 13 1 (.look 14 1 (.eff1 15 false (.eff1 16 false (.done)))))))))))))))))) [15, 16] [] ([]) ([]) mixed (by kernel_rfl) (Imp.none _) (Imp.none _) ?_
    refine DG.look rfl rfl (Yield.move rfl) rfl ?_
    refine DG.look rfl rfl (Yield.nilCheck rfl) rfl ?_
    refine DG.look rfl rfl (Yield.fieldAddr fa137_0 rfl) rfl ?_
    refine DG.look rfl rfl (Yield.load ti25 rfl (by first | exact Cel.of_blk eX rfl | exact (hrow eX) _ _ rfl)) rfl ?_
    refine DG.look rfl rfl (Yield.nilCheck rfl) rfl ?_
    refine DG.look rfl rfl (Yield.fieldAddr fa83_2 rfl) rfl ?_
    refine DG.look rfl rfl (Yield.load ti54 rfl (by first | exact Cel.of_blk eX rfl | exact (hrow eX) _ _ rfl)) rfl ?_
    refine DG.look rfl rfl (Yield.move rfl) rfl ?_
    refine DG.look rfl rfl (Yield.shl (m := 32) (c := IntKind.i64.wrap ((b : Int) * 2 ^ 32)) rfl rfl rfl (by decide) rfl) rfl ?_
    refine DG.look rfl rfl (Yield.move rfl) rfl ?_
    refine DG.look rfl rfl (Yield.nilCheck rfl) rfl ?_
    refine DG.look rfl rfl (Yield.fieldAddr fa137_1 rfl) rfl ?_
    refine DG.look rfl rfl (Yield.load ti27 rfl (by first | exact Cel.of_blk eX rfl | exact (hrow eX) _ _ rfl)) rfl ?_
    refine DG.look rfl rfl (by first | exact Yield.conv Tryz.underlying3 rfl rfl (w64 (by omega) (by omega)) | exact Yield.conv Tryz.underlying3 rfl rfl rfl) rfl ?_
    refine DG.look rfl rfl (Yield.bitop (c := tm) rfl rfl rfl (by rw [htm]; rfl)) rfl ?_
    refine DG.eff1 ?_
    refine Chg.callo rfl rfl call217 rfl (iM) (timer_bad W0 _ (v := x.v) (q := S.q) (p := S.p) (a' := S.at') (s := S.set) (fun q => hf2 (decide_eq_true q))) rfl (fun _ => iM) (fun _ => Imp.refl _) (fun _ => iM) ?_
    rintro ⟨⟩ -
    refine DG.eff1 ?_
    refine Chg.callx rfl rfl call210 rfl (Imp.refl _) (check_spec W0 _ 2) rfl (fun _ => iM) (fun _ => Imp.refl _) (fun _ => iM) (fun y hy => ?_) ?_
    · skip
      refine QG.pass_panic ?_
      exact QG.px (σ, 3) ⟨by rw [if_neg (by omega), if_neg hf2], h.L.mono (by omega)⟩ (by rw [hy.2]; rfl) iM
    rintro ⟨⟩ h0
    refine DG.done ?_
    refine QG.then ?_
    refine CG.seq ?_
    refine CG.region ?_
    refine OG.sg rfl rfl ?_
    refine OG.nil ?_
    refine QG.then ?_
    refine CG.ret ?_
    exact absurd h0 (by decide)
theorem m_ack (h : HK qs rt σ cc x S qk) (ha : a < 4294967296) (hb : b < 4294967296) (hc : c < 4294967296) : Meth W0 Fr 184 cl x a b c rg S R qs rt σ cc (ocAck S R a) := by
  have hcc := h.hc
  unfold Meth
  refine CtrX.of_body Tryz.func184 rfl Tryz.ntmps184 rfl ?_
  dsimp only [mG, hG, WG, heB, clB]
  refine CG.seq ?_
  refine CG.region ?_
  refine OG.sg rfl rfl ?_
  refine OG.nil ?_
  refine QG.then ?_
  refine CG.seq ?_
  refine CG.draw (.look 0 1 (.look 1 1 (.look 2 1 (.look 3 1 (.look 4 1 (.look 5 1 (.look 6 1 (.look 7 1 (.look 8 1 (.look 9 1 (.look 10 1 (.eff1 11 false (.done))))))))))))) [11] [] ([]) ([]) mixed (by kernel_rfl) (Imp.none _) (Imp.none _) ?_
  refine DG.look rfl rfl (Yield.move rfl) rfl ?_
  refine DG.look rfl rfl (Yield.nilCheck rfl) rfl ?_
  refine DG.look rfl rfl (Yield.fieldAddr fa137_0 rfl) rfl ?_
  refine DG.look rfl rfl (Yield.load ti25 rfl (by first | exact Cel.of_blk eX rfl | exact (hrow eX) _ _ rfl)) rfl ?_
  refine DG.look rfl rfl (Yield.nilCheck rfl) rfl ?_
  refine DG.look rfl rfl (Yield.fieldAddr fa83_2 rfl) rfl ?_
  refine DG.look rfl rfl (Yield.load ti54 rfl (by first | exact Cel.of_blk eX rfl | exact (hrow eX) _ _ rfl)) rfl ?_
  refine DG.look rfl rfl (Yield.move rfl) rfl ?_
  refine DG.look rfl rfl (Yield.nilCheck rfl) rfl ?_
  refine DG.look rfl rfl (Yield.fieldAddr fa137_1 rfl) rfl ?_
  refine DG.look rfl rfl (Yield.load ti27 rfl (by first | exact Cel.of_blk eX rfl | exact (hrow eX) _ _ rfl)) rfl ?_
  refine DG.eff1 ?_
  refine Chg.callo rfl rfl call218 rfl (iM) (Vi.ack_spec W0 _ (v := x.v) (q := S.q) (p := S.p) (a := S.at') (s := S.set) (m := a) h.p ha) rfl (fun _ => iM) (fun _ => Imp.refl _) (fun _ => iM) ?_
  rintro ⟨⟩ -
  refine DG.done ?_
  refine QG.then ?_
  refine CG.seq ?_
  refine CG.region ?_
  refine OG.sg rfl rfl ?_
  refine OG.nil ?_
  refine QG.then ?_
  refine CG.ret ?_
  exact QG.bx (QG.ret1 rfl rfl (σ, ⟨0, 0, 0, { S with p := Vi.clr S.p a }, R⟩) ⟨rfl, h.L.mono (by omega)⟩ rfl iM)
theorem m_info (h : HK qs rt σ cc x S qk) (ha : a < 4294967296) (hb : b < 4294967296) (hc : c < 4294967296) : Meth W0 Fr 185 cl x a b c rg S R qs rt σ cc (ocInfo S R a) := by
  have hcc := h.hc
  unfold Meth
  refine CtrX.of_body Tryz.func185 rfl Tryz.ntmps185 rfl ?_
  dsimp only [mG, hG, WG, heB, clB]
  refine CG.seq ?_
  refine CG.region ?_
  refine OG.sg rfl rfl ?_
  refine OG.nil ?_
  refine QG.then ?_
  refine CG.seq ?_
  refine CG.seq ?_
  refine CG.region ?_
  refine OG.mv rfl rfl ?_
  refine OG.yield (Yield.nilCheck rfl) rfl ?_
  refine OG.yield (Yield.fieldAddr fa137_1 rfl) rfl ?_
  refine OG.yield (Yield.load ti27 rfl (by first | exact Cel.of_blk eX rfl | exact (hrow eX) _ _ rfl)) rfl ?_
  refine OG.nil ?_
  refine QG.then ?_
  refine CG.block ?_
  refine CG.seq ?_
  refine CG.region ?_
  refine OG.yield (Yield.eql rfl rfl) rfl ?_
  refine OG.sg rfl rfl ?_
  refine OG.nil ?_
  refine QG.then ?_
  refine CG.cond rfl (fun hc => ?_) (fun hc => ?_)
  · try replace hc := of_decide_eq_true hc
    refine CG.seq ?_
    refine CG.region ?_
    refine OG.mv rfl rfl ?_
    refine OG.yield (Yield.nilCheck rfl) rfl ?_
    refine OG.yield (Yield.fieldAddr fa137_0 rfl) rfl ?_
    refine OG.yield (Yield.load ti25 rfl (by first | exact Cel.of_blk eX rfl | exact (hrow eX) _ _ rfl)) rfl ?_
    refine OG.yield (Yield.nilCheck rfl) rfl ?_
    refine OG.yield (Yield.fieldAddr fa83_0 rfl) rfl ?_
    refine OG.yield (Yield.load ti3 rfl (by first | exact Cel.of_blk eX rfl | exact (hrow eX) _ _ rfl)) rfl ?_
    refine OG.yield (by first | exact Yield.conv Tryz.underlying27 rfl rfl (wu32 (by omega) (by omega)) | exact Yield.conv Tryz.underlying27 rfl rfl rfl) rfl ?_
    refine OG.sg rfl rfl ?_
    refine OG.nil ?_
    refine QG.then ?_
    refine CG.ret ?_
    refine QG.block_ret ?_
    refine QG.pass_ret ?_
    obtain rfl : a = 0 := by omega
    exact QG.bx (QG.ret1 rfl rfl (σ, ⟨0, 0, 0, S, R⟩) ⟨rfl, h.L.mono (by omega)⟩ rfl iM)
  · try replace hc := of_decide_eq_false hc
    have k1 : ¬ a = 0 := by omega
    refine CG.seq ?_
    refine CG.region ?_
    refine OG.yield (Yield.eql rfl rfl) rfl ?_
    refine OG.sg rfl rfl ?_
    refine OG.nil ?_
    refine QG.then ?_
    refine CG.cond rfl (fun hc => ?_) (fun hc => ?_)
    · try replace hc := of_decide_eq_true hc
      refine CG.seq ?_
      refine CG.region ?_
      refine OG.mv rfl rfl ?_
      refine OG.yield (Yield.nilCheck rfl) rfl ?_
      refine OG.yield (Yield.fieldAddr fa137_0 rfl) rfl ?_
      refine OG.yield (Yield.load ti25 rfl (by first | exact Cel.of_blk eX rfl | exact (hrow eX) _ _ rfl)) rfl ?_
      refine OG.yield (Yield.nilCheck rfl) rfl ?_
      refine OG.yield (Yield.fieldAddr fa83_7 rfl) rfl ?_
      refine OG.yield (Yield.load ti3 rfl (by first | exact Cel.of_blk eX rfl | exact (hrow eX) _ _ rfl)) rfl ?_
      refine OG.yield (Yield.conv (c := w32 S.major) Tryz.underlying27 rfl rfl rfl) rfl ?_
      refine OG.sg rfl rfl ?_
      refine OG.nil ?_
      refine QG.then ?_
      refine CG.ret ?_
      refine QG.block_ret ?_
      refine QG.pass_ret ?_
      obtain rfl : a = 1 := by omega
      exact QG.bx (QG.ret1 rfl rfl (σ, ⟨_, 0, 0, S, R⟩) ⟨rfl, h.L.mono (by omega)⟩ rfl iM)
    · try replace hc := of_decide_eq_false hc
      have k2 : ¬ a = 1 := by omega
      refine CG.seq ?_
      refine CG.region ?_
      refine OG.yield (Yield.eql rfl rfl) rfl ?_
      refine OG.sg rfl rfl ?_
      refine OG.nil ?_
      refine QG.then ?_
      refine CG.cond rfl (fun hc => ?_) (fun hc => ?_)
      · try replace hc := of_decide_eq_true hc
        refine CG.seq ?_
        refine CG.region ?_
        refine OG.mv rfl rfl ?_
        refine OG.yield (Yield.nilCheck rfl) rfl ?_
        refine OG.yield (Yield.fieldAddr fa137_0 rfl) rfl ?_
        refine OG.yield (Yield.load ti25 rfl (by first | exact Cel.of_blk eX rfl | exact (hrow eX) _ _ rfl)) rfl ?_
        refine OG.yield (Yield.nilCheck rfl) rfl ?_
        refine OG.yield (Yield.fieldAddr fa83_4 rfl) rfl ?_
        refine OG.yield (Yield.load ti56 rfl (by first | exact Cel.of_blk eX rfl | exact (hrow eX) _ _ rfl)) rfl ?_
        refine OG.callo call38 rfl (iM) (Vd.waiting_spec W0 _ (d := x.d) (s := S.d)) rfl ?_
        rintro ⟨ja, jc⟩ -
        refine OG.yield (Yield.len_slice Tryz.underlying37 rfl rfl) rfl ?_
        refine OG.yield (Yield.conv (c := w32 (S.d.asks.map Vd.Ak.tag).length) Tryz.underlying27 rfl rfl rfl) rfl ?_
        refine OG.sg rfl rfl ?_
        refine OG.nil ?_
        refine QG.then ?_
        refine CG.ret ?_
        refine QG.block_ret ?_
        refine QG.pass_ret ?_
        obtain rfl : a = 2 := by omega
        exact QG.bx (QG.ret1 rfl rfl (σ, ⟨_, 0, 0, S, R⟩) ⟨rfl, h.L.mono (by omega)⟩ rfl iM)
      · try replace hc := of_decide_eq_false hc
        have k3 : ¬ a = 2 := by omega
        refine CG.seq ?_
        refine CG.region ?_
        refine OG.yield (Yield.eql rfl rfl) rfl ?_
        refine OG.sg rfl rfl ?_
        refine OG.nil ?_
        refine QG.then ?_
        refine CG.cond rfl (fun hc => ?_) (fun hc => ?_)
        · try replace hc := of_decide_eq_true hc
          refine CG.seq ?_
          refine CG.region ?_
          refine OG.mv rfl rfl ?_
          refine OG.yield (Yield.nilCheck rfl) rfl ?_
          refine OG.yield (Yield.fieldAddr fa137_0 rfl) rfl ?_
          refine OG.yield (Yield.load ti25 rfl (by first | exact Cel.of_blk eX rfl | exact (hrow eX) _ _ rfl)) rfl ?_
          refine OG.yield (Yield.nilCheck rfl) rfl ?_
          refine OG.yield (Yield.fieldAddr fa83_4 rfl) rfl ?_
          refine OG.yield (Yield.load ti56 rfl (by first | exact Cel.of_blk eX rfl | exact (hrow eX) _ _ rfl)) rfl ?_
          refine OG.callo call39 rfl (iM) (Vd.told_spec W0 _ (d := x.d) (s := S.d)) rfl ?_
          rintro ⟨ja, jc⟩ -
          dsimp only
          refine OG.sg rfl rfl ?_
          refine OG.nil ?_
          refine QG.then ?_
          refine CG.seq ?_
          refine CG.seq ?_
          refine CG.region ?_
          refine OG.mv rfl rfl ?_
          refine OG.yield (Yield.len_slice Tryz.underlying37 rfl rfl) rfl ?_
          refine OG.yield (Yield.eql rfl rfl) rfl ?_
          refine OG.nil ?_
          refine QG.then ?_
          refine CG.cond rfl (fun hc => ?_) (fun hc => ?_)
          · try replace hc := of_decide_eq_true hc
            refine CG.seq ?_
            refine CG.region ?_
            refine OG.sg rfl rfl ?_
            refine OG.nil ?_
            refine QG.then ?_
            refine CG.ret ?_
            refine QG.pass_ret ?_
            refine QG.block_ret ?_
            refine QG.pass_ret ?_
            obtain rfl : a = 3 := by omega
            have hnil : S.d.told = [] := List.length_eq_zero_iff.1 (by omega)
            exact QG.bx (QG.ret1 rfl rfl (σ, ⟨0, 0, 0, S, R⟩) ⟨by unfold ocInfo; simp [hnil], h.L.mono (by omega)⟩ rfl iM)
          · try replace hc := of_decide_eq_false hc
            obtain ⟨lst, hls⟩ : ∃ lst, S.d.told.getLast? = some lst := by
              cases hg : S.d.told.getLast? with
              | some y => exact ⟨y, rfl⟩
              | none => rw [List.getLast?_eq_none_iff.1 hg] at hc; exact absurd rfl hc
            have hgl : S.d.told[S.d.told.length - 1]? = some lst := by rw [← List.getLast?_eq_getElem?]; exact hls
            refine CG.pure (fun w hw => SlR.shape (SlR.of_osl (W0 := W0) (E := 27) (a := ja) (c := jc) eX) (fun q => by have := congrArg List.length q; simp only [Ms.intsV, List.length_map, List.length_nil] at this; omega) w hw) ?_
            rintro ⟨jl, jo, rfl⟩
            have hto := h.told
            refine CG.skip ?_
            refine QG.then ?_
            refine CG.seq ?_
            refine CG.region ?_
            refine OG.mv rfl rfl ?_
            refine OG.mv rfl rfl ?_
            refine OG.yield (Yield.len_slice Tryz.underlying37 rfl rfl) rfl ?_
            refine OG.yield (Yield.sub (c := ((S.d.told.length - 1 : Nat) : Int)) rfl rfl (by rw [show (S.d.told.length : Int) - 1 = ((S.d.told.length - 1 : Nat) : Int) by omega]; exact w64 (by omega) (by omega))) rfl ?_
            refine OG.yield (Yield.index_slice Tryz.underlying37 ti27 rfl rfl (by omega) (by omega)) rfl ?_
            refine OG.yield (Yield.load (v := .int .u32 lst) ti27 rfl (by rw [show jo + ((S.d.told.length - 1 : Nat) : Int).toNat * 1 = jo + (S.d.told.length - 1) by omega]; exact (SlR.of_osl (W0 := W0) (E := 27) (a := some ⟨jl, jo, none⟩) (c := jc) eX).cel (Ms.intsV_get hgl))) rfl ?_
            refine OG.sg rfl rfl ?_
            refine OG.nil ?_
            refine QG.then ?_
            refine CG.ret ?_
            refine QG.block_ret ?_
            refine QG.pass_ret ?_
            obtain rfl : a = 3 := by omega
            exact QG.bx (QG.ret1 rfl rfl (σ, ⟨lst, 0, 0, S, R⟩) ⟨by unfold ocInfo; simp [hls], h.L.mono (by omega)⟩ rfl iM)
        · try replace hc := of_decide_eq_false hc
          have k4 : ¬ a = 3 := by omega
          refine CG.seq ?_
          refine CG.region ?_
          refine OG.yield (Yield.eql rfl rfl) rfl ?_
          refine OG.sg rfl rfl ?_
          refine OG.nil ?_
          refine QG.then ?_
          refine CG.cond rfl (fun hc => ?_) (fun hc => ?_)
          · try replace hc := of_decide_eq_true hc
            refine CG.seq ?_
            refine CG.region ?_
            refine OG.mv rfl rfl ?_
            refine OG.yield (Yield.nilCheck rfl) rfl ?_
            refine OG.yield (Yield.fieldAddr fa137_0 rfl) rfl ?_
            refine OG.yield (Yield.load ti25 rfl (by first | exact Cel.of_blk eX rfl | exact (hrow eX) _ _ rfl)) rfl ?_
            refine OG.yield (Yield.nilCheck rfl) rfl ?_
            refine OG.yield (Yield.fieldAddr fa83_3 rfl) rfl ?_
            refine OG.yield (Yield.load ti55 rfl (by first | exact Cel.of_blk eX rfl | exact (hrow eX) _ _ rfl)) rfl ?_
            refine OG.callo call36 rfl (iM) (Vc.in_spec W0 _ (g := x.k) (out := S.out) (inn := S.inn)) rfl ?_
            rintro ⟨ja, jc⟩ -
            dsimp only
            refine OG.yield (Yield.len_slice Tryz.underlying32 rfl rfl) rfl ?_
            refine OG.yield (Yield.conv (c := w32 S.inn.length) Tryz.underlying27 rfl rfl rfl) rfl ?_
            refine OG.sg rfl rfl ?_
            refine OG.nil ?_
            refine QG.then ?_
            refine CG.ret ?_
            refine QG.block_ret ?_
            refine QG.pass_ret ?_
            obtain rfl : a = 4 := by omega
            exact QG.bx (QG.ret1 rfl rfl (σ, ⟨_, 0, 0, S, R⟩) ⟨rfl, h.L.mono (by omega)⟩ rfl iM)
          · try replace hc := of_decide_eq_false hc
            have k5 : ¬ a = 4 := by omega
            refine CG.seq ?_
            refine CG.region ?_
            refine OG.yield (Yield.eql rfl rfl) rfl ?_
            refine OG.sg rfl rfl ?_
            refine OG.nil ?_
            refine QG.then ?_
            refine CG.cond rfl (fun hc => ?_) (fun hc => ?_)
            · try replace hc := of_decide_eq_true hc
              refine CG.seq ?_
              refine CG.region ?_
              refine OG.mv rfl rfl ?_
              refine OG.yield (Yield.nilCheck rfl) rfl ?_
              refine OG.yield (Yield.fieldAddr fa137_0 rfl) rfl ?_
              refine OG.yield (Yield.load ti25 rfl (by first | exact Cel.of_blk eX rfl | exact (hrow eX) _ _ rfl)) rfl ?_
              refine OG.yield (Yield.nilCheck rfl) rfl ?_
              refine OG.yield (Yield.fieldAddr fa83_3 rfl) rfl ?_
              refine OG.yield (Yield.load ti55 rfl (by first | exact Cel.of_blk eX rfl | exact (hrow eX) _ _ rfl)) rfl ?_
              refine OG.callo call21 rfl (iM) (Vc.out_spec W0 _ (g := x.k) (out := S.out) (inn := S.inn)) rfl ?_
              rintro ⟨ja, jc⟩ -
              dsimp only
              refine OG.yield (Yield.len_slice Tryz.underlying32 rfl rfl) rfl ?_
              refine OG.yield (Yield.sub (c := IntKind.i64.wrap (64 - (S.out.length : Int))) rfl rfl rfl) rfl ?_
              refine OG.yield (Yield.conv (c := w32 (IntKind.i64.wrap (64 - (S.out.length : Int)))) Tryz.underlying27 rfl rfl rfl) rfl ?_
              refine OG.sg rfl rfl ?_
              refine OG.nil ?_
              refine QG.then ?_
              refine CG.ret ?_
              refine QG.block_ret ?_
              refine QG.pass_ret ?_
              obtain rfl : a = 5 := by omega
              exact QG.bx (QG.ret1 rfl rfl (σ, ⟨_, 0, 0, S, R⟩) ⟨rfl, h.L.mono (by omega)⟩ rfl iM)
            · try replace hc := of_decide_eq_false hc
              have k6 : ¬ a = 5 := by omega
              refine CG.skip ?_
              refine QG.block_normal ?_
              refine QG.then ?_
              refine CG.region ?_
              refine OG.yield (Yield.makeIface Tryz.underlying235 (by intro _ h; cases h) rfl) rfl ?_
              refine OG.panic rfl ?_
              exact QG.px (σ, 3) ⟨by unfold ocInfo; rw [if_neg k1, if_neg k2, if_neg k3, if_neg k4, if_neg k5, if_neg k6], h.L.mono (by omega)⟩ rfl iM
end
end Go.Proofs.YtphljkplokjonaaGreat.Hc
/- Calls of a partition: one call from end to end. -/
namespace Go.Proofs.YtphljkplokjonaaGreat.Hc
open Go Go.Sl Go.RowKit Go.Proofs Go.Proofs.YtphljkplokjonaaGreat.T Go.Proofs.YtphljkplokjonaaGreat.Sp
set_option maxRecDepth 100000
/-- What a call comes to, thrown or not. -/
def fin (S : HS) (R : List Value) : Nat ⊕ MO → MO
  | .inl k => ⟨IntKind.u32.wrap (0 - (k : Int)), 0, 0, S, R⟩
  | .inr m => m
def fnv (F cl : Nat) : Value := .func (.func F) #[.pointer (some ⟨cl, 0, none⟩)] #[]
def mths (cl : Nat) : List Value := [.nilFunc, fnv 172 cl, fnv 173 cl, fnv 174 cl, fnv 175 cl, fnv 176 cl, fnv 177 cl, fnv 178 cl, fnv 179 cl, fnv 180 cl, fnv 181 cl, fnv 182 cl, fnv 183 cl, fnv 184 cl, fnv 185 cl]
theorem DCtr.imp {P : Program} {W0 : World} {f : FuncId} {args : List Value} {u u' : FrameMode} {G G1 : List HProp} {α : Type} {φ : α → Prop} {G' : α → List HProp} (h : Imp G G1) (k : DCtr P W0 f args u u' G1 φ G') : DCtr P W0 f args u u' G φ G' := fun w hw => k w (hw.imp h)
/-- What a call by number comes to. -/
def ocOf (qk : Int) (S : HS) (R : List Value) (n a b c : Nat) : Nat ⊕ MO :=
  match n with
  | 1 => .inr ⟨0, 0, 1, S, R⟩
  | 2 => ocMap qk S R a b
  | 3 => ocUnmap S R a
  | 4 => ocProt S R a b
  | 5 => ocWrite S R a b
  | 6 => ocRead S R a b
  | 7 => ocDiskR S R a b
  | 8 => ocDiskW S R a b
  | 9 => ocSend S R a b c
  | 10 => ocRecv S R a b c
  | 11 => ocTime S R
  | 12 => ocTimer S R a b
  | 13 => ocAck S R a
  | 14 => ocInfo S R a
  | _ => .inl 1
section
variable (W0 : World) (Fr : List HProp)
theorem calls_spec {cl : Nat} : Ctr Tryz.prog W0 127 [.pointer (some ⟨cl, 0, none⟩)] Fr (fun _ : Nat => True) (fun z => .slice (some ⟨z, 0, none⟩) 15 15) (fun z => osl 92 1 (some ⟨z, 0, none⟩) 15 15 (mths cl) :: Fr) := by
  refine Ctr.of_body Tryz.func127 rfl Tryz.ntmps127 rfl ?_
  refine CG.seq ?_
  refine CG.region ?_
  refine OG.sg rfl rfl ?_
  refine OG.nil ?_
  refine QG.then ?_
  refine CG.seq ?_
  refine CG.region ?_
  refine OG.mv rfl rfl ?_
  refine OG.yield (Yield.makeFunc (first := [.tmp 3]) (cap := []) rfl rfl) rfl ?_
  refine OG.mv rfl rfl ?_
  refine OG.yield (Yield.makeFunc (first := [.tmp 5]) (cap := []) rfl rfl) rfl ?_
  refine OG.mv rfl rfl ?_
  refine OG.yield (Yield.makeFunc (first := [.tmp 7]) (cap := []) rfl rfl) rfl ?_
  refine OG.mv rfl rfl ?_
  refine OG.yield (Yield.makeFunc (first := [.tmp 9]) (cap := []) rfl rfl) rfl ?_
  refine OG.mv rfl rfl ?_
  refine OG.yield (Yield.makeFunc (first := [.tmp 11]) (cap := []) rfl rfl) rfl ?_
  refine OG.mv rfl rfl ?_
  refine OG.yield (Yield.makeFunc (first := [.tmp 13]) (cap := []) rfl rfl) rfl ?_
  refine OG.mv rfl rfl ?_
  refine OG.yield (Yield.makeFunc (first := [.tmp 15]) (cap := []) rfl rfl) rfl ?_
  refine OG.mv rfl rfl ?_
  refine OG.yield (Yield.makeFunc (first := [.tmp 17]) (cap := []) rfl rfl) rfl ?_
  refine OG.mv rfl rfl ?_
  refine OG.yield (Yield.makeFunc (first := [.tmp 19]) (cap := []) rfl rfl) rfl ?_
  refine OG.mv rfl rfl ?_
  refine OG.yield (Yield.makeFunc (first := [.tmp 21]) (cap := []) rfl rfl) rfl ?_
  refine OG.mv rfl rfl ?_
  refine OG.yield (Yield.makeFunc (first := [.tmp 23]) (cap := []) rfl rfl) rfl ?_
  refine OG.mv rfl rfl ?_
  refine OG.yield (Yield.makeFunc (first := [.tmp 25]) (cap := []) rfl rfl) rfl ?_
  refine OG.mv rfl rfl ?_
  refine OG.yield (Yield.makeFunc (first := [.tmp 27]) (cap := []) rfl rfl) rfl ?_
  refine OG.mv rfl rfl ?_
  refine OG.yield (Yield.makeFunc (first := [.tmp 29]) (cap := []) rfl rfl) rfl ?_
  refine OG.effd (Eff.lit [.const .nilFunc, .tmp 4, .tmp 6, .tmp 8, .tmp 10, .tmp 12, .tmp 14, .tmp 16, .tmp 18, .tmp 20, .tmp 22, .tmp 24, .tmp 26, .tmp 28, .tmp 30] (vs := mths cl) (cells := mths cl) Tryz.underlying236 ti92 rfl rfl rfl rfl (by decide) (by simp [mths, fnv, Value.cells]) (by simp [mths, fnv, Value.cells])) rfl ?_
  rintro b31 -
  refine OG.sg rfl rfl ?_
  refine OG.nil ?_
  refine QG.then ?_
  refine CG.ret ?_
  exact QG.ret1 rfl rfl b31 trivial rfl iM
theorem do1_ret {c2 c4 : Nat} : DCtr Tryz.prog W0 126 [.pointer (some ⟨c2, 0, none⟩), .pointer (some ⟨c4, 0, none⟩)] .returning .returning Fr (fun _ : Unit => True) (fun _ => Fr) := by
  refine DCtr.of_body Tryz.func126 rfl Tryz.ntmps126 rfl rfl rfl ?_
  refine CG.block ?_
  refine CG.seq ?_
  refine CG.region ?_
  refine OG.yield (Yield.nil_is Tryz.underlying20 rfl) rfl ?_
  refine OG.nil ?_
  refine QG.then ?_
  refine CG.cond_t rfl ?_
  refine CG.region ?_
  refine OG.sg rfl rfl ?_
  refine OG.nil ?_
  refine QG.block_normal ?_
  exact QG.end0 rfl () trivial rfl iM
theorem do1_pan {c2 c4 cl k : Nat} {x : HP} {a b c rg : Nat} {cp ef old : Int} : DCtr Tryz.prog W0 126 [.pointer (some ⟨c2, 0, none⟩), .pointer (some ⟨c4, 0, none⟩)] (.panicking (pnc (.iface 235 (.int .i64 k)))) (.panicking [{ v := .iface 235 (.int .i64 k), recovered := true }])
    (blk c2 [.pointer (some ⟨cl, 0, none⟩)] 134 :: blk c4 [.int .u32 old] 27 :: clB cl x a b c rg cp ef :: Fr) (fun _ : Unit => True) (fun _ => blk c2 [.pointer (some ⟨cl, 0, none⟩)] 134 :: blk c4 [.int .u32 (IntKind.u32.wrap (0 - IntKind.u32.wrap k))] 27 :: clB cl x a b c rg 0 ef :: Fr) := by
  refine DCtr.of_body Tryz.func126 rfl Tryz.ntmps126 rfl rfl rfl ?_
  dsimp only [clB]
  refine CG.block ?_
  refine CG.seq ?_
  refine CG.region ?_
  refine OG.yield (Yield.nil_not Tryz.underlying20 rfl) rfl ?_
  refine OG.nil ?_
  refine QG.then ?_
  refine CG.cond_f rfl ?_
  refine CG.seq ?_
  refine CG.region ?_
  refine OG.yield (Yield.assert Tryz.underlying235 (by intro _ h; cases h) rfl) rfl ?_
  refine OG.yield (Yield.extract rfl rfl) rfl ?_
  refine OG.yield (Yield.extract rfl rfl) rfl ?_
  refine OG.nil ?_
  refine QG.then ?_
  refine CG.cond_t rfl ?_
  refine CG.seq ?_
  refine CG.region ?_
  refine OG.sg rfl rfl ?_
  refine OG.nil ?_
  refine QG.then ?_
  refine CG.seq ?_
  refine CG.region ?_
  refine OG.yield (Yield.load ti134 rfl (by first | exact Cel.of_blk eX rfl | exact (hrow eX) _ _ rfl)) rfl ?_
  refine OG.yield (Yield.nilCheck rfl) rfl ?_
  refine OG.yield (Yield.fieldAddr fa137_5 rfl) rfl ?_
  refine OG.eff (Eff.store1 ti3 rfl rfl fC rfl (by first | (simp; done) | decide)) rfl ?_
  rintro ⟨⟩ -
  refine OG.nil ?_
  refine QG.then ?_
  refine CG.region ?_
  refine OG.mv rfl rfl ?_
  refine OG.yield (Yield.conv (c := IntKind.u32.wrap k) Tryz.underlying27 rfl rfl rfl) rfl ?_
  refine OG.yield (Yield.neg (c := IntKind.u32.wrap (0 - IntKind.u32.wrap k)) rfl rfl) rfl ?_
  refine OG.eff (Eff.store1 ti27 rfl rfl fC rfl (by first | (simp; done) | decide)) rfl ?_
  rintro ⟨⟩ -
  refine OG.nil ?_
  refine QG.block_normal ?_
  exact QG.end0 rfl () trivial rfl iM
variable {x : HP} {S : HS} {qs : List Int} {rt : Nat → Option Nat} {σ : St} {cc cl a b c rg : Nat} {qk : Int} {R : List Value}
theorem errw {k : Nat} (hk : k < 4294967296) : IntKind.u32.wrap (0 - IntKind.u32.wrap k) = IntKind.u32.wrap (0 - (k : Int)) := by rw [show IntKind.u32.wrap (k : Int) = k from wu32 (by omega) (by omega)]
/-- What a number names. -/
def Named (W0 : World) (x : HP) (S : HS) (R : List Value) (qs : List Int) (rt : Nat → Option Nat) (σ : St) (cc cl a b c rg n : Nat) (oc : Nat ⊕ MO) : Prop :=
  (n = 0 ∧ oc = .inl 1) ∨ (15 ≤ n ∧ oc = .inl 1) ∨ (1 ≤ n ∧ n < 15 ∧ ∃ F, (mths cl)[n]? = some (fnv F cl) ∧ CallOK Tryz.prog F ∧ ∀ Fr, Meth W0 Fr F cl x a b c rg S R qs rt σ cc oc)
theorem do_spec {n : Nat} {oc : Nat ⊕ MO} (hn : n < 4294967296) (h : HK qs rt σ cc x S qk) (hm : Named W0 x S R qs rt σ cc cl a b c rg n oc) (hoc : ∀ k, oc = .inl k → k < 4294967296) :
    Ctr Tryz.prog W0 66 [.pointer (some ⟨cl, 0, none⟩), .int .u32 n] (mG cl x a b c rg 0 0 S R qs σ Fr) (fun y : St => Lk 64 qs rt (fin S R oc).S.o (cc + 8192) y) (fun _ => .int .u32 (fin S R oc).ans) (fun y => mG cl x a b c rg (fin S R oc).cp (fin S R oc).ef (fin S R oc).S (fin S R oc).R qs y Fr) := by
  refine Ctr.of_bodyD Tryz.func66 rfl Tryz.ntmps66 rfl ?_
  refine CG.seq ?_
  refine CG.region ?_
  refine OG.effd (Eff.box rfl) rfl ?_
  rintro b2 -
  refine OG.effd (Eff.alloc ti27) rfl ?_
  rintro b4 -
  refine OG.nil ?_
  refine QG.then ?_
  refine CG.seq ?_
  refine CG.region ?_
  refine OG.yield (Yield.makeFunc (first := []) (cap := [.tmp 2, .tmp 4]) rfl rfl) rfl ?_
  refine OG.defer rfl rfl ?_
  refine OG.nil ?_
  refine QG.then ?_
  refine CG.seq ?_
  refine CG.region ?_
  refine OG.yield (Yield.load ti134 rfl (by first | exact Cel.of_blk eX rfl | exact (hrow eX) _ _ rfl)) rfl ?_
  refine OG.callo call127 rfl (iM) (calls_spec W0 _ (cl := cl)) rfl ?_
  rintro fb -
  refine OG.sg rfl rfl ?_
  refine OG.nil ?_
  refine QG.then ?_
  refine CG.seq ?_
  refine CG.seq ?_
  rcases hm with ⟨hn0, he⟩ | ⟨hn0, he⟩ | ⟨hn1, hn2, F, hF, hcF, hM⟩
  · skip
    refine CG.region ?_
    refine OG.mv rfl rfl ?_
    refine OG.yield (Yield.as (Yield.eql rfl rfl) (v' := .bool true) (bT (by omega))) rfl ?_
    refine OG.mv rfl rfl ?_
    refine OG.gn rfl rfl rfl rfl rfl ?_
    refine OG.gn rfl rfl rfl rfl rfl ?_
    refine OG.gn rfl rfl rfl rfl rfl ?_
    refine OG.gn rfl rfl rfl rfl rfl ?_
    refine OG.gn rfl rfl rfl rfl rfl ?_
    refine OG.gn rfl rfl rfl rfl rfl ?_
    refine OG.yield Yield.pickA rfl ?_
    refine OG.nil ?_
    refine QG.then ?_
    refine CG.cond_t rfl ?_
    refine CG.region ?_
    refine OG.yield (Yield.makeIface Tryz.underlying235 (by intro _ h; cases h) rfl) rfl ?_
    refine OG.panic rfl ?_
    refine QG.pass_panic ?_
    subst he
    exact QG.leave_panic call126 (DCtr.imp iM (do1_pan W0 (blk rg R 31 :: hG x S qs σ Fr) (cl := cl) (k := 1) (x := x) (a := a) (b := b) (c := c) (rg := rg) (cp := 0) (ef := 0) (old := 0))) (fun _ => [.int .u32 (IntKind.u32.wrap (0 - IntKind.u32.wrap ((1 : Nat) : Int)))]) rfl (fun _ _ => ⟨ResP.cell ti27 rfl (Cel.of_blk eX rfl), trivial⟩) (fun _ _ => ⟨σ, h.L.mono (by omega), congrArg (Value.int .u32) (errw (by omega)).symm, iM⟩)
  · skip
    refine CG.region ?_
    refine OG.mv rfl rfl ?_
    refine OG.yield (Yield.as (Yield.eql rfl rfl) (v' := .bool false) (bF (by omega))) rfl ?_
    refine OG.mv rfl rfl ?_
    refine OG.gy rfl rfl rfl ?_
    refine OG.mv rfl rfl ?_
    refine OG.gy rfl rfl rfl ?_
    refine OG.yield (Yield.conv (c := (n : Int)) Tryz.underlying24 rfl rfl (wu64 (by omega) (by omega))) rfl ?_
    refine OG.gy rfl rfl rfl ?_
    refine OG.mv rfl rfl ?_
    refine OG.gy rfl rfl rfl ?_
    refine OG.yield (Yield.len_slice Tryz.underlying236 rfl rfl) rfl ?_
    refine OG.gy rfl rfl rfl ?_
    refine OG.yield (Yield.conv (c := ((15 : Nat) : Int)) Tryz.underlying24 rfl rfl (by decide)) rfl ?_
    refine OG.gy rfl rfl rfl ?_
    refine OG.yield (Yield.as (Yield.geq rfl rfl) (v' := .bool true) (bT (by omega))) rfl ?_
    refine OG.yield Yield.pickA rfl ?_
    refine OG.nil ?_
    refine QG.then ?_
    refine CG.cond_t rfl ?_
    refine CG.region ?_
    refine OG.yield (Yield.makeIface Tryz.underlying235 (by intro _ h; cases h) rfl) rfl ?_
    refine OG.panic rfl ?_
    refine QG.pass_panic ?_
    subst he
    exact QG.leave_panic call126 (DCtr.imp iM (do1_pan W0 (blk rg R 31 :: hG x S qs σ Fr) (cl := cl) (k := 1) (x := x) (a := a) (b := b) (c := c) (rg := rg) (cp := 0) (ef := 0) (old := 0))) (fun _ => [.int .u32 (IntKind.u32.wrap (0 - IntKind.u32.wrap ((1 : Nat) : Int)))]) rfl (fun _ _ => ⟨ResP.cell ti27 rfl (Cel.of_blk eX rfl), trivial⟩) (fun _ _ => ⟨σ, h.L.mono (by omega), congrArg (Value.int .u32) (errw (by omega)).symm, iM⟩)
  · skip
    refine CG.region ?_
    refine OG.mv rfl rfl ?_
    refine OG.yield (Yield.as (Yield.eql rfl rfl) (v' := .bool false) (bF (by omega))) rfl ?_
    refine OG.mv rfl rfl ?_
    refine OG.gy rfl rfl rfl ?_
    refine OG.mv rfl rfl ?_
    refine OG.gy rfl rfl rfl ?_
    refine OG.yield (Yield.conv (c := (n : Int)) Tryz.underlying24 rfl rfl (wu64 (by omega) (by omega))) rfl ?_
    refine OG.gy rfl rfl rfl ?_
    refine OG.mv rfl rfl ?_
    refine OG.gy rfl rfl rfl ?_
    refine OG.yield (Yield.len_slice Tryz.underlying236 rfl rfl) rfl ?_
    refine OG.gy rfl rfl rfl ?_
    refine OG.yield (Yield.conv (c := ((15 : Nat) : Int)) Tryz.underlying24 rfl rfl (by decide)) rfl ?_
    refine OG.gy rfl rfl rfl ?_
    refine OG.yield (Yield.as (Yield.geq rfl rfl) (v' := .bool false) (bF (by omega))) rfl ?_
    refine OG.yield Yield.pickA rfl ?_
    refine OG.nil ?_
    refine QG.then ?_
    refine CG.cond_f rfl ?_
    refine CG.skip ?_
    refine QG.then ?_
    refine CG.seq ?_
    refine CG.region ?_
    refine OG.mv rfl rfl ?_
    refine OG.mv rfl rfl ?_
    refine OG.yield (Yield.index_slice Tryz.underlying236 ti92 rfl rfl (by omega) (by omega)) rfl ?_
    refine OG.yield (Yield.load (v := fnv F cl) ti92 rfl (by rw [show 0 + (n : Int).toNat * 1 = 0 + n by omega]; exact (SlR.of_osl (W0 := W0) (E := 92) (a := some ⟨fb, 0, none⟩) (c := 15) eX).cel hF)) rfl ?_
    refine OG.callvx (hcF) rfl rfl (iM) (hM _) rfl (fun y hy => ?_) ?_
    · skip
      refine QG.pass_panic ?_
      obtain ⟨σ2, k⟩ := y
      obtain ⟨he, L2⟩ := hy
      have hk := hoc _ he
      dsimp only at he L2 hk ⊢
      subst he
      dsimp only [mG, hG, WG, heB, clB]
      exact QG.leave_panic call126 (DCtr.imp iM (do1_pan W0 (blk rg R 31 :: hG x S qs σ2 Fr) (cl := cl) (k := k) (x := x) (a := a) (b := b) (c := c) (rg := rg) (cp := 0) (ef := 0) (old := 0))) (fun _ => [.int .u32 (IntKind.u32.wrap (0 - IntKind.u32.wrap ((k : Nat) : Int)))]) rfl (fun _ _ => ⟨ResP.cell ti27 rfl (Cel.of_blk eX rfl), trivial⟩) (fun _ _ => ⟨σ2, L2, congrArg (Value.int .u32) (errw hk).symm, iM⟩)
    rintro ⟨σ2, m⟩ ⟨he, L2⟩
    subst he
    dsimp only [mG, hG, WG, heB, clB] at L2 ⊢
    refine OG.eff (Eff.store1 ti27 rfl rfl fC rfl (by first | (simp; done) | decide)) rfl ?_
    rintro ⟨⟩ -
    refine OG.nil ?_
    refine QG.then ?_
    refine CG.ret ?_
    exact QG.leave_ret call126 (do1_ret W0 _) (fun _ => [.int .u32 m.ans]) rfl (fun _ _ => ⟨ResP.cell ti27 rfl (Cel.of_blk eX rfl), trivial⟩) (fun _ _ => ⟨σ2, L2, rfl, iM⟩)
theorem regs_set {R R1 : List Value} (h : R1 = R ∨ ∃ v : Int, R1 = R.set 2 (.int .u32 v)) (hl : R.length = 25) (ho : ∀ v ∈ R, one v = true) : R1.length = 25 ∧ (∀ v ∈ R1, one v = true) ∧ R1[24]? = R[24]? := by
  rcases h with rfl | ⟨v, rfl⟩
  · exact ⟨hl, ho, rfl⟩
  · refine ⟨by rw [List.length_set]; exact hl, fun u hu => ?_, by rw [List.getElem?_set_ne (by decide)]⟩
    rcases List.mem_or_eq_of_mem_set hu with q | rfl
    · exact ho _ q
    · rfl
theorem one_set {R : List Value} {i : Nat} {k : IntKind} {v : Int} (ho : ∀ v ∈ R, one v = true) : ∀ u ∈ R.set i (.int k v), one u = true := fun u hu => by
  rcases List.mem_or_eq_of_mem_set hu with q | rfl
  · exact ho _ q
  · rfl
/-- What the record is after a call. -/
def regsA (R1 : List Value) (ans pc : Int) : List Value := (R1.set 1 (.int .u32 ans)).set 24 (.int .u32 (w32 (pc + 4)))
def costA (cp : Int) : Int := IntKind.i64.wrap (20 + IntKind.i64.wrap ((IntKind.i64.wrap (cp + 3)).tdiv 4))
theorem Do_spec {n : Nat} {pc : Int} {oc : Nat ⊕ MO} (hn : n < 4294967296) (h : HK qs rt σ cc x S qk) (hm : ∀ cl rg, Named W0 x S R qs rt σ cc cl a b c rg n oc) (hoc : ∀ k, oc = .inl k → k < 4294967296)
    (hl : R.length = 25) (ho : ∀ v ∈ R, one v = true) (h1 : R[1]? = some (.int .u32 n)) (h2 : R[2]? = some (.int .u32 a)) (h3 : R[3]? = some (.int .u32 b)) (h4 : R[4]? = some (.int .u32 c)) (h24 : R[24]? = some (.int .u32 pc))
    (hR : (fin S R oc).R = R ∨ ∃ v : Int, (fin S R oc).R = R.set 2 (.int .u32 v)) :
    Ctr Tryz.prog W0 16 [.pointer (some ⟨x.e, 0, none⟩), .agg R.toArray] (hG x S qs σ Fr) (fun y : St => Lk 64 qs rt (fin S R oc).S.o (cc + 8192) y)
      (fun _ => .tuple #[.agg (regsA (fin S R oc).R (fin S R oc).ans pc).toArray, .int .i64 (costA (fin S R oc).cp), .int .i64 (fin S R oc).ef]) (fun y => hG x (fin S R oc).S qs y Fr) := by
  obtain ⟨r1, r2, r3⟩ := regs_set hR hl ho
  rw [h24] at r3
  refine Ctr.of_body Tryz.func16 rfl Tryz.ntmps16 rfl ?_
  refine CG.seq ?_
  refine CG.region ?_
  refine OG.effd (Eff.box rfl) rfl ?_
  rintro b3 -
  refine OG.effd (Eff.alloc ti31) rfl ?_
  rintro b4 -
  refine OG.sg rfl rfl ?_
  refine OG.sg rfl rfl ?_
  refine OG.nil ?_
  refine QG.then ?_
  refine CG.seq ?_
  refine CG.region ?_
  refine OG.mv rfl rfl ?_
  refine OG.yield (Yield.fieldAddr fa31_0 rfl) rfl ?_
  refine OG.yield (Yield.index_array Tryz.underlying28 ti27 rfl rfl (by omega) (by omega)) rfl ?_
  refine OG.yield (Yield.load ti27 rfl (Cel.of_blk eX h2)) rfl ?_
  refine OG.yield (Yield.fieldAddr fa31_0 rfl) rfl ?_
  refine OG.yield (Yield.index_array Tryz.underlying28 ti27 rfl rfl (by omega) (by omega)) rfl ?_
  refine OG.yield (Yield.load ti27 rfl (Cel.of_blk eX h3)) rfl ?_
  refine OG.yield (Yield.fieldAddr fa31_0 rfl) rfl ?_
  refine OG.yield (Yield.index_array Tryz.underlying28 ti27 rfl rfl (by omega) (by omega)) rfl ?_
  refine OG.yield (Yield.load ti27 rfl (Cel.of_blk eX h4)) rfl ?_
  refine OG.yield (Yield.build bu137 ti137 rfl (cells := [_, _, _, _, _, _, _]) rfl) rfl ?_
  refine OG.effd (Eff.box rfl) rfl ?_
  rintro b20 -
  refine OG.sg rfl rfl ?_
  refine OG.nil ?_
  refine QG.then ?_
  refine CG.seq ?_
  refine CG.region ?_
  refine OG.mv rfl rfl ?_
  refine OG.yield (Yield.fieldAddr fa31_0 rfl) rfl ?_
  refine OG.yield (Yield.index_array Tryz.underlying28 ti27 rfl rfl (by omega) (by omega)) rfl ?_
  refine OG.yield (Yield.load ti27 rfl (Cel.of_blk eX h1)) rfl ?_
  refine OG.callo call66 rfl (iM) (do_spec W0 (blk b4 _ 31 :: Fr) (cl := b20) (rg := b3) (a := a) (b := b) (c := c) (R := R) hn h (hm _ _) hoc) rfl ?_
  rintro σ2 L2
  dsimp only [mG, clB] at L2 ⊢
  refine OG.sg rfl rfl ?_
  refine OG.nil ?_
  refine QG.then ?_
  refine CG.seq ?_
  refine CG.region ?_
  refine OG.mv rfl rfl ?_
  refine OG.yield (Yield.fieldAddr fa31_0 rfl) rfl ?_
  refine OG.yield (Yield.index_array Tryz.underlying28 ti27 rfl rfl (by omega) (by omega)) rfl ?_
  refine OG.eff (Eff.store1 ti27 rfl rfl fC rfl (by rw [r1]; decide)) rfl ?_
  rintro ⟨⟩ -
  refine OG.nil ?_
  refine QG.then ?_
  refine CG.seq ?_
  refine CG.region ?_
  refine OG.yield (Yield.fieldAddr fa31_2 rfl) rfl ?_
  refine OG.yield (Yield.load ti27 rfl (Cel.of_blk eX (by rw [List.getElem?_set_ne (by decide)]; exact r3))) rfl ?_
  refine OG.yield (Yield.add (c := w32 (pc + 4)) rfl rfl rfl) rfl ?_
  refine OG.yield (Yield.fieldAddr fa31_2 rfl) rfl ?_
  refine OG.eff (Eff.store1 ti27 rfl rfl fC rfl (by rw [List.length_set, r1]; decide)) rfl ?_
  rintro ⟨⟩ -
  refine OG.nil ?_
  refine QG.then ?_
  refine CG.seq ?_
  refine CG.draw (.look 0 1 (.look 1 0 (.look 2 0 (.look 3 0 (.look 4 0 (.look 5 0 (.look 6 0 (.look 7 0 (.look 8 0 (.look 9 0 (.look 10 0 (.look 11 0 (.eff1 12 false (.look 13 1 (.look 14 1 (.done)))))))))))))))) [12] [] ([clB b20 x a b c b3 (fin S R oc).cp (fin S R oc).ef]) ([]) mixed (by kernel_rfl) iM (Imp.none _) ?_
  refine DG.look rfl rfl (Yield.load_agg (vs := regsA (fin S R oc).R (fin S R oc).ans pc) ti31 rfl (by unfold regsA; rw [List.length_set, List.length_set]; exact r1) (fun j v hj => Cel.of_blk eX (by rw [Nat.zero_add j]; exact hj))) rfl ?_
  refine DG.look rfl rfl (Yield.move rfl) rfl ?_
  refine DG.look rfl rfl (Yield.nilCheck rfl) rfl ?_
  refine DG.look rfl rfl (Yield.fieldAddr fa137_5 rfl) rfl ?_
  refine DG.look rfl rfl (Yield.load ti3 rfl (by first | exact Cel.of_blk eX rfl | exact (hrow eX) _ _ rfl)) rfl ?_
  refine DG.look rfl rfl (Yield.add (c := IntKind.i64.wrap ((fin S R oc).cp + 3)) rfl rfl rfl) rfl ?_
  refine DG.look rfl rfl (Yield.quo (c := IntKind.i64.wrap ((IntKind.i64.wrap ((fin S R oc).cp + 3)).tdiv 4)) rfl rfl (by decide) rfl) rfl ?_
  refine DG.look rfl rfl (Yield.add (c := costA (fin S R oc).cp) rfl rfl rfl) rfl ?_
  refine DG.look rfl rfl (Yield.move rfl) rfl ?_
  refine DG.look rfl rfl (Yield.nilCheck rfl) rfl ?_
  refine DG.look rfl rfl (Yield.fieldAddr fa137_6 rfl) rfl ?_
  refine DG.look rfl rfl (Yield.load ti3 rfl (by first | exact Cel.of_blk eX rfl | exact (hrow eX) _ _ rfl)) rfl ?_
  refine DG.eff1 ?_
  refine Chg.eff rfl rfl (Eff.storeAll ti31 rfl rfl fC (by unfold regsA; rw [List.length_set, List.length_set]; exact r1) (one_set (one_set r2)) rfl) rfl (fun _ => iM) (fun _ => Imp.refl _) (fun _ => iM) ?_
  rintro ⟨⟩ -
  refine DG.look rfl rfl (Yield.assign rfl) rfl ?_
  refine DG.look rfl rfl (Yield.assign rfl) rfl ?_
  refine DG.done ?_
  refine QG.then ?_
  refine CG.ret ?_
  exact QG.rets [.agg (regsA (fin S R oc).R (fin S R oc).ans pc).toArray, .int .i64 (costA (fin S R oc).cp), .int .i64 (fin S R oc).ef] rfl ⟨ResP.agg ti31 rfl (by unfold regsA; rw [List.length_set, List.length_set]; exact r1) (fun j v hj => Cel.of_blk eX (by rw [Nat.zero_add j]; exact hj)), rfl, rfl, trivial⟩ σ2 L2 rfl iM
end
end Go.Proofs.YtphljkplokjonaaGreat.Hc
/- Registers and acts as inputs. -/
namespace Go.Sl
open Go Go.RowKit
theorem Opn.arr {P : Program} {W : World} {t e n : Nat} {k : IntKind} (hu : P.underlying t = some (.array n e)) (hue : P.underlying e = some (.int k)) (hsz : P.cellsOf e = 1) (hc : P.cellsOf t = n) :
    Opn P W t (fun cs => ∃ xs : List Int, cs = xs.map (.int k) ∧ xs.length = n ∧ ∀ x ∈ xs, (Lit.int k x).wf = true) := fun H enc m cs x h hw => by
  obtain ⟨xs, n', rfl, rfl, hl, hxl, hf⟩ := DataW.trod_array hu h
  rw [hc] at hl
  have key : ∀ i < n, ∃ z, cs[i]? = some (.int k z) ∧ (Lit.int k z).wf = true := fun i hi => by
    have h1 := hf i hi
    rw [hsz, Nat.mul_one, List.getElem?_eq_getElem (by omega : i < xs.length)] at h1
    obtain ⟨z, e1, _, e2⟩ := DataW.trod_int hue h1
    have h2 : ((cs.drop i).take 1)[0]? = some (.int k z) := by rw [e1]; rfl
    exact ⟨z, by simpa using h2, e2⟩
  refine ⟨cs.map (fun v => match v with | .int _ z => z | _ => 0), ?_, by simpa using hl, ?_⟩
  · apply List.ext_getElem?
    intro i
    rw [List.getElem?_map, List.getElem?_map]
    by_cases hi : i < n
    · obtain ⟨z, e, _⟩ := key i hi; rw [e]; rfl
    · rw [List.getElem?_eq_none (by omega)]; rfl
  · intro y hy
    rw [List.mem_map] at hy
    obtain ⟨v, hv, rfl⟩ := hy
    obtain ⟨i, hi, rfl⟩ := List.getElem_of_mem hv
    obtain ⟨z, e, wz⟩ := key i (by omega)
    rw [List.getElem?_eq_getElem hi] at e
    rw [Option.some.inj e]; exact wz
end Go.Sl
namespace Go.Proofs.YtphljkplokjonaaGreat.Hc
open Go Go.Sl Go.RowKit Go.Proofs Go.Proofs.YtphljkplokjonaaGreat.T Go.Proofs.YtphljkplokjonaaGreat.Sp
set_option maxRecDepth 100000
/-- Registers. -/
structure Rg where
  rs : List Int
  fs : List Int
  pc : Int
  lr : rs.length = 16
  lf : fs.length = 8
def Rg.v (g : Rg) : List Value := g.rs.map (.int .u32) ++ g.fs.map (.int .u64) ++ [.int .u32 g.pc]
theorem Rg.len (g : Rg) : g.v.length = 25 := by unfold Rg.v; simp [g.lr, g.lf]
theorem Rg.ones (g : Rg) : ∀ v ∈ g.v, one v = true := by
  intro v hv
  unfold Rg.v at hv
  simp only [List.mem_append, List.mem_map, List.mem_singleton] at hv
  rcases hv with (⟨_, _, rfl⟩ | ⟨_, _, rfl⟩) | rfl <;> rfl
theorem Rg.r {g : Rg} {i : Nat} {z : Int} (h : g.rs[i]? = some z) : g.v[i]? = some (.int .u32 z) := by
  have hi : i < g.rs.length := by rcases List.getElem?_eq_some_iff.1 h with ⟨hi, _⟩; exact hi
  unfold Rg.v
  rw [List.getElem?_append_left (by simp; omega), List.getElem?_append_left (by simp; omega), List.getElem?_map, h]; rfl
theorem Rg.p (g : Rg) : g.v[24]? = some (.int .u32 g.pc) := by
  unfold Rg.v
  rw [List.getElem?_append_right (by simp [g.lr, g.lf])]; simp [g.lr, g.lf]
structure Rg.OK (g : Rg) : Prop where
  r : ∀ x ∈ g.rs, 0 ≤ x ∧ x < 4294967296
  p : 0 ≤ g.pc ∧ g.pc < 4294967296
theorem u32_of {z : Int} (h : (Lit.int .u32 z).wf = true) : 0 ≤ z ∧ z < 4294967296 := by
  have := bounds_u32 h; omega
theorem Rg.opn (W : World) : Opn Tryz.prog W 31 (fun cs => ∃ g : Rg, cs = g.v ∧ g.OK) :=
  (Opn.of_fields Tryz.underlying31 (by kernel_rfl) (by kernel_rfl) (.cons (s := 16) (Opn.arr Tryz.underlying28 Tryz.underlying27 (by kernel_rfl) (by kernel_rfl)) (.cons (s := 8) (Opn.arr Tryz.underlying29 Tryz.underlying24 (by kernel_rfl) (by kernel_rfl)) (.cons (s := 1) (Opn.int Tryz.underlying27) .nil)))).mono fun cs h => by
    obtain ⟨_, _, rfl, _, ⟨rs, rfl, lr, wr⟩, _, _, rfl, _, ⟨fs, rfl, lf, wf⟩, _, _, rfl, _, ⟨pc, rfl, wp⟩, rfl⟩ := h
    exact ⟨⟨rs, fs, pc, lr, lf⟩, by simp [Rg.v], ⟨fun x hx => u32_of (wr x hx), u32_of wp⟩⟩
/-- An act. -/
structure HAct where
  Kind : Int
  g : Rg
  N : Int
  Ba : Option Go.Addr
  Bc : Nat
  B : List UInt8
def HAct.cells (o : HAct) : List Value := .int .i64 o.Kind :: (o.g.v ++ [.int .i64 o.N, .slice o.Ba o.B.length o.Bc])
structure HAct.OK (W : World) (o : HAct) : Prop where
  g : o.g.OK
  Bc : o.B.length ≤ o.Bc
  B : SlAt W 1 o.Ba o.B.length (bytesV o.B)
  Bm : o.B.length ≤ reachBytes
  N : (Lit.int .i64 o.N).wf = true
theorem HAct.len (o : HAct) : o.cells.length = 28 := by unfold HAct.cells; simp [Rg.len]
theorem HAct.ones (o : HAct) : ∀ v ∈ o.cells, one v = true := by
  intro v hv
  unfold HAct.cells at hv
  simp only [List.mem_cons, List.mem_append, List.not_mem_nil, or_false] at hv
  rcases hv with rfl | hv | rfl | rfl
  · rfl
  · exact o.g.ones v hv
  · rfl
  · rfl
theorem HAct.opn (W : World) : Opn Tryz.prog W 34 (fun cs => ∃ o : HAct, cs = o.cells ∧ o.OK W) :=
  (Opn.of_fields Tryz.underlying34 (by kernel_rfl) (by kernel_rfl) (.cons (s := 1) (Opn.int Tryz.underlying3) (.cons (s := 25) (Rg.opn W) (.cons (s := 1) (Opn.int Tryz.underlying3) (.cons (s := 1) (Opn.bytes Tryz.underlying32 Tryz.underlying5 (by kernel_rfl) (by kernel_rfl)) .nil))))).mono fun cs h => by
    obtain ⟨_, _, rfl, _, ⟨kd, rfl, _⟩, _, _, rfl, _, ⟨g, rfl, wg⟩, _, _, rfl, _, ⟨n, rfl, wn⟩, _, _, rfl, _, ⟨ba, bc, bs, rfl, h1, h2, h3⟩, rfl⟩ := h
    exact ⟨⟨kd, g, n, ba, bc, bs⟩, by simp [HAct.cells], ⟨wg, h1, h2, h3, wn⟩⟩
theorem HAct.list (W : World) : Opn Tryz.prog W 22 (fun cs => ∃ a c, ∃ xs : List HAct, cs = [.slice a xs.length c] ∧ xs.length ≤ c ∧ (∀ x ∈ xs, x.OK W) ∧ SlAt W 28 a xs.length ((xs.map HAct.cells).flatten) ∧ xs.length * 176 ≤ reachBytes) :=
  Opn.recs (sz := 28) (by' := 176) Tryz.underlying22 (by kernel_rfl) (by decide) (by kernel_rfl) (HAct.opn W)
end Go.Proofs.YtphljkplokjonaaGreat.Hc
/- Calls by number; what the laws of calls share: call, num, Channels, Program. -/
namespace Go.Proofs.YtphljkplokjonaaGreat.Hc
open Go Go.Sl Go.RowKit Go.Proofs Go.Proofs.YtphljkplokjonaaGreat.T Go.Proofs.YtphljkplokjonaaGreat.Sp
set_option maxRecDepth 100000
theorem named_of {W0 : World} {x : HP} {S : HS} {qs : List Int} {rt : Nat → Option Nat} {σ : St} {cc a b c n : Nat} {qk : Int} {R : List Value} (h : HK qs rt σ cc x S qk) (ha : a < 4294967296) (hb : b < 4294967296) (hc : c < 4294967296) (hR : R.length = 25) (cl rg : Nat) :
    Named W0 x S R qs rt σ cc cl a b c rg n (ocOf qk S R n a b c) := by
  by_cases h0 : n = 0
  · exact .inl ⟨h0, by subst h0; rfl⟩
  by_cases h1 : 15 ≤ n
  · refine .inr (.inl ⟨h1, ?_⟩)
    obtain ⟨k, rfl⟩ : ∃ k, n = k + 15 := ⟨n - 15, by omega⟩
    rfl
  refine .inr (.inr ⟨by omega, by omega, ?_⟩)
  have : n = 1 ∨ n = 2 ∨ n = 3 ∨ n = 4 ∨ n = 5 ∨ n = 6 ∨ n = 7 ∨ n = 8 ∨ n = 9 ∨ n = 10 ∨ n = 11 ∨ n = 12 ∨ n = 13 ∨ n = 14 := by omega
  rcases this with rfl | rfl | rfl | rfl | rfl | rfl | rfl | rfl | rfl | rfl | rfl | rfl | rfl | rfl
  · exact ⟨172, rfl, call172, fun Fr => m_yield W0 Fr h ha hb hc⟩
  · exact ⟨173, rfl, call173, fun Fr => m_map W0 Fr h ha hb hc⟩
  · exact ⟨174, rfl, call174, fun Fr => m_unmap W0 Fr h ha hb hc⟩
  · exact ⟨175, rfl, call175, fun Fr => m_prot W0 Fr h ha hb hc⟩
  · exact ⟨176, rfl, call176, fun Fr => m_write W0 Fr h ha hb hc⟩
  · exact ⟨177, rfl, call177, fun Fr => m_read W0 Fr h ha hb hc⟩
  · exact ⟨178, rfl, call178, fun Fr => m_diskR W0 Fr h ha hb hc⟩
  · exact ⟨179, rfl, call179, fun Fr => m_diskW W0 Fr h ha hb hc⟩
  · exact ⟨180, rfl, call180, fun Fr => m_send W0 Fr h ha hb hc⟩
  · exact ⟨181, rfl, call181, fun Fr => m_recv W0 Fr h ha hb hc⟩
  · exact ⟨182, rfl, call182, fun Fr => m_time W0 Fr h ha hb hc hR⟩
  · exact ⟨183, rfl, call183, fun Fr => m_timer W0 Fr h ha hb hc⟩
  · exact ⟨184, rfl, call184, fun Fr => m_ack W0 Fr h ha hb hc⟩
  · exact ⟨185, rfl, call185, fun Fr => m_info W0 Fr h ha hb hc⟩
/-- The record does not grow, and but one more register changes. -/
theorem fin_R {qk : Int} {S : HS} {R : List Value} {n a b c : Nat} : (fin S R (ocOf qk S R n a b c)).R = R ∨ ∃ v : Int, (fin S R (ocOf qk S R n a b c)).R = R.set 2 (.int .u32 v) := by
  unfold ocOf
  split
  case h_11 => exact .inr ⟨_, rfl⟩
  all_goals left
  all_goals first | rfl | (unfold ocMap; dsimp only; split <;> rfl) | (unfold ocUnmap; dsimp only; split <;> rfl) | (unfold ocProt; dsimp only; split <;> rfl) | (unfold ocWrite; dsimp only; split <;> (try split) <;> rfl) | (unfold ocRead; dsimp only; split <;> (try split) <;> rfl) | (unfold ocDiskR; dsimp only; split <;> (try split) <;> rfl) | (unfold ocDiskW; dsimp only; split <;> (try split) <;> rfl) | (unfold ocSend; dsimp only; split <;> (try split) <;> (try split) <;> rfl) | (unfold ocRecv; dsimp only; split <;> (try split) <;> (try split) <;> (try split) <;> rfl) | (unfold ocTimer; split <;> (try split) <;> rfl) | (unfold ocInfo; split <;> (try split) <;> (try split) <;> (try split) <;> (try split) <;> (try split) <;> rfl)
theorem code_lt {qk : Int} {S : HS} {R : List Value} {n a b c k : Nat} (h : ocOf qk S R n a b c = .inl k) : 1 ≤ k ∧ k ≤ 8 := by
  have he := errC_rng
  unfold ocOf at h
  split at h
  case h_1 => cases h
  case h_2 => unfold ocMap at h; dsimp only at h; split at h <;> cases h; have := he (mapO qk S.o 0 a b).1; omega
  case h_3 => unfold ocUnmap at h; dsimp only at h; split at h <;> cases h; have := he (unmapO S.o 0 a).1; omega
  case h_4 => unfold ocProt at h; dsimp only at h; split at h <;> cases h; have := he (protO S.o 0 a b).1; omega
  case h_5 => unfold ocWrite at h; dsimp only at h; split at h <;> (try split at h) <;> cases h <;> first | omega | (have := he (inO S.o 0 a b).2; omega)
  case h_6 => unfold ocRead at h; dsimp only at h; split at h <;> (try split at h) <;> cases h <;> first | omega | (have := he (outR S.o 0 a (S.inn.take b)).1; omega)
  case h_7 => unfold ocDiskR at h; dsimp only at h; split at h <;> (try split at h) <;> cases h <;> first | omega | (have := he (subP S.d false a b [] S.major).2.1; omega)
  case h_8 => unfold ocDiskW at h; dsimp only at h; split at h <;> (try split at h) <;> cases h <;> first | omega | (have := he (subP S.d true a b (inO S.o 0 b ((64 : Nat) : Int)).1 S.major).2.1; omega) | (have := he (inO S.o 0 b ((64 : Nat) : Int)).2; omega)
  case h_9 => unfold ocSend at h; dsimp only at h; split at h <;> (try split at h) <;> (try split at h) <;> cases h <;> first | omega | (have := he (sndP S.acs 0 a (inO S.o 0 b c).1).1; omega) | (have := he (inO S.o 0 b c).2; omega)
  case h_10 => unfold ocRecv at h; dsimp only at h; split at h <;> (try split at h) <;> (try split at h) <;> (try split at h) <;> cases h <;> first | omega | (have := he (outR S.o 0 b (rcvP S.acs 0 a).2.1).1; omega) | (have := he (rcvP S.acs 0 a).1; omega)
  case h_11 => cases h
  case h_12 => unfold ocTimer at h; split at h <;> (try split at h) <;> cases h <;> omega
  case h_13 => cases h
  case h_14 => unfold ocInfo at h; split at h <;> (try split at h) <;> (try split at h) <;> (try split at h) <;> (try split at h) <;> (try split at h) <;> cases h <;> omega
  case h_15 => cases h; omega
/-- The registers of a call of the laws. -/
def cR (n a b c : Int) : Rg := ⟨[0, n, a, b, c, 0, 0, 0, 0, 0, 0, 0, 0, 0, 0, 0], List.replicate 8 0, 8, rfl, rfl⟩
section
variable (W0 : World) (Fr : List HProp)
theorem num_spec (e : Int) : Ctr Tryz.prog W0 31 [.int .i64 e] Fr (fun _ : Unit => True) (fun _ => .int .i64 e) (fun _ => Fr) := by
  refine Ctr.of_body Tryz.func31 rfl Tryz.ntmps31 rfl ?_
  refine CG.seq ?_
  refine CG.region ?_
  refine OG.sg rfl rfl ?_
  refine OG.nil ?_
  refine QG.then ?_
  refine CG.seq ?_
  refine CG.region ?_
  refine OG.mv rfl rfl ?_
  refine OG.sg rfl rfl ?_
  refine OG.nil ?_
  refine QG.then ?_
  refine CG.ret ?_
  exact QG.ret1 rfl rfl () trivial rfl iM
theorem call_spec (n a b c : Int) : Ctr Tryz.prog W0 28 [.int .u32 n, .int .u32 a, .int .u32 b, .int .u32 c] Fr (fun _ : Unit => True) (fun _ => .agg (cR n a b c).v.toArray) (fun _ => Fr) := by
  refine Ctr.of_body Tryz.func28 rfl Tryz.ntmps28 rfl ?_
  refine CG.seq ?_
  refine CG.region ?_
  refine OG.effd (Eff.alloc ti31) rfl ?_
  rintro b8 -
  refine OG.nil ?_
  refine QG.then ?_
  refine CG.seq ?_
  refine CG.region ?_
  refine OG.yield (Yield.build bu31 ti31 rfl (cells := (cR 0 0 0 0).v) rfl) rfl ?_
  refine OG.effd (Eff.alloc ti31) rfl ?_
  rintro b9 -
  refine OG.eff (Eff.storeAll ti31 rfl rfl fC rfl (Rg.ones _) rfl) rfl ?_
  rintro ⟨⟩ -
  refine OG.nil ?_
  refine QG.then ?_
  refine CG.seq ?_
  refine CG.region ?_
  refine OG.mv rfl rfl ?_
  refine OG.yield (Yield.fieldAddr fa31_0 rfl) rfl ?_
  refine OG.yield (Yield.index_array Tryz.underlying28 ti27 rfl rfl (by omega) (by omega)) rfl ?_
  refine OG.eff (Eff.store1 ti27 rfl rfl fC rfl (by simp only [List.length_set, Rg.len]; decide)) rfl ?_
  rintro ⟨⟩ -
  refine OG.nil ?_
  refine QG.then ?_
  refine CG.seq ?_
  refine CG.region ?_
  refine OG.mv rfl rfl ?_
  refine OG.yield (Yield.fieldAddr fa31_0 rfl) rfl ?_
  refine OG.yield (Yield.index_array Tryz.underlying28 ti27 rfl rfl (by omega) (by omega)) rfl ?_
  refine OG.eff (Eff.store1 ti27 rfl rfl fC rfl (by simp only [List.length_set, Rg.len]; decide)) rfl ?_
  rintro ⟨⟩ -
  refine OG.nil ?_
  refine QG.then ?_
  refine CG.seq ?_
  refine CG.region ?_
  refine OG.mv rfl rfl ?_
  refine OG.yield (Yield.fieldAddr fa31_0 rfl) rfl ?_
  refine OG.yield (Yield.index_array Tryz.underlying28 ti27 rfl rfl (by omega) (by omega)) rfl ?_
  refine OG.eff (Eff.store1 ti27 rfl rfl fC rfl (by simp only [List.length_set, Rg.len]; decide)) rfl ?_
  rintro ⟨⟩ -
  refine OG.nil ?_
  refine QG.then ?_
  refine CG.seq ?_
  refine CG.region ?_
  refine OG.mv rfl rfl ?_
  refine OG.yield (Yield.fieldAddr fa31_0 rfl) rfl ?_
  refine OG.yield (Yield.index_array Tryz.underlying28 ti27 rfl rfl (by omega) (by omega)) rfl ?_
  refine OG.eff (Eff.store1 ti27 rfl rfl fC rfl (by simp only [List.length_set, Rg.len]; decide)) rfl ?_
  rintro ⟨⟩ -
  refine OG.nil ?_
  refine QG.then ?_
  refine CG.seq ?_
  refine CG.region ?_
  refine OG.yield (Yield.load_agg (vs := (cR n a b c).v) ti31 rfl rfl (fun j v hj => Cel.of_blk eX (by rw [Nat.zero_add j]; exact hj))) rfl ?_
  refine OG.eff (Eff.storeAll ti31 rfl rfl fC rfl (Rg.ones _) rfl) rfl ?_
  rintro ⟨⟩ -
  refine OG.nil ?_
  refine QG.then ?_
  refine CG.ret ?_
  exact QG.rets [.agg (cR n a b c).v.toArray] rfl ⟨ResP.agg ti31 rfl rfl (fun j v hj => Cel.of_blk eX (by rw [Nat.zero_add j]; exact hj)), trivial⟩ () trivial rfl iM
end
def chans : List Po.Cf := [⟨2, 0, 1, 8, 2⟩, ⟨2, 1, 0, 64, 2⟩, ⟨1, 0, 1, 16, 1⟩, ⟨1, 1, 0, 16, 1⟩]
def HS0 : HS := ⟨⟨fun _ _ => none, fun _ _ => false, 63⟩, 0, 0, 0, false, [], [], ⟨0, 4, 6, 2, 0, [], []⟩, chans.map Po.Cf.ac, 0, 0⟩
def rt0 (r : Nat) (k : Nat) : Option Nat := if k = 0 then some r else none
section
variable (W0 : World) (Fr : List HProp)
theorem channels_spec : Ctr Tryz.prog W0 57 [] Fr (fun _ : Nat => True) (fun b => .slice (some ⟨b, 0, none⟩) 4 4) (fun b => osl 156 5 (some ⟨b, 0, none⟩) 4 4 ((chans.map Po.Cf.cells).flatten) :: Fr) := by
  refine Ctr.of_body Tryz.func57 rfl Tryz.ntmps57 rfl ?_
  refine CG.seq ?_
  refine CG.region ?_
  refine OG.sg rfl rfl ?_
  refine OG.nil ?_
  refine QG.then ?_
  refine CG.seq ?_
  refine CG.region ?_
  refine OG.yield (Yield.build bu156 ti156 rfl (cells := Po.Cf.cells ⟨2, 0, 1, 8, 2⟩) rfl) rfl ?_
  refine OG.yield (Yield.build bu156 ti156 rfl (cells := Po.Cf.cells ⟨2, 1, 0, 64, 2⟩) rfl) rfl ?_
  refine OG.yield (Yield.build bu156 ti156 rfl (cells := Po.Cf.cells ⟨1, 0, 1, 16, 1⟩) rfl) rfl ?_
  refine OG.yield (Yield.build bu156 ti156 rfl (cells := Po.Cf.cells ⟨1, 1, 0, 16, 1⟩) rfl) rfl ?_
  refine OG.effd (Eff.lit [.tmp 1, .tmp 2, .tmp 3, .tmp 4] (vs := chans.map fun x => .agg x.cells.toArray) (cells := (chans.map Po.Cf.cells).flatten) Tryz.underlying72 ti156 rfl rfl rfl rfl (by decide) (by simp [chans, Value.cells, Po.Cf.cells]) (by simp [chans, Value.cells, Po.Cf.cells])) rfl ?_
  rintro b5 -
  refine OG.sg rfl rfl ?_
  refine OG.nil ?_
  refine QG.then ?_
  refine CG.ret ?_
  exact QG.ret1 rfl rfl b5 trivial rfl iM
theorem program_spec {q : Int} (h1 : 1 ≤ q) (h2 : q ≤ 30) : Ctr Tryz.prog W0 13 [.int .i64 q] Fr (fun z : HP × St => Lk 64 [q, 8] (rt0 z.1.r) HS0.o 0 z.2) (fun z => .pointer (some ⟨z.1.e, 0, none⟩)) (fun z => hG z.1 HS0 [q, 8] z.2 Fr) := by
  have hne : Fz.nerr (64 : Nat) [q, 8] = 0 := by
    unfold Fz.nerr
    rw [if_neg (by decide), if_neg (by simp), if_neg, if_neg]
    · rw [show [q, 8].sum = q + 8 by simp]; omega
    · rintro ⟨z, hz, h⟩
      simp only [List.mem_cons, List.not_mem_nil, or_false] at hz
      rcases hz with rfl | rfl <;> omega
  obtain ⟨hn, hql, hq, hsum⟩ := Fz.nerr_ok hne
  obtain ⟨G0, e0⟩ := Good.start (n := 64) (m := 4) (Fz.inv_new hne) (by decide)
  have L0 := Lk.intro (c := 0) G0 rfl rfl e0 (Nat.le_refl 0)
  refine Ctr.of_body Tryz.func13 rfl Tryz.ntmps13 rfl ?_
  refine CG.seq ?_
  refine CG.region ?_
  refine OG.sg rfl rfl ?_
  refine OG.nil ?_
  refine QG.then ?_
  refine CG.seq ?_
  refine CG.region ?_
  refine OG.callo call50 rfl (Imp.refl _) (Me.new_spec W0 _ (n := 64) (by decide) (by decide)) rfl ?_
  rintro m -
  refine OG.mv rfl rfl ?_
  refine OG.yield (Yield.extract rfl rfl) rfl ?_
  refine OG.yield (Yield.extract rfl rfl) rfl ?_
  refine OG.sg rfl rfl ?_
  refine OG.sg rfl rfl ?_
  refine OG.nil ?_
  refine QG.then ?_
  refine CG.seq ?_
  refine CG.region ?_
  refine OG.mv rfl rfl ?_
  refine OG.effd (Eff.lit [.tmp 21, .const (.int .i64 8)] (vs := Fz.iv [q, 8]) (cells := Fz.iv [q, 8]) Tryz.underlying80 ti3 rfl rfl rfl rfl (by decide) (by simp [Value.cells, Fz.iv]) (by simp [Value.cells, Fz.iv])) rfl ?_
  rintro b22 -
  refine OG.callo call51 rfl (Imp.refl _) (Fz.new_ok W0 _ (total := 64) (qs := [q, 8]) (by exact SlR.of_osl (E := 3) (a := some ⟨b22, 0, none⟩) (c := 2) eX) hne) rfl ?_
  rintro f -
  refine OG.mv rfl rfl ?_
  refine OG.yield (Yield.extract rfl rfl) rfl ?_
  refine OG.yield (Yield.extract rfl rfl) rfl ?_
  refine OG.sg rfl rfl ?_
  refine OG.sg rfl rfl ?_
  refine OG.nil ?_
  refine QG.then ?_
  refine CG.seq ?_
  refine CG.region ?_
  refine OG.callo call52 rfl (Imp.refl _) (Tl.new_spec W0 _ (n := 4) (by decide) (by decide)) rfl ?_
  rintro t -
  refine OG.mv rfl rfl ?_
  refine OG.yield (Yield.extract rfl rfl) rfl ?_
  refine OG.yield (Yield.extract rfl rfl) rfl ?_
  refine OG.sg rfl rfl ?_
  refine OG.sg rfl rfl ?_
  refine OG.nil ?_
  refine QG.then ?_
  refine CG.seq ?_
  refine CG.seq ?_
  refine CG.region ?_
  refine OG.mv rfl rfl ?_
  refine OG.callo call31 rfl (Imp.refl _) (num_spec W0 _ 0) rfl ?_
  rintro ⟨⟩ -
  refine OG.yield Yield.neqA rfl ?_
  refine OG.mv rfl rfl ?_
  refine OG.gy rfl rfl rfl ?_
  refine OG.mv rfl rfl ?_
  refine OG.gy rfl rfl rfl ?_
  refine OG.callo call31 rfl (Imp.refl _) (num_spec W0 _ 0) rfl ?_
  rintro ⟨⟩ -
  refine OG.gy rfl rfl rfl ?_
  refine OG.yield Yield.neqA rfl ?_
  refine OG.yield Yield.pickA rfl ?_
  refine OG.mv rfl rfl ?_
  refine OG.gy rfl rfl rfl ?_
  refine OG.mv rfl rfl ?_
  refine OG.gy rfl rfl rfl ?_
  refine OG.callo call31 rfl (Imp.refl _) (num_spec W0 _ 0) rfl ?_
  rintro ⟨⟩ -
  refine OG.gy rfl rfl rfl ?_
  refine OG.yield Yield.neqA rfl ?_
  refine OG.yield Yield.pickA rfl ?_
  refine OG.mv rfl rfl ?_
  refine OG.gy rfl rfl rfl ?_
  refine OG.mv rfl rfl ?_
  refine OG.gy rfl rfl rfl ?_
  refine OG.yield (by first | exact Yield.ptr_nil Tryz.underlying111 rfl rfl | exact Yield.nil_nil Tryz.underlying111 rfl rfl) rfl ?_
  refine OG.yield Yield.pickA rfl ?_
  refine OG.mv rfl rfl ?_
  refine OG.gy rfl rfl rfl ?_
  refine OG.mv rfl rfl ?_
  refine OG.gy rfl rfl rfl ?_
  refine OG.yield (by first | exact Yield.ptr_nil Tryz.underlying114 rfl rfl | exact Yield.nil_nil Tryz.underlying114 rfl rfl) rfl ?_
  refine OG.yield Yield.pickA rfl ?_
  refine OG.mv rfl rfl ?_
  refine OG.gy rfl rfl rfl ?_
  refine OG.mv rfl rfl ?_
  refine OG.gy rfl rfl rfl ?_
  refine OG.yield (by first | exact Yield.ptr_nil Tryz.underlying117 rfl rfl | exact Yield.nil_nil Tryz.underlying117 rfl rfl) rfl ?_
  refine OG.yield Yield.pickA rfl ?_
  refine OG.nil ?_
  refine QG.then ?_
  refine CG.cond_f rfl ?_
  refine CG.skip ?_
  refine QG.then ?_
  refine CG.seq ?_
  refine CG.region ?_
  refine OG.mv rfl rfl ?_
  refine OG.mv rfl rfl ?_
  refine OG.mv rfl rfl ?_
  refine OG.callo call53 rfl (iM) (new_ok W0 Fr (m := m) (f := f) (t := t) L0 hq (k := 0) (qk := q) rfl rfl (by omega)) rfl ?_
  rintro ⟨s, r, σ⟩ L1
  dsimp only [WG] at L1 ⊢
  refine OG.mv rfl rfl ?_
  refine OG.yield (Yield.extract rfl rfl) rfl ?_
  refine OG.yield (Yield.extract rfl rfl) rfl ?_
  refine OG.sg rfl rfl ?_
  refine OG.sg rfl rfl ?_
  refine OG.nil ?_
  refine QG.then ?_
  refine CG.seq ?_
  refine CG.region ?_
  refine OG.callo call54 rfl (Imp.refl _) (Vi.new_spec W0 _) rfl ?_
  rintro v -
  refine OG.callo call55 rfl (Imp.refl _) (Vc.new_spec W0 _) rfl ?_
  rintro k -
  refine OG.callo call57 rfl (Imp.refl _) (channels_spec W0 _) rfl ?_
  rintro b64 -
  refine OG.callo call56 rfl (Imp.refl _) (Po.new_spec W0 _ (l := chans) (by exact SlR.of_osl (E := 156) (a := some ⟨b64, 0, none⟩) (c := 4) eX) (by decide)) rfl ?_
  rintro p -
  refine OG.sg rfl rfl ?_
  refine OG.sg rfl rfl ?_
  refine OG.sg rfl rfl ?_
  refine OG.nil ?_
  refine QG.then ?_
  refine CG.seq ?_
  refine CG.region ?_
  refine OG.callo call58 rfl (Imp.refl _) (Vd.new_ok W0 _ (part := 0) (first := 4) (count := 6) (latency := 2) (by decide)) rfl ?_
  rintro d -
  refine OG.mv rfl rfl ?_
  refine OG.yield (Yield.extract rfl rfl) rfl ?_
  refine OG.yield (Yield.extract rfl rfl) rfl ?_
  refine OG.sg rfl rfl ?_
  refine OG.sg rfl rfl ?_
  refine OG.nil ?_
  refine QG.then ?_
  refine CG.seq ?_
  refine CG.seq ?_
  refine CG.region ?_
  refine OG.mv rfl rfl ?_
  refine OG.callo call31 rfl (Imp.refl _) (num_spec W0 _ 0) rfl ?_
  rintro ⟨⟩ -
  refine OG.yield Yield.neqA rfl ?_
  refine OG.mv rfl rfl ?_
  refine OG.gy rfl rfl rfl ?_
  refine OG.mv rfl rfl ?_
  refine OG.gy rfl rfl rfl ?_
  refine OG.callo call31 rfl (Imp.refl _) (num_spec W0 _ 0) rfl ?_
  rintro ⟨⟩ -
  refine OG.gy rfl rfl rfl ?_
  refine OG.yield Yield.neqA rfl ?_
  refine OG.yield Yield.pickA rfl ?_
  refine OG.mv rfl rfl ?_
  refine OG.gy rfl rfl rfl ?_
  refine OG.mv rfl rfl ?_
  refine OG.gy rfl rfl rfl ?_
  refine OG.yield (by first | exact Yield.ptr_nil Tryz.underlying53 rfl rfl | exact Yield.nil_nil Tryz.underlying53 rfl rfl) rfl ?_
  refine OG.yield Yield.pickA rfl ?_
  refine OG.mv rfl rfl ?_
  refine OG.gy rfl rfl rfl ?_
  refine OG.mv rfl rfl ?_
  refine OG.gy rfl rfl rfl ?_
  refine OG.yield (by first | exact Yield.ptr_nil Tryz.underlying54 rfl rfl | exact Yield.nil_nil Tryz.underlying54 rfl rfl) rfl ?_
  refine OG.yield Yield.pickA rfl ?_
  refine OG.mv rfl rfl ?_
  refine OG.gy rfl rfl rfl ?_
  refine OG.mv rfl rfl ?_
  refine OG.gy rfl rfl rfl ?_
  refine OG.yield (by first | exact Yield.ptr_nil Tryz.underlying55 rfl rfl | exact Yield.nil_nil Tryz.underlying55 rfl rfl) rfl ?_
  refine OG.yield Yield.pickA rfl ?_
  refine OG.mv rfl rfl ?_
  refine OG.gy rfl rfl rfl ?_
  refine OG.mv rfl rfl ?_
  refine OG.gy rfl rfl rfl ?_
  refine OG.yield (by first | exact Yield.ptr_nil Tryz.underlying62 rfl rfl | exact Yield.nil_nil Tryz.underlying62 rfl rfl) rfl ?_
  refine OG.yield Yield.pickA rfl ?_
  refine OG.mv rfl rfl ?_
  refine OG.gy rfl rfl rfl ?_
  refine OG.mv rfl rfl ?_
  refine OG.gy rfl rfl rfl ?_
  refine OG.yield (by first | exact Yield.ptr_nil Tryz.underlying56 rfl rfl | exact Yield.nil_nil Tryz.underlying56 rfl rfl) rfl ?_
  refine OG.yield Yield.pickA rfl ?_
  refine OG.nil ?_
  refine QG.then ?_
  refine CG.cond_f rfl ?_
  refine CG.skip ?_
  refine QG.then ?_
  refine CG.seq ?_
  refine CG.region ?_
  refine OG.mv rfl rfl ?_
  refine OG.mv rfl rfl ?_
  refine OG.mv rfl rfl ?_
  refine OG.mv rfl rfl ?_
  refine OG.mv rfl rfl ?_
  refine OG.yield (Yield.build bu83 ti83 rfl (cells := [.int .i64 0, .pointer (some ⟨s, 0, none⟩), .pointer (some ⟨v, 0, none⟩), .pointer (some ⟨k, 0, none⟩), .pointer (some ⟨d, 0, none⟩), .pointer (some ⟨p, 0, none⟩), .int .i64 0, .int .i64 0]) rfl) rfl ?_
  refine OG.effd (Eff.box rfl) rfl ?_
  rintro b104 -
  refine OG.sg rfl rfl ?_
  refine OG.nil ?_
  refine QG.then ?_
  refine CG.ret ?_
  exact QG.ret1 rfl rfl (⟨b104, s, v, k, d, p, m, f, t, r⟩, σ) L1 rfl iM
end
end Go.Proofs.YtphljkplokjonaaGreat.Hc
/- The chapter's example of virq, and the operations of its laws as records. -/
namespace Go.Proofs.YtphljkplokjonaaGreat.Vi
open Go Go.Sl Go.RowKit Go.Proofs Go.Proofs.YtphljkplokjonaaGreat.T
set_option maxRecDepth 100000
section
variable (W0 : World) (Fr : List HProp)
end
end Go.Proofs.YtphljkplokjonaaGreat.Vi
/- What happens outside a partition. -/
namespace Go.Proofs.YtphljkplokjonaaGreat.Hc
open Go Go.Sl Go.RowKit Go.Proofs Go.Proofs.YtphljkplokjonaaGreat.T Go.Proofs.YtphljkplokjonaaGreat.Sp
set_option maxRecDepth 100000
def md (k x : Int) : Int := IntKind.u64.wrap x % k
theorem md_range {k : Int} (h : 0 < k) (x : Int) : 0 ≤ md k x ∧ md k x < k := ⟨Int.emod_nonneg _ (by omega), Int.emod_lt_of_pos _ h⟩
def adO (n : Int) : Nat := (w32 n).toNat
theorem adO_eq (n : Int) : ((adO n : Nat) : Int) = w32 n := by
  have := wrap_u32_range n
  unfold adO w32; omega
theorem adO_lt (n : Int) : adO n < 4294967296 := by
  have := wrap_u32_range n
  unfold adO w32; omega
def padS (b : B) : B := b.take 64 ++ List.replicate (64 - b.length) 0
theorem padS_len (b : B) : (padS b).length = 64 := by unfold padS; simp; omega
theorem over_sec {D : B} : Sl.over (bytesV (List.replicate 64 0)) 0 ((bytesV D).take (min D.length 64)) = bytesV (padS D) := by
  unfold Sl.over padS bytesV
  simp only [List.take_zero, List.nil_append, Nat.zero_add, List.map_append, List.map_take, List.map_replicate, List.length_take, List.length_map, List.drop_replicate]
  by_cases h : D.length ≤ 64
  · rw [List.take_of_length_le (by simp; omega), List.take_of_length_le (by simp; omega), show min (min D.length 64) D.length = D.length by omega]
  · rw [show min D.length 64 = 64 by omega, show 64 - D.length = 0 by omega, show 64 - min 64 D.length = 0 by omega]
/-- Every request is done, with b in front. -/
def comN (b : B) (rs : List Vd.Rq) (s : Vd.Ds) : Vd.Ds := rs.foldl (fun s r => (Vd.comR s r.tag (padS b)).2) s
theorem comN_succ {b : B} {rs : List Vd.Rq} {s : Vd.Ds} {i : Nat} {r : Vd.Rq} (h : rs[i]? = some r) : comN b (rs.take (i + 1)) s = (Vd.comR (comN b (rs.take i) s) r.tag (padS b)).2 := by
  have hi : i < rs.length := by rcases List.getElem?_eq_some_iff.1 h with ⟨hi, _⟩; exact hi
  have hr : rs[i] = r := by rw [List.getElem?_eq_getElem hi] at h; exact Option.some.inj h
  unfold comN; rw [List.take_succ_eq_append_getElem hi, List.foldl_append, hr]; rfl
def nowS (n : Int) : Int := md 281474976710656 n
/-- What is behind an act outside. -/
def outs (S : HS) (a : HAct) : HS :=
  if a.Kind = 1 then { S with acs := (sndP S.acs 1 a.N a.B).2 }
  else if a.Kind = 2 then { S with acs := (rcvP S.acs 1 a.N).2.2 }
  else if a.Kind = 3 then { S with acs := S.acs.map Po.AC.tr }
  else if a.Kind = 4 then { S with inn := S.inn ++ a.B.take (64 - S.inn.length) }
  else if a.Kind = 5 then { S with out := [] }
  else if a.Kind = 6 then { S with q := if 0 ≤ a.N ∧ a.N < 8 then Vi.setBit S.q a.N.toNat true else S.q }
  else if a.Kind = 7 then { S with q := 0, p := S.p ||| (if Vi.due S.at' S.set a.N then Vi.setBit S.q 0 true else S.q), at' := if Vi.due S.at' S.set a.N then 0 else S.at', set := S.set && !Vi.due S.at' S.set a.N }
  else if a.Kind = 8 then { S with d := comN a.B (Vd.issR S.d) (Vd.issS S.d) }
  else if a.Kind = 9 then { S with d := Vd.rdyS S.d a.N }
  else if a.Kind = 10 then { S with o := (outR S.o 0 (adO a.N) a.B).2 }
  else if a.Kind = 11 then { S with time := nowS a.N, major := nowS a.N % 1000 }
  else S
theorem HAct.c0 (a : HAct) : a.cells[0]? = some (.int .i64 a.Kind) := rfl
theorem HAct.c26 (a : HAct) : a.cells[26]? = some (.int .i64 a.N) := by
  unfold HAct.cells
  rw [List.getElem?_cons_succ, List.getElem?_append_right (by rw [Rg.len]; omega), Rg.len]; rfl
theorem HAct.c27 (a : HAct) : a.cells[27]? = some (.slice a.Ba a.B.length a.Bc) := by
  unfold HAct.cells
  rw [List.getElem?_cons_succ, List.getElem?_append_right (by rw [Rg.len]; omega), Rg.len]; rfl
section
variable (W0 : World) (Fr : List HProp)
variable {x : HP} {S S' : HS} {qs : List Int} {rt : Nat → Option Nat} {σ : St} {cc : Nat} {qk : Int} {a : HAct}
set_option maxHeartbeats 8000000 in
theorem outside_spec (h : HK qs rt σ cc x S qk) (hB : RdB W0 Fr a.Ba a.Bc a.B) (hBm : a.B.length ≤ 140737488351232) (hS : outs S a = S') :
    Ctr Tryz.prog W0 14 [.pointer (some ⟨x.e, 0, none⟩), .agg a.cells.toArray] (hG x S qs σ Fr) (fun σ' : St => Lk 64 qs rt S'.o (cc + 8192) σ') (fun _ => .tuple #[]) (fun σ' => hG x S' qs σ' Fr) := by
  have hcc := h.hc
  refine Ctr.pure (ψ := S.d.OK) (fun w hw => Vd.d_facts (d := x.d) eX w hw) fun hdok => ?_
  have hdl := hdok.asks
  refine Ctr.of_body Tryz.func14 rfl Tryz.ntmps14 rfl ?_
  dsimp only [hG, WG, heB]
  refine CG.seq ?_
  refine CG.region ?_
  refine OG.effd (Eff.box rfl) rfl ?_
  rintro b3 -
  refine OG.nil ?_
  refine QG.then ?_
  refine CG.seq ?_
  refine CG.region ?_
  refine OG.yield (Yield.fieldAddr fa34_0 rfl) rfl ?_
  refine OG.yield (Yield.load (v := .int .i64 a.Kind) ti3 rfl (Cel.of_blk eX (HAct.c0 a))) rfl ?_
  refine OG.nil ?_
  refine QG.then ?_
  refine CG.block ?_
  refine CG.seq ?_
  refine CG.region ?_
  refine OG.yield (Yield.eql rfl rfl) rfl ?_
  refine OG.sg rfl rfl ?_
  refine OG.nil ?_
  refine QG.then ?_
  refine CG.cond rfl (fun hc => ?_) (fun hc => ?_)
  · try replace hc := of_decide_eq_true hc
    obtain rfl : { S with acs := (sndP S.acs 1 a.N a.B).2 } = S' := by rw [← hS]; unfold outs; rw [hc]; rfl
    refine CG.draw (.look 0 0 (.look 1 0 (.look 2 0 (.look 3 0 (.look 4 0 (.look 5 0 (.look 7 0 (.look 8 0 (.eff1 6 false (.eff1 9 false (.eff1 10 false (.done)))))))))))) [6, 9, 10] [] ([blk b3 a.cells 34, heB x S]) ([]) mixed (by kernel_rfl) iM (Imp.none _) ?_
    refine DG.look rfl rfl (Yield.move rfl) rfl ?_
    refine DG.look rfl rfl (Yield.nilCheck rfl) rfl ?_
    refine DG.look rfl rfl (Yield.fieldAddr fa83_5 rfl) rfl ?_
    refine DG.look rfl rfl (Yield.load ti62 rfl (by first | exact Cel.of_blk eX rfl | exact (hrow eX) _ _ rfl)) rfl ?_
    refine DG.look rfl rfl (Yield.fieldAddr fa34_2 rfl) rfl ?_
    refine DG.look rfl rfl (Yield.load (v := .int .i64 a.N) ti3 rfl (Cel.of_blk eX (HAct.c26 a))) rfl ?_
    refine DG.look rfl rfl (Yield.fieldAddr fa34_3 rfl) rfl ?_
    refine DG.look rfl rfl (Yield.load (v := .slice a.Ba a.B.length a.Bc) ti32 rfl (Cel.of_blk eX (HAct.c27 a))) rfl ?_
    refine DG.eff1 ?_
    refine Chg.eff rfl rfl (Eff.lit0 Tryz.underlying32 ti5 rfl) rfl (fun _ => iM) (fun _ => Imp.refl _) (fun _ => iM) ?_
    rintro b17 -
    refine DG.eff1 ?_
    refine Chg.eff rfl rfl (Eff.appendB0 rfl rfl rfl Tryz.underlying32 Tryz.underlying32 ti5 (by decide) fC (hB.slR.imp iM) (by omega)) rfl (fun _ => iM) (fun _ => Imp.refl _) (fun _ => iM) ?_
    rintro ⟨a20, c20⟩ -
    refine DG.eff1 ?_
    refine Chg.callo rfl rfl call44 rfl (iM) (snd_spec W0 _ (p := x.p) (acs := S.acs) 1 a.N (a := a20) (c := c20) (bs := a.B) (SlR.of_osl (E := 5) (a := a20) eX) (by omega)) rfl (fun _ => iM) (fun _ => Imp.refl _) (fun _ => iM) ?_
    rintro ⟨⟩ -
    refine DG.done ?_
    refine QG.block_normal ?_
    exact QG.end0 rfl σ (h.L.mono (by omega)) rfl iM
  · try replace hc := of_decide_eq_false hc
    have k1 := hc
    refine CG.seq ?_
    refine CG.region ?_
    refine OG.yield (Yield.eql rfl rfl) rfl ?_
    refine OG.sg rfl rfl ?_
    refine OG.nil ?_
    refine QG.then ?_
    refine CG.cond rfl (fun hc => ?_) (fun hc => ?_)
    · try replace hc := of_decide_eq_true hc
      obtain rfl : { S with acs := (rcvP S.acs 1 a.N).2.2 } = S' := by rw [← hS]; unfold outs; rw [hc]; rfl
      refine CG.draw (.look 0 1 (.look 1 1 (.look 2 1 (.look 3 1 (.look 4 1 (.look 5 1 (.eff1 6 false (.done)))))))) [6] [] ([]) ([]) mixed (by kernel_rfl) (Imp.none _) (Imp.none _) ?_
      refine DG.look rfl rfl (Yield.move rfl) rfl ?_
      refine DG.look rfl rfl (Yield.nilCheck rfl) rfl ?_
      refine DG.look rfl rfl (Yield.fieldAddr fa83_5 rfl) rfl ?_
      refine DG.look rfl rfl (Yield.load ti62 rfl (by first | exact Cel.of_blk eX rfl | exact (hrow eX) _ _ rfl)) rfl ?_
      refine DG.look rfl rfl (Yield.fieldAddr fa34_2 rfl) rfl ?_
      refine DG.look rfl rfl (Yield.load (v := .int .i64 a.N) ti3 rfl (Cel.of_blk eX (HAct.c26 a))) rfl ?_
      refine DG.eff1 ?_
      refine Chg.callo rfl rfl call59 rfl (iM) (rcv_spec W0 _ (p := x.p) (acs := S.acs) 1 a.N) rfl (fun _ => iM) (fun _ => Imp.refl _) (fun _ => iM) ?_
      rintro ⟨ba, bc, bb⟩ -
      refine DG.done ?_
      refine QG.block_normal ?_
      exact QG.end0 rfl σ (h.L.mono (by omega)) rfl iM
    · try replace hc := of_decide_eq_false hc
      have k2 := hc
      refine CG.seq ?_
      refine CG.region ?_
      refine OG.yield (Yield.eql rfl rfl) rfl ?_
      refine OG.sg rfl rfl ?_
      refine OG.nil ?_
      refine QG.then ?_
      refine CG.cond rfl (fun hc => ?_) (fun hc => ?_)
      · try replace hc := of_decide_eq_true hc
        obtain rfl : { S with acs := S.acs.map Po.AC.tr } = S' := by rw [← hS]; unfold outs; rw [hc]; rfl
        refine CG.region ?_
        refine OG.mv rfl rfl ?_
        refine OG.yield (Yield.nilCheck rfl) rfl ?_
        refine OG.yield (Yield.fieldAddr fa83_5 rfl) rfl ?_
        refine OG.yield (Yield.load ti62 rfl (by first | exact Cel.of_blk eX rfl | exact (hrow eX) _ _ rfl)) rfl ?_
        refine OG.callo call45 rfl (iM) (Po.transfer_spec W0 _ (p := x.p) (acs := S.acs)) rfl ?_
        rintro ⟨ja, jc⟩ -
        refine OG.nil ?_
        refine QG.block_normal ?_
        exact QG.end0 rfl σ (h.L.mono (by omega)) rfl iM
      · try replace hc := of_decide_eq_false hc
        have k3 := hc
        refine CG.seq ?_
        refine CG.region ?_
        refine OG.yield (Yield.eql rfl rfl) rfl ?_
        refine OG.sg rfl rfl ?_
        refine OG.nil ?_
        refine QG.then ?_
        refine CG.cond rfl (fun hc => ?_) (fun hc => ?_)
        · try replace hc := of_decide_eq_true hc
          obtain rfl : { S with inn := S.inn ++ a.B.take (64 - S.inn.length) } = S' := by rw [← hS]; unfold outs; rw [hc]; rfl
          refine CG.draw (.look 0 0 (.look 1 0 (.look 2 0 (.look 3 0 (.look 5 0 (.look 6 0 (.eff1 4 false (.eff1 7 false (.eff1 8 false (.done)))))))))) [4, 7, 8] [] ([blk b3 a.cells 34, heB x S]) ([]) mixed (by kernel_rfl) iM (Imp.none _) ?_
          refine DG.look rfl rfl (Yield.move rfl) rfl ?_
          refine DG.look rfl rfl (Yield.nilCheck rfl) rfl ?_
          refine DG.look rfl rfl (Yield.fieldAddr fa83_3 rfl) rfl ?_
          refine DG.look rfl rfl (Yield.load ti55 rfl (by first | exact Cel.of_blk eX rfl | exact (hrow eX) _ _ rfl)) rfl ?_
          refine DG.look rfl rfl (Yield.fieldAddr fa34_3 rfl) rfl ?_
          refine DG.look rfl rfl (Yield.load (v := .slice a.Ba a.B.length a.Bc) ti32 rfl (Cel.of_blk eX (HAct.c27 a))) rfl ?_
          refine DG.eff1 ?_
          refine Chg.eff rfl rfl (Eff.lit0 Tryz.underlying32 ti5 rfl) rfl (fun _ => iM) (fun _ => Imp.refl _) (fun _ => iM) ?_
          rintro b44 -
          refine DG.eff1 ?_
          refine Chg.eff rfl rfl (Eff.appendB0 rfl rfl rfl Tryz.underlying32 Tryz.underlying32 ti5 (by decide) fC (hB.slR.imp iM) (by omega)) rfl (fun _ => iM) (fun _ => Imp.refl _) (fun _ => iM) ?_
          rintro ⟨a47, c47⟩ -
          refine DG.eff1 ?_
          refine Chg.callo rfl rfl call60 rfl (iM) (Vc.feedB W0 _ (g := x.k) (out := S.out) (inn := S.inn) (ds := a.B) (a2 := a47) (c2 := c47) (by exact RdB.of_osl (E := 5) eX rfl rfl) (by omega)) rfl (fun _ => iM) (fun _ => Imp.refl _) (fun _ => iM) ?_
          rintro ⟨⟩ -
          refine DG.done ?_
          refine QG.block_normal ?_
          exact QG.end0 rfl σ (h.L.mono (by omega)) rfl iM
        · try replace hc := of_decide_eq_false hc
          have k4 := hc
          refine CG.seq ?_
          refine CG.region ?_
          refine OG.yield (Yield.eql rfl rfl) rfl ?_
          refine OG.sg rfl rfl ?_
          refine OG.nil ?_
          refine QG.then ?_
          refine CG.cond rfl (fun hc => ?_) (fun hc => ?_)
          · try replace hc := of_decide_eq_true hc
            obtain rfl : { S with out := [] } = S' := by rw [← hS]; unfold outs; rw [hc]; rfl
            refine CG.region ?_
            refine OG.mv rfl rfl ?_
            refine OG.yield (Yield.nilCheck rfl) rfl ?_
            refine OG.yield (Yield.fieldAddr fa83_3 rfl) rfl ?_
            refine OG.yield (Yield.load ti55 rfl (by first | exact Cel.of_blk eX rfl | exact (hrow eX) _ _ rfl)) rfl ?_
            refine OG.callo call61 rfl (iM) (Vc.drain_spec W0 _ (g := x.k) (out := S.out) (inn := S.inn)) rfl ?_
            rintro ⟨ja, jc⟩ -
            refine OG.nil ?_
            refine QG.block_normal ?_
            exact QG.end0 rfl σ (h.L.mono (by omega)) rfl iM
          · try replace hc := of_decide_eq_false hc
            have k5 := hc
            refine CG.seq ?_
            refine CG.region ?_
            refine OG.yield (Yield.eql rfl rfl) rfl ?_
            refine OG.sg rfl rfl ?_
            refine OG.nil ?_
            refine QG.then ?_
            refine CG.cond rfl (fun hc => ?_) (fun hc => ?_)
            · try replace hc := of_decide_eq_true hc
              obtain rfl : { S with q := if 0 ≤ a.N ∧ a.N < 8 then Vi.setBit S.q a.N.toNat true else S.q } = S' := by rw [← hS]; unfold outs; rw [hc]; rfl
              refine CG.draw (.look 0 1 (.look 1 1 (.look 2 1 (.look 3 1 (.look 4 1 (.look 5 1 (.eff1 6 false (.done)))))))) [6] [] ([]) ([]) mixed (by kernel_rfl) (Imp.none _) (Imp.none _) ?_
              refine DG.look rfl rfl (Yield.move rfl) rfl ?_
              refine DG.look rfl rfl (Yield.nilCheck rfl) rfl ?_
              refine DG.look rfl rfl (Yield.fieldAddr fa83_2 rfl) rfl ?_
              refine DG.look rfl rfl (Yield.load ti54 rfl (by first | exact Cel.of_blk eX rfl | exact (hrow eX) _ _ rfl)) rfl ?_
              refine DG.look rfl rfl (Yield.fieldAddr fa34_2 rfl) rfl ?_
              refine DG.look rfl rfl (Yield.load (v := .int .i64 a.N) ti3 rfl (Cel.of_blk eX (HAct.c26 a))) rfl ?_
              refine DG.eff1 ?_
              refine Chg.callo rfl rfl call62 rfl (iM) (Vi.queue_spec W0 _ (v := x.v) (q := S.q) (p := S.p) (a := S.at') (s := S.set) a.N) rfl (fun _ => iM) (fun _ => Imp.refl _) (fun _ => iM) ?_
              rintro ⟨⟩ -
              refine DG.done ?_
              refine QG.block_normal ?_
              exact QG.end0 rfl σ (h.L.mono (by omega)) rfl iM
            · try replace hc := of_decide_eq_false hc
              have k6 := hc
              refine CG.seq ?_
              refine CG.region ?_
              refine OG.yield (Yield.eql rfl rfl) rfl ?_
              refine OG.sg rfl rfl ?_
              refine OG.nil ?_
              refine QG.then ?_
              refine CG.cond rfl (fun hc => ?_) (fun hc => ?_)
              · try replace hc := of_decide_eq_true hc
                obtain rfl : { S with q := 0, p := S.p ||| (if Vi.due S.at' S.set a.N then Vi.setBit S.q 0 true else S.q), at' := if Vi.due S.at' S.set a.N then 0 else S.at', set := S.set && !Vi.due S.at' S.set a.N } = S' := by rw [← hS]; unfold outs; rw [hc]; rfl
                refine CG.draw (.look 0 1 (.look 1 1 (.look 2 1 (.look 3 1 (.look 4 1 (.look 5 1 (.eff1 6 false (.done)))))))) [6] [] ([]) ([]) mixed (by kernel_rfl) (Imp.none _) (Imp.none _) ?_
                refine DG.look rfl rfl (Yield.move rfl) rfl ?_
                refine DG.look rfl rfl (Yield.nilCheck rfl) rfl ?_
                refine DG.look rfl rfl (Yield.fieldAddr fa83_2 rfl) rfl ?_
                refine DG.look rfl rfl (Yield.load ti54 rfl (by first | exact Cel.of_blk eX rfl | exact (hrow eX) _ _ rfl)) rfl ?_
                refine DG.look rfl rfl (Yield.fieldAddr fa34_2 rfl) rfl ?_
                refine DG.look rfl rfl (Yield.load (v := .int .i64 a.N) ti3 rfl (Cel.of_blk eX (HAct.c26 a))) rfl ?_
                refine DG.eff1 ?_
                refine Chg.callo rfl rfl call27 rfl (iM) (Vi.release_spec W0 _ (v := x.v) (q := S.q) (p := S.p) (a := S.at') (s := S.set) a.N h.q h.p) rfl (fun _ => iM) (fun _ => Imp.refl _) (fun _ => iM) ?_
                rintro ⟨⟩ -
                refine DG.done ?_
                refine QG.block_normal ?_
                exact QG.end0 rfl σ (h.L.mono (by omega)) rfl iM
              · try replace hc := of_decide_eq_false hc
                have k7 := hc
                refine CG.seq ?_
                refine CG.region ?_
                refine OG.yield (Yield.eql rfl rfl) rfl ?_
                refine OG.sg rfl rfl ?_
                refine OG.nil ?_
                refine QG.then ?_
                refine CG.cond rfl (fun hc => ?_) (fun hc => ?_)
                · try replace hc := of_decide_eq_true hc
                  obtain rfl : { S with d := comN a.B (Vd.issR S.d) (Vd.issS S.d) } = S' := by rw [← hS]; unfold outs; rw [hc]; rfl
                  refine CG.seq ?_
                  refine CG.region ?_
                  refine OG.mv rfl rfl ?_
                  refine OG.yield (Yield.nilCheck rfl) rfl ?_
                  refine OG.yield (Yield.fieldAddr fa83_4 rfl) rfl ?_
                  refine OG.yield (Yield.load ti56 rfl (by first | exact Cel.of_blk eX rfl | exact (hrow eX) _ _ rfl)) rfl ?_
                  refine OG.callo call42 rfl (iM) (Vd.issue_spec W0 _ (d := x.d) (s := S.d)) rfl ?_
                  rintro ⟨l, la, lc⟩ hl
                  dsimp only [Vd.Rqs.G, Vd.Rqs.ms, Vd.Rqs.cell, List.cons_append, List.nil_append] at hl ⊢
                  have hll : l.length ≤ 4 := by
                    have e1 : (l.map Vd.CR.abs).length = (Vd.issR S.d).length := by rw [hl]
                    unfold Vd.issR at e1
                    rw [List.length_map, List.length_map] at e1
                    have := List.length_filter_le (fun a : Vd.Ak => a.st == 0) S.d.asks
                    omega
                  refine OG.sg rfl rfl ?_
                  refine OG.nil ?_
                  refine QG.then ?_
                  refine CG.seq ?_
                  refine CG.region ?_
                  refine OG.sg rfl rfl ?_
                  refine OG.nil ?_
                  refine QG.then ?_
                  refine CG.block ?_
                  refine CG.loop (fun i : Nat => i ≤ l.length) (fun i => [(0, .pointer (some ⟨x.e, 0, none⟩)), (3, .pointer (some ⟨b3, 0, none⟩)), (4, .slice la l.length lc), (5, .int .i64 i)]) (fun i => Vd.oreqs la lc l :: blk b3 a.cells 34 :: hG x { S with d := comN a.B ((Vd.issR S.d).take i) (Vd.issS S.d) } qs σ Fr) (fun i => l.length - i) 0 (Nat.zero_le _) eS iM ?_
                  rintro i hi
                  dsimp only [hG, WG, heB]
                  refine CG.seq ?_
                  refine CG.seq ?_
                  refine CG.region ?_
                  refine OG.mv rfl rfl ?_
                  refine OG.mv rfl rfl ?_
                  refine OG.yield (Yield.len_slice Tryz.underlying98 rfl rfl) rfl ?_
                  refine OG.yield Yield.lssA rfl ?_
                  refine OG.nil ?_
                  refine QG.then ?_
                  refine CG.cond rfl (fun hc => ?_) (fun hc => ?_)
                  · try replace hc := of_decide_eq_true hc
                    have hi' : i < l.length := by omega
                    have hget : l[i]? = some l[i] := by simp [hi']
                    generalize l[i] = cr at hget
                    have hr : (Vd.issR S.d)[i]? = some cr.abs := by rw [← hl, List.getElem?_map, hget]; rfl
                    have hps := padS_len a.B
                    refine CG.pure (fun w hw => SlR.elem_shape (i := i) (SlR.of_osl (W0 := W0) (E := 101) (a := la) (c := lc) eX) Vd.CR.len (by decide) hi' w hw) ?_
                    rintro ⟨bl, ol, rfl⟩
                    refine CG.skip ?_
                    refine QG.then ?_
                    refine CG.seq ?_
                    refine CG.block ?_
                    refine CG.seq ?_
                    refine CG.region ?_
                    refine OG.mv rfl rfl ?_
                    refine OG.mv rfl rfl ?_
                    refine OG.yield (Yield.index_slice Tryz.underlying98 ti101 rfl rfl (by omega) (by omega)) rfl ?_
                    refine OG.yield (Yield.load_agg (vs := Vd.CR.cells cr) ti101 rfl rfl (by rw [show ol + (i : Int).toNat * 5 = ol + i * 5 by omega]; exact SlR.elem (SlR.of_osl (E := 101) (a := some ⟨bl, ol, none⟩) (c := lc) eX) Vd.CR.len hget)) rfl ?_
                    refine OG.effd (Eff.alloc ti101) rfl ?_
                    rintro b6 -
                    refine OG.eff (Eff.storeAll ti101 rfl rfl fC rfl (by simp [Vd.CR.cells, one, Ms.Msg.cell]) rfl) rfl ?_
                    rintro ⟨⟩ -
                    refine OG.nil ?_
                    refine QG.then ?_
                    refine CG.seq ?_
                    refine CG.region ?_
                    refine OG.effd (Eff.makeB 64 Tryz.underlying32 ti5 rfl rfl (by decide)) rfl ?_
                    rintro b91 -
                    rw [List.length_replicate]
                    refine OG.yield (Yield.fieldAddr fa101_4 rfl) rfl ?_
                    refine OG.eff (Eff.store1 ti32 rfl rfl fC rfl (by rw [Vd.CR.len]; decide)) rfl ?_
                    rintro ⟨⟩ -
                    refine OG.nil ?_
                    refine QG.then ?_
                    refine CG.seq ?_
                    refine CG.region ?_
                    refine OG.yield (Yield.fieldAddr fa101_4 rfl) rfl ?_
                    refine OG.yield (Yield.load (v := .slice (some ⟨b91, 0, none⟩) 64 64) ti32 rfl (Cel.of_blk eX rfl)) rfl ?_
                    refine OG.yield (Yield.fieldAddr fa34_3 rfl) rfl ?_
                    refine OG.yield (Yield.load (v := .slice a.Ba a.B.length a.Bc) ti32 rfl (Cel.of_blk eX (HAct.c27 a))) rfl ?_
                    refine OG.effd (Eff.copyIn (b := b91) (o := 0) (j := 0) (n := 64) (cn := 64) (k := a.B.length) (ys := bytesV a.B) rfl rfl rfl Tryz.underlying32 ti5 fC (by decide) (hB.slR.imp iM) bytesV_one) rfl ?_
                    rintro ⟨⟩ -
                    rw [over_sec]
                    refine OG.nil ?_
                    refine QG.then ?_
                    refine CG.draw (.look 0 1 (.look 1 1 (.look 2 1 (.look 3 1 (.look 4 1 (.eff1 5 false (.done))))))) [5] [] ([]) ([]) mixed (by kernel_rfl) (Imp.none _) (Imp.none _) ?_
                    refine DG.look rfl rfl (Yield.move rfl) rfl ?_
                    refine DG.look rfl rfl (Yield.nilCheck rfl) rfl ?_
                    refine DG.look rfl rfl (Yield.fieldAddr fa83_4 rfl) rfl ?_
                    refine DG.look rfl rfl (Yield.load ti56 rfl (by first | exact Cel.of_blk eX rfl | exact (hrow eX) _ _ rfl)) rfl ?_
                    refine DG.look rfl rfl (Yield.load_agg (vs := Vd.CR.cells { cr with m := ⟨some ⟨b91, 0, none⟩, 64, padS a.B⟩ }) ti101 rfl rfl (Row.of_blk (b := b6) eX (by simp [Vd.CR.cells, Ms.Msg.cell, hps]))) rfl ?_
                    refine DG.eff1 ?_
                    refine Chg.callo rfl rfl call63 rfl (iM) (Vd.complete_spec W0 _ (d := x.d) (s := comN a.B ((Vd.issR S.d).take i) (Vd.issS S.d)) (r := { cr with m := ⟨some ⟨b91, 0, none⟩, 64, padS a.B⟩ }) (by exact RdB.of_osl (E := 5) (a := some ⟨b91, 0, none⟩) eX (by simp [hps]) rfl) (by show (padS a.B).length ≤ _; omega)) rfl (fun _ => iM) (fun _ => Imp.refl _) (fun _ => iM) ?_
                    rintro ⟨⟩ -
                    rw [show (Vd.comR (comN a.B ((Vd.issR S.d).take i) (Vd.issS S.d)) cr.tag (padS a.B)).2 = comN a.B ((Vd.issR S.d).take (i + 1)) (Vd.issS S.d) from (comN_succ hr).symm]
                    refine DG.done ?_
                    refine QG.block_normal ?_
                    refine QG.then ?_
                    refine CG.region ?_
                    refine OG.mv rfl rfl ?_
                    refine OG.yield (Yield.add rfl rfl (w64 (by omega) (by omega))) rfl ?_
                    refine OG.sg rfl rfl ?_
                    refine OG.nil ?_
                    exact QG.next (i + 1) (show i + 1 ≤ l.length by omega) (show l.length - (i + 1) < l.length - i by omega) eS iM
                  · try replace hc := of_decide_eq_false hc
                    refine CG.exit ?_
                    refine QG.pass_exit ?_
                    refine QG.pass_exit ?_
                    refine QG.block_exit ?_
                    refine QG.block_normal ?_
                    obtain rfl : i = l.length := by omega
                    rw [show (Vd.issR S.d).take l.length = Vd.issR S.d by rw [← hl, ← List.length_map (f := Vd.CR.abs), List.take_length]]
                    exact QG.end0 rfl σ (h.L.mono (by omega)) rfl iM
                · try replace hc := of_decide_eq_false hc
                  have k8 := hc
                  refine CG.seq ?_
                  refine CG.region ?_
                  refine OG.yield (Yield.eql rfl rfl) rfl ?_
                  refine OG.sg rfl rfl ?_
                  refine OG.nil ?_
                  refine QG.then ?_
                  refine CG.cond rfl (fun hc => ?_) (fun hc => ?_)
                  · try replace hc := of_decide_eq_true hc
                    obtain rfl : { S with d := Vd.rdyS S.d a.N } = S' := by rw [← hS]; unfold outs; rw [hc]; rfl
                    refine CG.draw (.look 0 1 (.look 1 1 (.look 2 1 (.look 3 1 (.look 4 1 (.look 5 1 (.eff1 6 false (.done)))))))) [6] [] ([]) ([]) mixed (by kernel_rfl) (Imp.none _) (Imp.none _) ?_
                    refine DG.look rfl rfl (Yield.move rfl) rfl ?_
                    refine DG.look rfl rfl (Yield.nilCheck rfl) rfl ?_
                    refine DG.look rfl rfl (Yield.fieldAddr fa83_4 rfl) rfl ?_
                    refine DG.look rfl rfl (Yield.load ti56 rfl (by first | exact Cel.of_blk eX rfl | exact (hrow eX) _ _ rfl)) rfl ?_
                    refine DG.look rfl rfl (Yield.fieldAddr fa34_2 rfl) rfl ?_
                    refine DG.look rfl rfl (Yield.load (v := .int .i64 a.N) ti3 rfl (Cel.of_blk eX (HAct.c26 a))) rfl ?_
                    refine DG.eff1 ?_
                    refine Chg.callo rfl rfl call64 rfl (iM) (Vd.ready_spec W0 _ (d := x.d) (s := S.d) a.N) rfl (fun _ => iM) (fun _ => Imp.refl _) (fun _ => iM) ?_
                    rintro ⟨l, la, lc⟩ -
                    dsimp only [Vd.Dns.G, List.cons_append, List.nil_append]
                    refine DG.done ?_
                    refine QG.block_normal ?_
                    exact QG.end0 rfl σ (h.L.mono (by omega)) rfl iM
                  · try replace hc := of_decide_eq_false hc
                    have k9 := hc
                    refine CG.seq ?_
                    refine CG.region ?_
                    refine OG.yield (Yield.eql rfl rfl) rfl ?_
                    refine OG.sg rfl rfl ?_
                    refine OG.nil ?_
                    refine QG.then ?_
                    refine CG.cond rfl (fun hc => ?_) (fun hc => ?_)
                    · try replace hc := of_decide_eq_true hc
                      obtain rfl : { S with o := (outR S.o 0 (adO a.N) a.B).2 } = S' := by rw [← hS]; unfold outs; rw [hc]; rfl
                      refine CG.draw (.look 0 0 (.look 1 0 (.look 2 0 (.look 3 0 (.look 4 0 (.look 5 0 (.look 6 0 (.look 8 0 (.look 9 0 (.eff1 7 false (.eff1 10 false (.eff1 11 false (.done))))))))))))) [7, 10, 11] [] ([blk b3 a.cells 34, heB x S]) ([]) mixed (by kernel_rfl) iM (Imp.none _) ?_
                      refine DG.look rfl rfl (Yield.move rfl) rfl ?_
                      refine DG.look rfl rfl (Yield.nilCheck rfl) rfl ?_
                      refine DG.look rfl rfl (Yield.fieldAddr fa83_1 rfl) rfl ?_
                      refine DG.look rfl rfl (Yield.load ti53 rfl (by first | exact Cel.of_blk eX rfl | exact (hrow eX) _ _ rfl)) rfl ?_
                      refine DG.look rfl rfl (Yield.fieldAddr fa34_2 rfl) rfl ?_
                      refine DG.look rfl rfl (Yield.load (v := .int .i64 a.N) ti3 rfl (Cel.of_blk eX (HAct.c26 a))) rfl ?_
                      refine DG.look rfl rfl (Yield.as (Yield.conv (c := w32 a.N) Tryz.underlying27 rfl rfl rfl) (v' := .int .u32 (adO a.N : Nat)) (by rw [adO_eq])) rfl ?_
                      refine DG.look rfl rfl (Yield.fieldAddr fa34_3 rfl) rfl ?_
                      refine DG.look rfl rfl (Yield.load (v := .slice a.Ba a.B.length a.Bc) ti32 rfl (Cel.of_blk eX (HAct.c27 a))) rfl ?_
                      refine DG.eff1 ?_
                      refine Chg.eff rfl rfl (Eff.lit0 Tryz.underlying32 ti5 rfl) rfl (fun _ => iM) (fun _ => Imp.refl _) (fun _ => iM) ?_
                      rintro b122 -
                      refine DG.eff1 ?_
                      refine Chg.eff rfl rfl (Eff.appendB0 rfl rfl rfl Tryz.underlying32 Tryz.underlying32 ti5 (by decide) fC (hB.slR.imp iM) (by omega)) rfl (fun _ => iM) (fun _ => Imp.refl _) (fun _ => iM) ?_
                      rintro ⟨a125, c125⟩ -
                      refine DG.eff1 ?_
                      refine Chg.callo rfl rfl call32 rfl (iM) (out_of W0 _ (s := x.s) (m := x.m) (f := x.f) (t := x.t) (k := 0) (r := x.r) (ba := a125) (bc := c125) (b := a.B) (by exact RdB.of_osl (E := 5) eX rfl rfl) h.L h.hk (by omega) (ad := adO a.N) (adO_lt _)) rfl (fun _ => iM) (fun _ => Imp.refl _) (fun _ => iM) ?_
                      rintro σ2 L2
                      dsimp only [WG] at L2 ⊢
                      refine DG.done ?_
                      refine QG.block_normal ?_
                      exact QG.end0 rfl σ2 L2 rfl iM
                    · try replace hc := of_decide_eq_false hc
                      have k10 := hc
                      refine CG.seq ?_
                      refine CG.region ?_
                      refine OG.yield (Yield.eql rfl rfl) rfl ?_
                      refine OG.sg rfl rfl ?_
                      refine OG.nil ?_
                      refine QG.then ?_
                      refine CG.cond rfl (fun hc => ?_) (fun hc => ?_)
                      · try replace hc := of_decide_eq_true hc
                        obtain rfl : { S with time := nowS a.N, major := nowS a.N % 1000 } = S' := by rw [← hS]; unfold outs; rw [hc]; rfl
                        refine CG.seq ?_
                        refine CG.region ?_
                        refine OG.mv rfl rfl ?_
                        refine OG.yield (Yield.fieldAddr fa34_2 rfl) rfl ?_
                        refine OG.yield (Yield.load (v := .int .i64 a.N) ti3 rfl (Cel.of_blk eX (HAct.c26 a))) rfl ?_
                        refine OG.yield (Yield.conv (c := IntKind.u64.wrap a.N) Tryz.underlying24 rfl rfl rfl) rfl ?_
                        refine OG.yield (Yield.rem (c := nowS a.N) rfl rfl (by decide) (tmod_pos (wrap_u64_range a.N).1 (by decide))) rfl ?_
                        refine OG.yield (Yield.conv (c := nowS a.N) Tryz.underlying3 rfl rfl (w64 (by have := md_range (k := 281474976710656) (by decide) a.N; unfold nowS; omega) (by have := md_range (k := 281474976710656) (by decide) a.N; unfold nowS; omega))) rfl ?_
                        refine OG.yield (Yield.nilCheck rfl) rfl ?_
                        refine OG.yield (Yield.fieldAddr fa83_6 rfl) rfl ?_
                        refine OG.eff (Eff.store1 ti3 rfl rfl fC rfl (by first | (simp; done) | decide)) rfl ?_
                        rintro ⟨⟩ -
                        refine OG.nil ?_
                        refine QG.then ?_
                        refine CG.region ?_
                        refine OG.mv rfl rfl ?_
                        refine OG.mv rfl rfl ?_
                        refine OG.yield (Yield.nilCheck rfl) rfl ?_
                        refine OG.yield (Yield.fieldAddr fa83_6 rfl) rfl ?_
                        refine OG.yield (Yield.load ti3 rfl (by first | exact Cel.of_blk eX rfl | exact (hrow eX) _ _ rfl)) rfl ?_
                        refine OG.yield (Yield.rem (c := nowS a.N % 1000) rfl rfl (by decide) (tmod_pos (by have := md_range (k := 281474976710656) (by decide) a.N; unfold nowS; omega) (by decide))) rfl ?_
                        refine OG.yield (Yield.nilCheck rfl) rfl ?_
                        refine OG.yield (Yield.fieldAddr fa83_7 rfl) rfl ?_
                        refine OG.eff (Eff.store1 ti3 rfl rfl fC rfl (by first | (simp; done) | decide)) rfl ?_
                        rintro ⟨⟩ -
                        refine OG.nil ?_
                        refine QG.block_normal ?_
                        exact QG.end0 rfl σ (h.L.mono (by omega)) rfl iM
                      · try replace hc := of_decide_eq_false hc
                        obtain rfl : S = S' := by rw [← hS]; unfold outs; rw [if_neg k1, if_neg k2, if_neg k3, if_neg k4, if_neg k5, if_neg k6, if_neg k7, if_neg k8, if_neg k9, if_neg k10, if_neg hc]
                        refine CG.skip ?_
                        refine QG.block_normal ?_
                        exact QG.end0 rfl σ (h.L.mono (by omega)) rfl iM
end
end Go.Proofs.YtphljkplokjonaaGreat.Hc
/- Calls in plain words: what of a call's outcome holds for all of them. -/
namespace Go.Proofs.YtphljkplokjonaaGreat.Hc
open Go Go.Sl Go.RowKit Go.Proofs Go.Proofs.YtphljkplokjonaaGreat.T Go.Proofs.YtphljkplokjonaaGreat.Sp
set_option maxRecDepth 100000
theorem inO_len {o : Ob} {k ad n : Nat} (h : (inO o k ad n).2 = 0) : (inO o k ad n).1.length = n := by
  unfold inO at h ⊢
  split
  · rename_i q; rw [if_pos q] at h; exact absurd h (by decide)
  · rename_i q; rw [if_neg q] at h
    split
    · rw [bufI_len, Int.toNat_natCast]
    · rename_i q2; rw [if_neg q2] at h; exact absurd h (by decide)
/-- How a call may come out. -/
inductive Way (S : HS) (R : List Value) (n : Nat) : Nat ⊕ MO → Prop
  | bad (k : Nat) : 1 ≤ k → k ≤ 8 → n ≠ 1 → n ≠ 11 → Way S R n (.inl k)
  | ok (ans cp ef : Int) (S' : HS) (R' : List Value) : 0 ≤ cp → cp ≤ 64 → (ef = if n = 1 then 1 else 0) → (n ≠ 11 → R' = R) → (n = 11 → R' = R.set 2 (.int .u32 (w32 (S.time / 2 ^ 32)))) → S'.q = S.q → (S'.p = S.p ∨ ∃ m, S'.p = Vi.clr S.p m) → S'.time = S.time → S'.major = S.major → Way S R n (.inr ⟨ans, cp, ef, S', R'⟩)
theorem way_of {qk : Int} {S : HS} {R : List Value} {n a b c : Nat} : Way S R n (ocOf qk S R n a b c) := by
  have he := errC_rng
  unfold ocOf
  split
  case h_1 => exact .ok _ _ _ _ _ (by decide) (by decide) rfl (fun _ => rfl) (fun q => absurd q (by decide)) rfl (.inl rfl) rfl rfl
  case h_2 =>
    unfold ocMap; dsimp only; split
    · exact .ok _ _ _ _ _ (by decide) (by decide) rfl (fun _ => rfl) (fun q => absurd q (by decide)) rfl (.inl rfl) rfl rfl
    · have := he (mapO qk S.o 0 a b).1; exact .bad _ (by omega) (by omega) (by decide) (by decide)
  case h_3 =>
    unfold ocUnmap; dsimp only; split
    · exact .ok _ _ _ _ _ (by decide) (by decide) rfl (fun _ => rfl) (fun q => absurd q (by decide)) rfl (.inl rfl) rfl rfl
    · have := he (unmapO S.o 0 a).1; exact .bad _ (by omega) (by omega) (by decide) (by decide)
  case h_4 =>
    unfold ocProt; dsimp only; split
    · exact .ok _ _ _ _ _ (by decide) (by decide) rfl (fun _ => rfl) (fun q => absurd q (by decide)) rfl (.inl rfl) rfl rfl
    · have := he (protO S.o 0 a b).1; exact .bad _ (by omega) (by omega) (by decide) (by decide)
  case h_5 =>
    unfold ocWrite; dsimp only; split
    · exact .bad _ (by omega) (by omega) (by decide) (by decide)
    · split
      · exact .ok _ _ _ _ _ (by omega) (by omega) rfl (fun _ => rfl) (fun q => absurd q (by decide)) rfl (.inl rfl) rfl rfl
      · have := he (inO S.o 0 a b).2; exact .bad _ (by omega) (by omega) (by decide) (by decide)
  case h_6 =>
    unfold ocRead; dsimp only; split
    · exact .bad _ (by omega) (by omega) (by decide) (by decide)
    · split
      · exact .ok _ _ _ _ _ (by omega) (by rw [List.length_take]; omega) rfl (fun _ => rfl) (fun q => absurd q (by decide)) rfl (.inl rfl) rfl rfl
      · have := he (outR S.o 0 a (S.inn.take b)).1; exact .bad _ (by omega) (by omega) (by decide) (by decide)
  case h_7 =>
    unfold ocDiskR; dsimp only; split
    · split
      · exact .ok _ _ _ _ _ (by decide) (by decide) rfl (fun _ => rfl) (fun q => absurd q (by decide)) rfl (.inl rfl) rfl rfl
      · have := he (subP S.d false a b [] S.major).2.1; exact .bad _ (by omega) (by omega) (by decide) (by decide)
    · exact .bad _ (by omega) (by omega) (by decide) (by decide)
  case h_8 =>
    unfold ocDiskW; dsimp only; split
    · rename_i q
      have hl := inO_len q
      split
      · exact .ok _ _ _ _ _ (by omega) (by omega) rfl (fun _ => rfl) (fun q => absurd q (by decide)) rfl (.inl rfl) rfl rfl
      · have := he (subP S.d true a b (inO S.o 0 b ((64 : Nat) : Int)).1 S.major).2.1; exact .bad _ (by omega) (by omega) (by decide) (by decide)
    · have := he (inO S.o 0 b ((64 : Nat) : Int)).2; exact .bad _ (by omega) (by omega) (by decide) (by decide)
  case h_9 =>
    unfold ocSend; dsimp only; split
    · exact .bad _ (by omega) (by omega) (by decide) (by decide)
    · split
      · rename_i q
        have hl := inO_len q
        split
        · exact .ok _ _ _ _ _ (by omega) (by omega) rfl (fun _ => rfl) (fun q => absurd q (by decide)) rfl (.inl rfl) rfl rfl
        · have := he (sndP S.acs 0 a (inO S.o 0 b c).1).1; exact .bad _ (by omega) (by omega) (by decide) (by decide)
      · have := he (inO S.o 0 b c).2; exact .bad _ (by omega) (by omega) (by decide) (by decide)
  case h_10 =>
    unfold ocRecv; dsimp only; split
    · exact .bad _ (by omega) (by omega) (by decide) (by decide)
    · split
      · split
        · exact .bad _ (by omega) (by omega) (by decide) (by decide)
        · split
          · exact .ok _ _ _ _ _ (by omega) (by omega) rfl (fun _ => rfl) (fun q => absurd q (by decide)) rfl (.inl rfl) rfl rfl
          · have := he (outR S.o 0 b (rcvP S.acs 0 a).2.1).1; exact .bad _ (by omega) (by omega) (by decide) (by decide)
      · have := he (rcvP S.acs 0 a).1; exact .bad _ (by omega) (by omega) (by decide) (by decide)
  case h_11 => exact .ok _ _ _ _ _ (by decide) (by decide) rfl (fun q => absurd rfl q) (fun _ => rfl) rfl (.inl rfl) rfl rfl
  case h_12 =>
    unfold ocTimer; split
    · exact .bad _ (by omega) (by omega) (by decide) (by decide)
    · split
      · exact .ok _ _ _ _ _ (by decide) (by decide) rfl (fun _ => rfl) (fun q => absurd q (by decide)) rfl (.inl rfl) rfl rfl
      · exact .bad _ (by omega) (by omega) (by decide) (by decide)
  case h_13 => exact .ok _ _ _ _ _ (by decide) (by decide) rfl (fun _ => rfl) (fun q => absurd q (by decide)) rfl (.inr ⟨_, rfl⟩) rfl rfl
  case h_14 =>
    unfold ocInfo
    repeat' split
    all_goals first | exact .ok _ _ _ _ _ (by decide) (by decide) rfl (fun _ => rfl) (fun q => absurd q (by decide)) rfl (.inl rfl) rfl rfl | exact .bad _ (by omega) (by omega) (by decide) (by decide)
  case h_15 => exact .bad _ (by omega) (by omega) (by omega) (by omega)
/-- What holds of a partition all the time. -/
structure HI (q0 : Int) (x : HP) (S : HS) (σ : St) (cc : Nat) : Prop where
  L : Lk 64 [q0, 8] (rt0 x.r) S.o cc σ
  h1 : 1 ≤ q0
  h2 : q0 ≤ 30
  q : S.q < 256
  p : S.p < 256
  t0 : 0 ≤ S.time
  t1 : S.time < 281474976710656
  m0 : 0 ≤ S.major
  m1 : S.major < 1000
theorem HI.hk {q0 : Int} {x : HP} {S : HS} {σ : St} {cc : Nat} (h : HI q0 x S σ cc) (hc : cc ≤ 100000000000) (ht : S.d.told.length ≤ 4) : HK [q0, 8] (rt0 x.r) σ cc x S q0 :=
  ⟨h.L, by
    intro q hq
    have h1 := h.h1
    have h2 := h.h2
    simp only [List.mem_cons, List.not_mem_nil, or_false] at hq
    rcases hq with rfl | rfl <;> omega, rfl, rfl, hc, h.q, h.p, by omega⟩
theorem HI.new {q0 : Int} {x : HP} {σ : St} (h1 : 1 ≤ q0) (h2 : q0 ≤ 30) (L : Lk 64 [q0, 8] (rt0 x.r) HS0.o 0 σ) : HI q0 x HS0 σ 0 := ⟨L, h1, h2, by decide, by decide, by decide, by decide, by decide, by decide⟩
def HQ (S : HS) : Prop := S.q < 256 ∧ S.p < 256 ∧ 0 ≤ S.time ∧ S.time < 281474976710656 ∧ 0 ≤ S.major ∧ S.major < 1000
theorem outs_HQ {S : HS} (h : HQ S) (a : HAct) : HQ (outs S a) := by
  obtain ⟨hq, hp, h0, h1, h2, h3⟩ := h
  have hs : Vi.setBit S.q 0 true < 256 := Vi.setBit_lt hq (by decide) true
  unfold Hc.outs
  by_cases k1 : a.Kind = 1
  · rw [if_pos k1]
    exact ⟨hq, hp, h0, h1, h2, h3⟩
  rw [if_neg k1]
  by_cases k2 : a.Kind = 2
  · rw [if_pos k2]
    exact ⟨hq, hp, h0, h1, h2, h3⟩
  rw [if_neg k2]
  by_cases k3 : a.Kind = 3
  · rw [if_pos k3]
    exact ⟨hq, hp, h0, h1, h2, h3⟩
  rw [if_neg k3]
  by_cases k4 : a.Kind = 4
  · rw [if_pos k4]
    exact ⟨hq, hp, h0, h1, h2, h3⟩
  rw [if_neg k4]
  by_cases k5 : a.Kind = 5
  · rw [if_pos k5]
    exact ⟨hq, hp, h0, h1, h2, h3⟩
  rw [if_neg k5]
  by_cases k6 : a.Kind = 6
  · rw [if_pos k6]
    refine ⟨?_, hp, h0, h1, h2, h3⟩
    show (if 0 ≤ a.N ∧ a.N < 8 then Vi.setBit S.q a.N.toNat true else S.q) < 256
    by_cases q : 0 ≤ a.N ∧ a.N < 8
    · rw [if_pos q]; exact Vi.setBit_lt hq (by omega) true
    · rw [if_neg q]; exact hq
  rw [if_neg k6]
  by_cases k7 : a.Kind = 7
  · rw [if_pos k7]
    refine ⟨(show (0 : Nat) < 256 by decide), ?_, h0, h1, h2, h3⟩
    show S.p ||| (if Vi.due S.at' S.set a.N then Vi.setBit S.q 0 true else S.q) < 256
    cases Vi.due S.at' S.set a.N
    · exact Vi.or_lt hp hq
    · exact Vi.or_lt hp hs
  rw [if_neg k7]
  by_cases k8 : a.Kind = 8
  · rw [if_pos k8]
    exact ⟨hq, hp, h0, h1, h2, h3⟩
  rw [if_neg k8]
  by_cases k9 : a.Kind = 9
  · rw [if_pos k9]
    exact ⟨hq, hp, h0, h1, h2, h3⟩
  rw [if_neg k9]
  by_cases k10 : a.Kind = 10
  · rw [if_pos k10]
    exact ⟨hq, hp, h0, h1, h2, h3⟩
  rw [if_neg k10]
  by_cases k11 : a.Kind = 11
  · rw [if_pos k11]
    exact ⟨hq, hp, (md_range (by decide) _).1, (md_range (by decide) _).2, Int.emod_nonneg _ (by decide), Int.emod_lt_of_pos _ (by decide)⟩
  rw [if_neg k11]
  exact ⟨hq, hp, h0, h1, h2, h3⟩
theorem HI.outs {q0 : Int} {x : HP} {S : HS} {σ σ' : St} {cc cc' : Nat} (h : HI q0 x S σ cc) (a : HAct) (L : Lk 64 [q0, 8] (rt0 x.r) (outs S a).o cc' σ') : HI q0 x (outs S a) σ' cc' := by
  obtain ⟨a1, a2, a3, a4, a5, a6⟩ := outs_HQ (S := S) ⟨h.q, h.p, h.t0, h.t1, h.m0, h.m1⟩ a
  exact ⟨L, h.h1, h.h2, a1, a2, a3, a4, a5, a6⟩
theorem HI.call {q0 : Int} {x : HP} {S : HS} {σ σ' : St} {cc cc' n a b c : Nat} {R : List Value} (h : HI q0 x S σ cc) (L : Lk 64 [q0, 8] (rt0 x.r) (fin S R (ocOf q0 S R n a b c)).S.o cc' σ') : HI q0 x (fin S R (ocOf q0 S R n a b c)).S σ' cc' := by
  have hw := way_of (qk := q0) (S := S) (R := R) (n := n) (a := a) (b := b) (c := c)
  generalize ocOf q0 S R n a b c = oc at L hw
  cases hw with
  | bad k _ _ _ _ => exact ⟨L, h.h1, h.h2, h.q, h.p, h.t0, h.t1, h.m0, h.m1⟩
  | ok ans cp ef S' R' _ _ _ _ _ e1 e2 e3 e4 =>
    refine ⟨L, h.h1, h.h2, by show S'.q < 256; rw [e1]; exact h.q, ?_, by show 0 ≤ S'.time; rw [e3]; exact h.t0, by show S'.time < _; rw [e3]; exact h.t1, by show 0 ≤ S'.major; rw [e4]; exact h.m0, by show S'.major < _; rw [e4]; exact h.m1⟩
    show S'.p < 256
    rcases e2 with e2 | ⟨m, e2⟩
    · rw [e2]; exact h.p
    · rw [e2]; exact Vi.clr_lt h.p m
/-- The registers behind a call. -/
def Rg.ans (g : Rg) (n : Nat) (tm v : Int) : Rg := ⟨(if n = 11 then g.rs.set 2 (w32 (tm / 2 ^ 32)) else g.rs).set 1 v, g.fs, w32 (g.pc + 4), by split <;> simp [g.lr], g.lf⟩
theorem Rg.set_r (g : Rg) {i : Nat} (hi : i < 16) (z : Int) : g.v.set i (.int .u32 z) = (⟨g.rs.set i z, g.fs, g.pc, by simp [g.lr], g.lf⟩ : Rg).v := by
  unfold Rg.v
  rw [List.set_append_left _ _ (by simp [g.lr, g.lf]; omega), List.set_append_left _ _ (by simp [g.lr]; omega), List.map_set]
theorem Rg.set_p (g : Rg) (z : Int) : g.v.set 24 (.int .u32 z) = (⟨g.rs, g.fs, z, g.lr, g.lf⟩ : Rg).v := by
  unfold Rg.v
  rw [List.set_append_right _ _ (by simp [g.lr, g.lf])]
  simp [g.lr, g.lf]
theorem regs_ans {S : HS} {g : Rg} {n : Nat} {oc : Nat ⊕ MO} (hw : Way S g.v n oc) : regsA (fin S g.v oc).R (fin S g.v oc).ans g.pc = (g.ans n S.time (fin S g.v oc).ans).v := by
  have h0 : ∀ z, n ≠ 11 → regsA g.v z g.pc = (g.ans n S.time z).v := fun z hn => by
    unfold regsA Rg.ans
    rw [Rg.set_r g (by decide), Rg.set_p]
    simp only [if_neg hn]
  cases hw with
  | bad k _ _ _ hn => exact h0 _ hn
  | ok ans cp ef S' R' _ _ _ e1 e2 _ _ _ _ =>
    show regsA R' ans g.pc = _
    by_cases hn : n = 11
    · rw [e2 hn]
      show _ = (g.ans n S.time ans).v
      unfold regsA Rg.ans
      rw [Rg.set_r g (by decide), Rg.set_r _ (by decide), Rg.set_p]
      simp only [if_pos hn]
    · rw [e1 hn]; exact h0 _ hn
def costN (cp : Int) : Int := 20 + (cp + 3) / 4
theorem cost_of {cp : Int} (h0 : 0 ≤ cp) (h1 : cp ≤ 64) : costA cp = costN cp ∧ 20 ≤ costN cp ∧ costN cp ≤ 36 := by
  unfold costA costN
  rw [w64 (x := cp + 3) (by omega) (by omega), tdiv_pos (by omega) (by omega) (by omega), w64 (by omega) (by omega)]
  omega
theorem fin_cost {S : HS} {R : List Value} {n : Nat} {oc : Nat ⊕ MO} (hw : Way S R n oc) : costA (fin S R oc).cp = costN (fin S R oc).cp ∧ 20 ≤ costN (fin S R oc).cp ∧ costN (fin S R oc).cp ≤ 36 := by
  cases hw with
  | bad => exact cost_of (cp := 0) (by decide) (by decide)
  | ok ans cp ef S' R' h0 h1 => exact cost_of h0 h1
section
variable (W0 : World) (Fr : List HProp)
theorem Do_c {x : HP} {S : HS} {q0 : Int} {σ : St} {cc n a b c : Nat} {g : Rg} (h : HI q0 x S σ cc) (hc : cc ≤ 100000000000) (ha : a < 4294967296) (hb : b < 4294967296) (hcl : c < 4294967296) (hn : n < 4294967296)
    (h1 : g.rs[1]? = some (n : Int)) (h2 : g.rs[2]? = some (a : Int)) (h3 : g.rs[3]? = some (b : Int)) (h4 : g.rs[4]? = some (c : Int)) :
    Ctr Tryz.prog W0 16 [.pointer (some ⟨x.e, 0, none⟩), .agg g.v.toArray] (hG x S [q0, 8] σ Fr) (fun y : St => HI q0 x (fin S g.v (ocOf q0 S g.v n a b c)).S y (cc + 8192))
      (fun _ => .tuple #[.agg (g.ans n S.time (fin S g.v (ocOf q0 S g.v n a b c)).ans).v.toArray, .int .i64 (costN (fin S g.v (ocOf q0 S g.v n a b c)).cp), .int .i64 (fin S g.v (ocOf q0 S g.v n a b c)).ef]) (fun y => hG x (fin S g.v (ocOf q0 S g.v n a b c)).S [q0, 8] y Fr) := by
  refine Ctr.pure (ψ := S.d.OK) (fun w hw => Vd.d_facts (d := x.d) eX w hw) fun hdok => ?_
  have hk := h.hk hc hdok.told
  have hw := way_of (qk := q0) (S := S) (R := g.v) (n := n) (a := a) (b := b) (c := c)
  have hd := Do_spec W0 Fr (pc := g.pc) hn hk (fun cl rg => named_of hk ha hb hcl g.len cl rg) (fun k hk' => by have := code_lt hk'; omega) g.len g.ones (g.r h1) (g.r h2) (g.r h3) (g.r h4) g.p fin_R
  rw [regs_ans hw, (fin_cost hw).1] at hd
  exact hd.to id (fun y L => h.call L) (fun _ => rfl) (fun _ => Imp.refl _)
end
end Go.Proofs.YtphljkplokjonaaGreat.Hc
/- Calls: the first example of the document, and registers compared. -/
namespace Go.Proofs.YtphljkplokjonaaGreat.Hc
open Go Go.Sl Go.RowKit Go.Proofs Go.Proofs.YtphljkplokjonaaGreat.T Go.Proofs.YtphljkplokjonaaGreat.Sp
set_option maxRecDepth 100000
theorem fitK_ints {k : IntKind} : ∀ (l : List Int), fitK (List.replicate l.length (some k)) (l.map (.int k)) = true
  | [] => rfl
  | x :: l => by
    rw [List.length_cons, List.replicate_succ, List.map_cons]
    simp only [fitK, kindB, decide_true, Bool.true_and]
    exact fitK_ints l
theorem eqC_ints {k : IntKind} : ∀ (l : List Int), eqCells (l.map (.int k)) (l.map (.int k)) = true
  | [] => rfl
  | x :: l => by
    rw [List.map_cons]
    simp only [eqCells, cellEq, beq_self_eq_true, Bool.true_and]
    exact eqC_ints l
theorem fit16 {l : List Int} (h : l.length = 16) : fitK (List.replicate 16 (some .u32)) (l.map (.int .u32)) = true := by have := fitK_ints (k := .u32) l; rw [h] at this; exact this
theorem fit8 {l : List Int} (h : l.length = 8) : fitK (List.replicate 8 (some .u64)) (l.map (.int .u64)) = true := by have := fitK_ints (k := .u64) l; rw [h] at this; exact this
theorem Rg.get {g : Rg} (h : g.OK) {i : Nat} (hi : i < 16) : ∃ z : Nat, g.rs[i]? = some (z : Int) ∧ z < 4294967296 := by
  have hl := g.lr
  have hm := h.r g.rs[i] (List.getElem_mem (by omega))
  exact ⟨g.rs[i].toNat, by rw [List.getElem?_eq_getElem (by omega)]; congr 1; omega, by omega⟩
section
variable (W0 : World) (Fr : List HProp)
theorem Do_m {x : HP} {S : HS} {q0 : Int} {σ : St} {cc n a b c : Nat} {g : Rg} {m : MO} (h : HI q0 x S σ cc) (hc : cc ≤ 100000000000) (ha : a < 4294967296) (hb : b < 4294967296) (hcl : c < 4294967296) (hn : n < 4294967296)
    (h1 : g.rs[1]? = some (n : Int)) (h2 : g.rs[2]? = some (a : Int)) (h3 : g.rs[3]? = some (b : Int)) (h4 : g.rs[4]? = some (c : Int)) (hm : fin S g.v (ocOf q0 S g.v n a b c) = m) :
    Ctr Tryz.prog W0 16 [.pointer (some ⟨x.e, 0, none⟩), .agg g.v.toArray] (hG x S [q0, 8] σ Fr) (fun y : St => HI q0 x m.S y (cc + 8192))
      (fun _ => .tuple #[.agg (g.ans n S.time m.ans).v.toArray, .int .i64 (costN m.cp), .int .i64 m.ef]) (fun y => hG x m.S [q0, 8] y Fr) := by
  subst hm; exact Do_c W0 Fr h hc ha hb hcl hn h1 h2 h3 h4
def ob1 : Ob := ⟨up2 HS0.o.vw 0 1 (some (3, zs)), up2 HS0.o.ts 0 0 true, 61⟩
theorem w_map : mapO 8 HS0.o 0 ((1 : Nat) : Int) ((3 : Nat) : Int) = (0, ob1) := by
  have u0 : used HS0.o 0 = 1 := used_zero
  unfold mapO; rw [if_neg (by decide), if_neg (by decide), if_neg (by rw [u0]; decide)]; rfl
theorem w_in0 : inO HS0.o 0 256 ((3 : Nat) : Int) = ([], 90) := by
  unfold inO; rw [if_neg (by decide), if_neg (by decide)]
theorem w_in1 : (inO ob1 0 256 ((3 : Nat) : Int)).2 = 0 := by
  unfold inO; rw [if_neg (by decide), if_pos (by decide)]
set_option maxHeartbeats 4000000 in
theorem works_spec : Ctr Tryz.prog W0 12 [] Fr (fun _ : Unit => True) (fun _ => .bool true) (fun _ => Fr) := by
  obtain ⟨bb, hbb⟩ : ∃ bb : B, bb = (inO ob1 0 256 ((3 : Nat) : Int)).1 := ⟨_, rfl⟩
  have hbl : bb.length = 3 := by rw [hbb]; exact inO_len w_in1
  have e1 : ∀ R, fin HS0 R (ocOf 8 HS0 R 5 256 3 0) = ⟨4294967294, 0, 0, HS0, R⟩ := fun R => by
    show fin HS0 R (ocWrite HS0 R 256 3) = _
    unfold ocWrite; rw [if_neg (by decide), w_in0]; rfl
  have e2 : ∀ R, fin HS0 R (ocOf 8 HS0 R 2 1 3 0) = ⟨0, 0, 0, { HS0 with o := ob1 }, R⟩ := fun R => by
    show fin HS0 R (ocMap 8 HS0 R 1 3) = _
    unfold ocMap; rw [w_map]; rfl
  have e3 : ∀ R, fin { HS0 with o := ob1 } R (ocOf 8 { HS0 with o := ob1 } R 5 256 3 0) = ⟨3, 3, 0, { HS0 with o := ob1, out := bb }, R⟩ := fun R => by
    show fin _ R (ocWrite { HS0 with o := ob1 } R 256 3) = _
    unfold ocWrite; rw [if_neg (by decide)]
    show fin _ R (if (inO ob1 0 256 ((3 : Nat) : Int)).2 = 0 then _ else _) = _
    rw [if_pos w_in1, ← hbb, hbl]
    show (⟨_, _, _, wrO { HS0 with o := ob1 } bb, R⟩ : MO) = _
    unfold wrO
    rw [show ({ HS0 with o := ob1 } : HS).out = [] from rfl, List.nil_append, List.take_of_length_le (by rw [hbl]; decide)]
    rfl
  have e4 : ∀ S R, fin S R (ocOf 8 S R 5 256 65 0) = ⟨4294967293, 0, 0, S, R⟩ := fun S R => by
    show fin S R (ocWrite S R 256 65) = _
    unfold ocWrite; rw [if_pos (by decide)]; rfl
  have e5 : ∀ S R, fin S R (ocOf 8 S R 0 0 0 0) = ⟨4294967295, 0, 0, S, R⟩ := fun S R => rfl
  refine Ctr.of_body Tryz.func12 rfl Tryz.ntmps12 rfl ?_
  refine CG.seq ?_
  refine CG.region ?_
  refine OG.sg rfl rfl ?_
  refine OG.nil ?_
  refine QG.then ?_
  refine CG.seq ?_
  refine CG.region ?_
  refine OG.callo call13 rfl (Imp.refl _) (program_spec W0 _ (q := 8) (by decide) (by decide)) rfl ?_
  rintro ⟨x, σ⟩ L0
  have I0 := HI.new (x := x) (by decide) (by decide) L0
  clear L0
  dsimp only at I0 ⊢
  refine OG.sg rfl rfl ?_
  refine OG.nil ?_
  refine QG.then ?_
  refine CG.seq ?_
  refine CG.seq ?_
  refine CG.region ?_
  refine OG.mv rfl rfl ?_
  refine OG.yield (by first | exact Yield.ptr_nil Tryz.underlying25 rfl rfl | exact Yield.nil_nil Tryz.underlying25 rfl rfl) rfl ?_
  refine OG.nil ?_
  refine QG.then ?_
  refine CG.cond_f rfl ?_
  refine CG.skip ?_
  refine QG.then ?_
  refine CG.seq ?_
  refine CG.region ?_
  refine OG.mv rfl rfl ?_
  refine OG.callo call28 rfl (Imp.refl _) (call_spec W0 _ 5 256 3 0) rfl ?_
  rintro ⟨⟩ -
  refine OG.callo call16 rfl (Imp.refl _) (Do_m W0 _ (g := cR 5 256 3 0) (n := 5) (a := 256) (b := 3) (c := 0) I0 (by decide) (by decide) (by decide) (by decide) (by decide) rfl rfl rfl rfl (e1 _)) rfl ?_
  rintro σ1 I1
  dsimp only at I1 ⊢
  refine OG.mv rfl rfl ?_
  refine OG.yield (Yield.extract rfl rfl) rfl ?_
  refine OG.yield (Yield.extract rfl rfl) rfl ?_
  refine OG.yield (Yield.extract rfl rfl) rfl ?_
  refine OG.effd (Eff.alloc ti31) rfl ?_
  rintro b2 -
  refine OG.eff (Eff.storeAll ti31 rfl rfl fC (Rg.len _) (Rg.ones _) rfl) rfl ?_
  rintro ⟨⟩ -
  refine OG.sg rfl rfl ?_
  refine OG.sg rfl rfl ?_
  refine OG.nil ?_
  refine QG.then ?_
  refine CG.seq ?_
  refine CG.region ?_
  refine OG.mv rfl rfl ?_
  refine OG.callo call28 rfl (Imp.refl _) (call_spec W0 _ 2 1 3 0) rfl ?_
  rintro ⟨⟩ -
  refine OG.callo call16 rfl (iM) (Do_m W0 (blk b2 (Rg.ans (cR 5 256 3 0) 5 HS0.time 4294967294).v 31 :: Fr) (g := cR 2 1 3 0) (n := 2) (a := 1) (b := 3) (c := 0) I1 (by decide) (by decide) (by decide) (by decide) (by decide) rfl rfl rfl rfl (e2 _)) rfl ?_
  rintro σ2 I2
  dsimp only at I2 ⊢
  refine OG.mv rfl rfl ?_
  refine OG.yield (Yield.extract rfl rfl) rfl ?_
  refine OG.yield (Yield.extract rfl rfl) rfl ?_
  refine OG.yield (Yield.extract rfl rfl) rfl ?_
  refine OG.effd (Eff.alloc ti31) rfl ?_
  rintro b5 -
  refine OG.eff (Eff.storeAll ti31 rfl rfl fC (Rg.len _) (Rg.ones _) rfl) rfl ?_
  rintro ⟨⟩ -
  refine OG.sg rfl rfl ?_
  refine OG.sg rfl rfl ?_
  refine OG.nil ?_
  refine QG.then ?_
  refine CG.seq ?_
  refine CG.region ?_
  refine OG.mv rfl rfl ?_
  refine OG.callo call28 rfl (Imp.refl _) (call_spec W0 _ 5 256 3 0) rfl ?_
  rintro ⟨⟩ -
  refine OG.callo call16 rfl (iM) (Do_m W0 (blk b5 (Rg.ans (cR 2 1 3 0) 2 HS0.time 0).v 31 :: blk b2 (Rg.ans (cR 5 256 3 0) 5 HS0.time 4294967294).v 31 :: Fr) (g := cR 5 256 3 0) (n := 5) (a := 256) (b := 3) (c := 0) I2 (by decide) (by decide) (by decide) (by decide) (by decide) rfl rfl rfl rfl (e3 _)) rfl ?_
  rintro σ3 I3
  dsimp only at I3 ⊢
  refine OG.mv rfl rfl ?_
  refine OG.yield (Yield.extract rfl rfl) rfl ?_
  refine OG.yield (Yield.extract rfl rfl) rfl ?_
  refine OG.yield (Yield.extract rfl rfl) rfl ?_
  refine OG.effd (Eff.alloc ti31) rfl ?_
  rintro b8 -
  refine OG.eff (Eff.storeAll ti31 rfl rfl fC (Rg.len _) (Rg.ones _) rfl) rfl ?_
  rintro ⟨⟩ -
  refine OG.sg rfl rfl ?_
  refine OG.sg rfl rfl ?_
  refine OG.nil ?_
  refine QG.then ?_
  refine CG.seq ?_
  refine CG.region ?_
  refine OG.mv rfl rfl ?_
  refine OG.callo call28 rfl (Imp.refl _) (call_spec W0 _ 5 256 65 0) rfl ?_
  rintro ⟨⟩ -
  refine OG.callo call16 rfl (iM) (Do_m W0 (blk b8 (Rg.ans (cR 5 256 3 0) 5 HS0.time 3).v 31 :: blk b5 (Rg.ans (cR 2 1 3 0) 2 HS0.time 0).v 31 :: blk b2 (Rg.ans (cR 5 256 3 0) 5 HS0.time 4294967294).v 31 :: Fr) (g := cR 5 256 65 0) (n := 5) (a := 256) (b := 65) (c := 0) I3 (by decide) (by decide) (by decide) (by decide) (by decide) rfl rfl rfl rfl (e4 _ _)) rfl ?_
  rintro σ4 I4
  dsimp only at I4 ⊢
  refine OG.mv rfl rfl ?_
  refine OG.yield (Yield.extract rfl rfl) rfl ?_
  refine OG.yield (Yield.extract rfl rfl) rfl ?_
  refine OG.yield (Yield.extract rfl rfl) rfl ?_
  refine OG.effd (Eff.alloc ti31) rfl ?_
  rintro b11 -
  refine OG.eff (Eff.storeAll ti31 rfl rfl fC (Rg.len _) (Rg.ones _) rfl) rfl ?_
  rintro ⟨⟩ -
  refine OG.sg rfl rfl ?_
  refine OG.sg rfl rfl ?_
  refine OG.nil ?_
  refine QG.then ?_
  refine CG.seq ?_
  refine CG.region ?_
  refine OG.mv rfl rfl ?_
  refine OG.callo call28 rfl (Imp.refl _) (call_spec W0 _ 0 0 0 0) rfl ?_
  rintro ⟨⟩ -
  refine OG.callo call16 rfl (iM) (Do_m W0 (blk b11 (Rg.ans (cR 5 256 65 0) 5 HS0.time 4294967293).v 31 :: blk b8 (Rg.ans (cR 5 256 3 0) 5 HS0.time 3).v 31 :: blk b5 (Rg.ans (cR 2 1 3 0) 2 HS0.time 0).v 31 :: blk b2 (Rg.ans (cR 5 256 3 0) 5 HS0.time 4294967294).v 31 :: Fr) (g := cR 0 0 0 0) (n := 0) (a := 0) (b := 0) (c := 0) I4 (by decide) (by decide) (by decide) (by decide) (by decide) rfl rfl rfl rfl (e5 _ _)) rfl ?_
  rintro σ5 I5
  dsimp only at I5 ⊢
  refine OG.mv rfl rfl ?_
  refine OG.yield (Yield.extract rfl rfl) rfl ?_
  refine OG.yield (Yield.extract rfl rfl) rfl ?_
  refine OG.yield (Yield.extract rfl rfl) rfl ?_
  refine OG.effd (Eff.alloc ti31) rfl ?_
  rintro b14 -
  refine OG.eff (Eff.storeAll ti31 rfl rfl fC (Rg.len _) (Rg.ones _) rfl) rfl ?_
  rintro ⟨⟩ -
  refine OG.sg rfl rfl ?_
  refine OG.sg rfl rfl ?_
  refine OG.nil ?_
  refine QG.then ?_
  refine CG.seq ?_
  refine CG.region ?_
  refine OG.yield (Yield.fieldAddr fa31_0 rfl) rfl ?_
  refine OG.yield (Yield.index_array Tryz.underlying28 ti27 rfl rfl (by omega) (by omega)) rfl ?_
  refine OG.yield (Yield.load (v := .int .u32 4294967294) ti27 rfl (Cel.of_blk (b := b2) eX rfl)) rfl ?_
  refine OG.yield (Yield.as (Yield.eql rfl rfl) (v' := .bool true) (bT (by decide))) rfl ?_
  refine OG.mv rfl rfl ?_
  refine OG.gy rfl rfl rfl ?_
  refine OG.mv rfl rfl ?_
  refine OG.gy rfl rfl rfl ?_
  refine OG.yield (Yield.as (Yield.eql rfl rfl) (v' := .bool true) (bT (by decide))) rfl ?_
  refine OG.yield Yield.pickA rfl ?_
  refine OG.mv rfl rfl ?_
  refine OG.gy rfl rfl rfl ?_
  refine OG.yield (Yield.fieldAddr fa31_0 rfl) rfl ?_
  refine OG.gy rfl rfl rfl ?_
  refine OG.yield (Yield.index_array Tryz.underlying28 ti27 rfl rfl (by omega) (by omega)) rfl ?_
  refine OG.gy rfl rfl rfl ?_
  refine OG.yield (Yield.load (v := .int .u32 0) ti27 rfl (Cel.of_blk (b := b5) eX rfl)) rfl ?_
  refine OG.gy rfl rfl rfl ?_
  refine OG.yield (Yield.as (Yield.eql rfl rfl) (v' := .bool true) (bT (by decide))) rfl ?_
  refine OG.yield Yield.pickA rfl ?_
  refine OG.mv rfl rfl ?_
  refine OG.gy rfl rfl rfl ?_
  refine OG.yield (Yield.fieldAddr fa31_2 rfl) rfl ?_
  refine OG.gy rfl rfl rfl ?_
  refine OG.yield (Yield.load (v := .int .u32 12) ti27 rfl (Cel.of_blk (b := b5) eX rfl)) rfl ?_
  refine OG.gy rfl rfl rfl ?_
  refine OG.yield (Yield.as (Yield.eql rfl rfl) (v' := .bool true) (bT (by decide))) rfl ?_
  refine OG.yield Yield.pickA rfl ?_
  refine OG.mv rfl rfl ?_
  refine OG.gy rfl rfl rfl ?_
  refine OG.yield (Yield.fieldAddr fa31_0 rfl) rfl ?_
  refine OG.gy rfl rfl rfl ?_
  refine OG.yield (Yield.index_array Tryz.underlying28 ti27 rfl rfl (by omega) (by omega)) rfl ?_
  refine OG.gy rfl rfl rfl ?_
  refine OG.yield (Yield.load (v := .int .u32 3) ti27 rfl (Cel.of_blk (b := b8) eX rfl)) rfl ?_
  refine OG.gy rfl rfl rfl ?_
  refine OG.yield (Yield.as (Yield.eql rfl rfl) (v' := .bool true) (bT (by decide))) rfl ?_
  refine OG.yield Yield.pickA rfl ?_
  refine OG.mv rfl rfl ?_
  refine OG.gy rfl rfl rfl ?_
  refine OG.mv rfl rfl ?_
  refine OG.gy rfl rfl rfl ?_
  refine OG.yield (Yield.as (Yield.eql rfl rfl) (v' := .bool true) (bT (by decide))) rfl ?_
  refine OG.yield Yield.pickA rfl ?_
  refine OG.mv rfl rfl ?_
  refine OG.gy rfl rfl rfl ?_
  refine OG.yield (Yield.fieldAddr fa31_0 rfl) rfl ?_
  refine OG.gy rfl rfl rfl ?_
  refine OG.yield (Yield.index_array Tryz.underlying28 ti27 rfl rfl (by omega) (by omega)) rfl ?_
  refine OG.gy rfl rfl rfl ?_
  refine OG.yield (Yield.load (v := .int .u32 4294967293) ti27 rfl (Cel.of_blk (b := b11) eX rfl)) rfl ?_
  refine OG.gy rfl rfl rfl ?_
  refine OG.yield (Yield.as (Yield.eql rfl rfl) (v' := .bool true) (bT (by decide))) rfl ?_
  refine OG.yield Yield.pickA rfl ?_
  refine OG.mv rfl rfl ?_
  refine OG.gy rfl rfl rfl ?_
  refine OG.yield (Yield.fieldAddr fa31_0 rfl) rfl ?_
  refine OG.gy rfl rfl rfl ?_
  refine OG.yield (Yield.index_array Tryz.underlying28 ti27 rfl rfl (by omega) (by omega)) rfl ?_
  refine OG.gy rfl rfl rfl ?_
  refine OG.yield (Yield.load (v := .int .u32 4294967295) ti27 rfl (Cel.of_blk (b := b14) eX rfl)) rfl ?_
  refine OG.gy rfl rfl rfl ?_
  refine OG.yield (Yield.as (Yield.eql rfl rfl) (v' := .bool true) (bT (by decide))) rfl ?_
  refine OG.yield Yield.pickA rfl ?_
  refine OG.mv rfl rfl ?_
  refine OG.gy rfl rfl rfl ?_
  refine OG.mv rfl rfl ?_
  refine OG.gy rfl rfl rfl ?_
  refine OG.yield (Yield.nilCheck rfl) rfl ?_
  refine OG.gy rfl rfl rfl ?_
  refine OG.yield (Yield.fieldAddr fa83_3 rfl) rfl ?_
  refine OG.gy rfl rfl rfl ?_
  refine OG.yield (Yield.load ti55 rfl (by first | exact Cel.of_blk eX rfl | exact (hrow eX) _ _ rfl)) rfl ?_
  refine OG.gy rfl rfl rfl ?_
  refine OG.callo call21 rfl (iM) (Vc.out_spec W0 _ (g := x.k) (out := bb) (inn := [])) rfl ?_
  rintro ⟨ja, jc⟩ -
  dsimp only
  refine OG.gy rfl rfl rfl ?_
  refine OG.yield (Yield.len_slice Tryz.underlying32 rfl rfl) rfl ?_
  refine OG.gy rfl rfl rfl ?_
  refine OG.yield (Yield.as (Yield.eql rfl rfl) (v' := .bool true) (bT (by rw [hbl]; decide))) rfl ?_
  refine OG.yield Yield.pickA rfl ?_
  refine OG.sg rfl rfl ?_
  refine OG.nil ?_
  refine QG.then ?_
  refine CG.ret ?_
  exact QG.ret1 rfl rfl () trivial rfl iM
end
end Go.Proofs.YtphljkplokjonaaGreat.Hc
/- HcallCosts. -/
namespace Go.Proofs.YtphljkplokjonaaGreat.Hc
open Go Go.Sl Go.RowKit Go.Proofs Go.Proofs.YtphljkplokjonaaGreat.T Go.Proofs.YtphljkplokjonaaGreat.Sp
set_option maxRecDepth 100000
theorem HAct.reg {op : HAct} {j : Nat} {v : Value} (h : op.g.v[j]? = some v) : op.cells[1 + j]? = some v := by
  have hj : j < op.g.v.length := by rcases List.getElem?_eq_some_iff.1 h with ⟨hj, _⟩; exact hj
  unfold HAct.cells
  rw [Nat.add_comm, List.getElem?_cons_succ, List.getElem?_append_left hj]; exact h
/-- The registers with a nought in front. -/
def Rg.z (g : Rg) : Rg := ⟨g.rs.set 0 0, g.fs, g.pc, by simp [g.lr], g.lf⟩
theorem Rg.z_get {g : Rg} (h : g.OK) {i : Nat} (h0 : 0 < i) (hi : i < 16) : ∃ z : Nat, g.z.rs[i]? = some (z : Int) ∧ z < 4294967296 := by
  obtain ⟨z, e, hz⟩ := Rg.get h hi
  exact ⟨z, by show (g.rs.set 0 0)[i]? = _; rw [List.getElem?_set_ne (by omega)]; exact e, hz⟩
theorem Rg.f {g : Rg} {j : Nat} {v : Value} (h : (g.fs.map (Value.int .u64))[j]? = some v) : g.v[16 + j]? = some v := by
  have hj : j < (g.fs.map (Value.int .u64)).length := by rcases List.getElem?_eq_some_iff.1 h with ⟨hj, _⟩; exact hj
  unfold Rg.v
  rw [List.append_assoc, List.getElem?_append_right (by simp [g.lr]), List.getElem?_append_left (by simp [g.lr] at hj ⊢; omega)]
  simpa [g.lr] using h
theorem Rg.rr {g : Rg} {j : Nat} {v : Value} (h : (g.rs.map (Value.int .u32))[j]? = some v) : g.v[j]? = some v := by
  have hj : j < (g.rs.map (Value.int .u32)).length := by rcases List.getElem?_eq_some_iff.1 h with ⟨hj, _⟩; exact hj
  unfold Rg.v
  rw [List.append_assoc, List.getElem?_append_left hj]; exact h
/-- The registers after the answer has been taken out again. -/
theorem back_ne {g : Rg} {n : Nat} {tm v z1 : Int} (h1 : g.rs[1]? = some z1) (hn : n ≠ 11) : (g.ans n tm v).rs.set 1 z1 = g.rs := by
  show ((if n = 11 then _ else g.rs).set 1 v).set 1 z1 = _
  rw [if_neg hn, List.set_set]
  apply List.ext_getElem?
  intro j
  by_cases hj : 1 = j
  · subst hj; rw [List.getElem?_set_self (by rcases List.getElem?_eq_some_iff.1 h1 with ⟨hj, _⟩; exact hj), h1]
  · rw [List.getElem?_set_ne hj]
theorem back_eq {g : Rg} {n : Nat} {tm v z1 z2 : Int} (hn : n = 11) (h1 : g.rs[1]? = some z1) (h2 : g.rs[2]? = some z2) : ((g.ans n tm v).rs.set 1 z1).set 2 z2 = g.rs := by
  subst hn
  show ((((if 11 = 11 then g.rs.set 2 _ else g.rs).set 1 v).set 1 z1).set 2 z2) = _
  rw [if_pos rfl, List.set_set]
  apply List.ext_getElem?
  intro j
  have l1 := g.lr
  by_cases hj : 2 = j
  · subst hj; rw [List.getElem?_set_self (by simp; omega), h2]
  · rw [List.getElem?_set_ne hj]
    by_cases hj1 : 1 = j
    · subst hj1; rw [List.getElem?_set_self (by simp; omega), h1]
    · rw [List.getElem?_set_ne hj1, List.getElem?_set_ne hj]
end Go.Proofs.YtphljkplokjonaaGreat.Hc
namespace Go.Proofs.YtphljkplokjonaaGreat.hcallCosts
open Go Go.Sl Go.RowKit Go.Proofs Go.Proofs.YtphljkplokjonaaGreat.T Go.Proofs.YtphljkplokjonaaGreat.Sp Go.Proofs.YtphljkplokjonaaGreat.Hc
set_option maxRecDepth 100000
set_option maxHeartbeats 8000000 in
theorem walk (W : World) {qu : Int} {a0 : Option Addr} {c0 : Nat} {ops : List HAct} (hops : SlAt W 28 a0 ops.length ((ops.map HAct.cells).flatten)) (hok : ∀ o ∈ ops, o.OK W) :
    Ctr Tryz.prog W 10 [.int .i64 qu, .slice a0 ops.length c0] [old W] (fun _ : Unit => True) (fun _ => .bool true) (fun _ => [old W]) := by
  have hmd := md_range (k := 30) (by decide) qu
  have hwx := wrap_u64_range qu
  obtain ⟨q0, hq0⟩ : ∃ q0, q0 = 1 + md 30 qu := ⟨_, rfl⟩
  have hq1 : 1 ≤ q0 ∧ q0 ≤ 30 := by omega
  refine Ctr.of_body Tryz.func10 rfl Tryz.ntmps10 rfl ?_
  refine CG.seq ?_
  refine CG.region ?_
  refine OG.sg rfl rfl ?_
  refine OG.nil ?_
  refine QG.then ?_
  refine CG.seq ?_
  refine CG.seq ?_
  refine CG.region ?_
  refine OG.callo call12 rfl (Imp.refl _) (works_spec W _) rfl ?_
  rintro ⟨⟩ -
  refine OG.yield (Yield.not rfl) rfl ?_
  refine OG.nil ?_
  refine QG.then ?_
  refine CG.cond_f rfl ?_
  refine CG.skip ?_
  refine QG.then ?_
  refine CG.seq ?_
  refine CG.region ?_
  refine OG.mv rfl rfl ?_
  refine OG.yield (Yield.conv Tryz.underlying24 rfl rfl rfl) rfl ?_
  refine OG.yield (Yield.rem (c := md 30 qu) rfl rfl (by decide) (tmod_pos (by omega) (by omega))) rfl ?_
  refine OG.yield (Yield.conv (c := md 30 qu) Tryz.underlying3 rfl rfl (w64 (by omega) (by omega))) rfl ?_
  refine OG.yield (Yield.add (c := q0) rfl rfl (by rw [w64 (by omega) (by omega), hq0])) rfl ?_
  refine OG.sg rfl rfl ?_
  refine OG.nil ?_
  refine QG.then ?_
  refine CG.seq ?_
  refine CG.region ?_
  refine OG.mv rfl rfl ?_
  refine OG.callo call13 rfl (Imp.refl _) (program_spec W _ (q := q0) hq1.1 hq1.2) rfl ?_
  rintro ⟨x, σ⟩ L0
  have I0 := HI.new (x := x) hq1.1 hq1.2 L0
  clear L0
  dsimp only at I0 ⊢
  refine OG.sg rfl rfl ?_
  refine OG.nil ?_
  refine QG.then ?_
  refine CG.seq ?_
  refine CG.seq ?_
  refine CG.region ?_
  refine OG.mv rfl rfl ?_
  refine OG.yield (by first | exact Yield.ptr_nil Tryz.underlying25 rfl rfl | exact Yield.nil_nil Tryz.underlying25 rfl rfl) rfl ?_
  refine OG.nil ?_
  refine QG.then ?_
  refine CG.cond_f rfl ?_
  refine CG.skip ?_
  refine QG.then ?_
  refine CG.cut (fun _ : Unit => True) (fun _ => [(5, .pointer (some ⟨x.e, 0, none⟩))]) (fun _ => [old W]) ?_ ?_
  · skip
    refine CG.seq ?_
    refine CG.region ?_
    refine OG.sg rfl rfl ?_
    refine OG.nil ?_
    refine QG.then ?_
    refine CG.block ?_
    refine CG.loop (fun y : Nat × HS × St => y.1 ≤ ops.length ∧ y.1 ≤ 120 ∧ HI q0 x y.2.1 y.2.2 (8192 * y.1)) (fun y => [(1, .slice a0 ops.length c0), (5, .pointer (some ⟨x.e, 0, none⟩)), (6, .int .i64 y.1)]) (fun y => hG x y.2.1 [q0, 8] y.2.2 [old W]) (fun y => ops.length - y.1) (0, HS0, σ) ⟨Nat.zero_le _, Nat.zero_le _, I0⟩ eS iM ?_
    clear I0
    rintro ⟨i, S, σ⟩ ⟨im, im2, hI⟩
    dsimp only at im im2 hI ⊢
    refine CG.seq ?_
    refine CG.seq ?_
    rcases loop_head (i) (ops.length) 120 with hh | hh | hh
    · skip
      refine CG.region ?_
      refine OG.mv rfl rfl ?_
      refine OG.mv rfl rfl ?_
      refine OG.yield (Yield.len_slice Tryz.underlying22 rfl rfl) rfl ?_
      refine OG.yield Yield.lssA rfl ?_
      refine OG.mv rfl rfl ?_
      refine OG.gy rfl rfl rfl ?_
      refine OG.mv rfl rfl ?_
      refine OG.gy rfl rfl rfl ?_
      refine OG.yield Yield.lssA rfl ?_
      refine OG.yield Yield.pickA rfl ?_
      refine OG.nil ?_
      refine QG.then ?_
      refine CG.cond_t rfl ?_
      refine CG.skip ?_
      refine QG.then ?_
      obtain ⟨h1, h2⟩ := hh
      have hget : ops[i]? = some ops[i] := by simp [h1]
      have hko := hok ops[i] (List.getElem_mem h1)
      generalize ops[i] = op at hget hko
      refine CG.pure (fun w hw => (hops.old (G := hG x S [q0, 8] σ [old W]) eX).elem_shape HAct.len (by decide) h1 w hw) ?_
      rintro ⟨b, o, rfl⟩
      refine CG.pure (fun w hw => Vd.d_facts (d := x.d) eX w hw) ?_
      intro hdok
      have hHK := hI.hk (by omega) hdok.told
      have hBm := hko.Bm
      unfold reachBytes at hBm
      have hrow : ∀ {G R : List HProp}, Ext G (old W) R → Row W G b (o + i * 28) (HAct.cells op) := fun x => (hops.old x).elem HAct.len hget
      have hreg : ∀ {G R : List HProp}, Ext G (old W) R → Row W G b (o + i * 28 + 1) op.g.v := fun x j v hj => by have := hrow x (1 + j) v (HAct.reg hj); rw [← Nat.add_assoc] at this; exact this
      obtain ⟨n, g1, hn⟩ := Rg.z_get hko.g (i := 1) (by decide) (by decide)
      obtain ⟨ra, g2, hra⟩ := Rg.z_get hko.g (i := 2) (by decide) (by decide)
      obtain ⟨rb, g3, hrb⟩ := Rg.z_get hko.g (i := 3) (by decide) (by decide)
      obtain ⟨rc, g4, hrc⟩ := Rg.z_get hko.g (i := 4) (by decide) (by decide)
      have hgz : op.g.v.set 0 (.int .u32 0) = op.g.z.v := Rg.set_r _ (by decide) _
      have hw := way_of (qk := q0) (S := S) (R := op.g.z.v) (n := n) (a := ra) (b := rb) (c := rc)
      have hcost := fin_cost hw
      refine CG.seq ?_
      refine CG.block ?_
      refine CG.seq ?_
      refine CG.seq ?_
      refine CG.region ?_
      refine OG.mv rfl rfl ?_
      refine OG.mv rfl rfl ?_
      refine OG.yield (Yield.index_slice Tryz.underlying22 ti34 rfl rfl (by omega) (by omega)) rfl ?_
      refine OG.yield (Yield.fieldAddr fa34_0 rfl) rfl ?_
      refine OG.yield (Yield.load (v := .int .i64 op.Kind) ti3 rfl ((hrow eX) 0 _ (HAct.c0 op))) rfl ?_
      refine OG.yield (Yield.neq rfl rfl) rfl ?_
      refine OG.nil ?_
      refine QG.then ?_
      refine CG.cond rfl (fun hc => ?_) (fun hc => ?_)
      · try replace hc := of_decide_eq_true hc
        refine CG.seq ?_
        refine CG.region ?_
        refine OG.mv rfl rfl ?_
        refine OG.mv rfl rfl ?_
        refine OG.mv rfl rfl ?_
        refine OG.yield (Yield.index_slice Tryz.underlying22 ti34 rfl rfl (by omega) (by omega)) rfl ?_
        refine OG.yield (Yield.load_agg (vs := HAct.cells op) ti34 rfl (HAct.len _) (hrow eX)) rfl ?_
        refine OG.callo call14 rfl (iM) (outside_spec W _ (a := op) hHK (by exact RdB.of_slR (hko.B.old eX) hko.Bc) (by omega) rfl) rfl ?_
        rintro σ2 L2
        refine OG.nil ?_
        refine QG.then ?_
        refine CG.exit ?_
        refine QG.pass_exit ?_
        refine QG.block_exit ?_
        refine QG.then ?_
        refine CG.region ?_
        refine OG.mv rfl rfl ?_
        refine OG.yield (Yield.add rfl rfl (w64 (by omega) (by omega))) rfl ?_
        refine OG.sg rfl rfl ?_
        refine OG.nil ?_
        exact QG.next (i + 1, outs S op, σ2) ⟨by simp only; omega, by simp only; omega, hI.outs op (by rw [show 8192 * (i + 1) = 8192 * i + 8192 by omega]; exact L2)⟩ (by simp only; omega) eS iM
      · try replace hc := of_decide_eq_false hc
        refine CG.skip ?_
        refine QG.then ?_
        refine CG.seq ?_
        refine CG.region ?_
        refine OG.mv rfl rfl ?_
        refine OG.mv rfl rfl ?_
        refine OG.yield (Yield.index_slice Tryz.underlying22 ti34 rfl rfl (by omega) (by omega)) rfl ?_
        refine OG.yield (Yield.fieldAddr fa34_1 rfl) rfl ?_
        refine OG.yield (Yield.load_agg (vs := op.g.v) ti31 rfl (Rg.len _) (hreg eX)) rfl ?_
        refine OG.effd (Eff.alloc ti31) rfl ?_
        rintro b7 -
        refine OG.eff (Eff.storeAll ti31 rfl rfl fC (Rg.len _) (Rg.ones _) rfl) rfl ?_
        rintro ⟨⟩ -
        refine OG.nil ?_
        refine QG.then ?_
        refine CG.seq ?_
        refine CG.region ?_
        refine OG.yield (Yield.fieldAddr fa31_0 rfl) rfl ?_
        refine OG.yield (Yield.index_array Tryz.underlying28 ti27 rfl rfl (by omega) (by omega)) rfl ?_
        refine OG.eff (Eff.store1 ti27 rfl rfl fC rfl (by rw [Rg.len]; decide)) rfl ?_
        rintro ⟨⟩ -
        rw [show (0 + 0 + (0 : Int).toNat * 1) = 0 from rfl, hgz]
        refine OG.nil ?_
        refine QG.then ?_
        refine CG.seq ?_
        refine CG.region ?_
        refine OG.mv rfl rfl ?_
        refine OG.yield (Yield.load_agg (vs := op.g.z.v) ti31 rfl (Rg.len _) (fun j v hj => Cel.of_blk (b := b7) eX (by rw [Nat.zero_add j]; exact hj))) rfl ?_
        refine OG.callo call16 rfl (iM) (Do_c W (blk b7 op.g.z.v 31 :: [old W]) (g := op.g.z) (n := n) (a := ra) (b := rb) (c := rc) hI (by omega) hra hrb hrc hn g1 g2 g3 g4) rfl ?_
        rintro σ2 I2
        generalize hm : fin S op.g.z.v (ocOf q0 S op.g.z.v n ra rb rc) = m at hcost I2 ⊢
        refine OG.mv rfl rfl ?_
        refine OG.yield (Yield.extract rfl rfl) rfl ?_
        refine OG.yield (Yield.extract rfl rfl) rfl ?_
        refine OG.yield (Yield.extract rfl rfl) rfl ?_
        refine OG.effd (Eff.alloc ti31) rfl ?_
        rintro b8 -
        refine OG.eff (Eff.storeAll ti31 rfl rfl fC (Rg.len _) (Rg.ones _) rfl) rfl ?_
        rintro ⟨⟩ -
        refine OG.sg rfl rfl ?_
        refine OG.sg rfl rfl ?_
        refine OG.nil ?_
        refine QG.then ?_
        refine CG.seq ?_
        refine CG.seq ?_
        refine CG.region ?_
        refine OG.mv rfl rfl ?_
        refine OG.yield (Yield.as (Yield.lss rfl rfl) (v' := .bool false) (bF (by omega))) rfl ?_
        refine OG.mv rfl rfl ?_
        refine OG.gy rfl rfl rfl ?_
        refine OG.mv rfl rfl ?_
        refine OG.gy rfl rfl rfl ?_
        refine OG.yield (Yield.as (Yield.gtr rfl rfl) (v' := .bool false) (bF (by omega))) rfl ?_
        refine OG.yield Yield.pickA rfl ?_
        refine OG.mv rfl rfl ?_
        refine OG.gy rfl rfl rfl ?_
        refine OG.yield (Yield.fieldAddr fa31_2 rfl) rfl ?_
        refine OG.gy rfl rfl rfl ?_
        refine OG.yield (Yield.load (v := .int .u32 (w32 (op.g.pc + 4))) ti27 rfl (Cel.of_blk (b := b8) eX (Rg.p _))) rfl ?_
        refine OG.gy rfl rfl rfl ?_
        refine OG.yield (Yield.fieldAddr fa31_2 rfl) rfl ?_
        refine OG.gy rfl rfl rfl ?_
        refine OG.yield (Yield.load (v := .int .u32 op.g.pc) ti27 rfl (Cel.of_blk (b := b7) eX (Rg.p op.g.z))) rfl ?_
        refine OG.gy rfl rfl rfl ?_
        refine OG.yield (Yield.add (c := w32 (op.g.pc + 4)) rfl rfl rfl) rfl ?_
        refine OG.gy rfl rfl rfl ?_
        refine OG.yield (Yield.as (Yield.neq rfl rfl) (v' := .bool false) (bF (not_not_intro rfl))) rfl ?_
        refine OG.yield Yield.pickA rfl ?_
        refine OG.mv rfl rfl ?_
        refine OG.gy rfl rfl rfl ?_
        refine OG.yield (Yield.fieldAddr fa31_1 rfl) rfl ?_
        refine OG.gy rfl rfl rfl ?_
        refine OG.yield (Yield.load_agg (vs := op.g.fs.map (.int .u64)) ti29 rfl (by simp [op.g.lf]) (fun j v hj => Cel.of_blk (b := b8) eX (Rg.f (g := op.g.z.ans n S.time m.ans) hj))) rfl ?_
        refine OG.gy rfl rfl rfl ?_
        refine OG.yield (Yield.fieldAddr fa31_1 rfl) rfl ?_
        refine OG.gy rfl rfl rfl ?_
        refine OG.yield (Yield.load_agg (vs := op.g.fs.map (.int .u64)) ti29 rfl (by simp [op.g.lf]) (fun j v hj => Cel.of_blk (b := b7) eX (Rg.f (g := op.g.z) hj))) rfl ?_
        refine OG.gy rfl rfl rfl ?_
        refine OG.yield (Yield.agg_neq 6 (xs := op.g.fs.map (.int .u64)) (ys := op.g.fs.map (.int .u64)) rfl rfl (by decide) flat29 guard29 (fit8 op.g.lf) (fit8 op.g.lf) (b := false) (by rw [eqC_ints]; rfl)) rfl ?_
        refine OG.yield Yield.pickA rfl ?_
        refine OG.nil ?_
        refine QG.then ?_
        refine CG.cond_f rfl ?_
        refine CG.skip ?_
        refine QG.then ?_
        refine CG.seq ?_
        refine CG.region ?_
        refine OG.yield (Yield.fieldAddr fa31_0 rfl) rfl ?_
        refine OG.yield (Yield.index_array Tryz.underlying28 ti27 rfl rfl (by omega) (by omega)) rfl ?_
        refine OG.yield (Yield.load (v := .int .u32 n) ti27 rfl (Cel.of_blk (b := b7) eX (Rg.r g1))) rfl ?_
        refine OG.sg rfl rfl ?_
        refine OG.nil ?_
        refine QG.then ?_
        refine CG.seq ?_
        refine CG.region ?_
        refine OG.yield (Yield.fieldAddr fa31_0 rfl) rfl ?_
        refine OG.yield (Yield.index_array Tryz.underlying28 ti27 rfl rfl (by omega) (by omega)) rfl ?_
        refine OG.yield (Yield.load (v := .int .u32 n) ti27 rfl (Cel.of_blk (b := b7) eX (Rg.r g1))) rfl ?_
        refine OG.yield (Yield.fieldAddr fa31_0 rfl) rfl ?_
        refine OG.yield (Yield.index_array Tryz.underlying28 ti27 rfl rfl (by omega) (by omega)) rfl ?_
        refine OG.eff (Eff.store1 ti27 rfl rfl fC rfl (by rw [Rg.len]; decide)) rfl ?_
        rintro ⟨⟩ -
        rw [show (0 + 0 + (1 : Int).toNat * 1) = 1 from rfl, Rg.set_r _ (by decide)]
        refine OG.nil ?_
        refine QG.then ?_
        refine CG.seq ?_
        refine CG.seq ?_
        refine CG.region ?_
        refine OG.mv rfl rfl ?_
        refine OG.yield (Yield.eql rfl rfl) rfl ?_
        refine OG.nil ?_
        refine QG.then ?_
        refine CG.cond rfl (fun hc => ?_) (fun hc => ?_)
        · try replace hc := of_decide_eq_true hc
          have hn11 : n = 11 := by omega
          refine CG.region ?_
          refine OG.yield (Yield.fieldAddr fa31_0 rfl) rfl ?_
          refine OG.yield (Yield.index_array Tryz.underlying28 ti27 rfl rfl (by omega) (by omega)) rfl ?_
          refine OG.yield (Yield.load (v := .int .u32 ra) ti27 rfl (Cel.of_blk (b := b7) eX (Rg.r g2))) rfl ?_
          refine OG.yield (Yield.fieldAddr fa31_0 rfl) rfl ?_
          refine OG.yield (Yield.index_array Tryz.underlying28 ti27 rfl rfl (by omega) (by omega)) rfl ?_
          refine OG.eff (Eff.store1 ti27 rfl rfl fC rfl (by rw [Rg.len]; decide)) rfl ?_
          rintro ⟨⟩ -
          rw [show (0 + 0 + (2 : Int).toNat * 1) = 2 from rfl, Rg.set_r _ (by decide)]
          dsimp only
          simp only [back_eq hn11 g1 g2]
          refine OG.nil ?_
          refine QG.then ?_
          refine CG.seq ?_
          refine CG.region ?_
          refine OG.yield (Yield.fieldAddr fa31_0 rfl) rfl ?_
          refine OG.yield (Yield.load_agg (vs := op.g.z.rs.map (.int .u32)) ti28 rfl (by simp [op.g.z.lr]) (fun j v hj => Cel.of_blk (b := b8) eX (by rw [Nat.zero_add]; exact Rg.rr (g := ⟨op.g.z.rs, (op.g.z.ans n S.time m.ans).fs, (op.g.z.ans n S.time m.ans).pc, op.g.z.lr, op.g.z.lf⟩) hj))) rfl ?_
          refine OG.yield (Yield.fieldAddr fa31_0 rfl) rfl ?_
          refine OG.yield (Yield.load_agg (vs := op.g.z.rs.map (.int .u32)) ti28 rfl (by simp [op.g.z.lr]) (fun j v hj => Cel.of_blk (b := b7) eX (by rw [Nat.zero_add]; exact Rg.rr (g := op.g.z) hj))) rfl ?_
          refine OG.yield (Yield.agg_neq 6 (xs := op.g.z.rs.map (.int .u32)) (ys := op.g.z.rs.map (.int .u32)) rfl rfl (by decide) flat28 guard28 (fit16 op.g.z.lr) (fit16 op.g.z.lr) (b := false) (by rw [eqC_ints]; rfl)) rfl ?_
          refine OG.nil ?_
          refine QG.then ?_
          refine CG.cond_f rfl ?_
          refine CG.skip ?_
          refine QG.block_normal ?_
          refine QG.then ?_
          refine CG.region ?_
          refine OG.mv rfl rfl ?_
          refine OG.yield (Yield.add rfl rfl (w64 (by omega) (by omega))) rfl ?_
          refine OG.sg rfl rfl ?_
          refine OG.nil ?_
          exact QG.next (i + 1, m.S, σ2) ⟨by simp only; omega, by simp only; omega, by rw [show 8192 * (i + 1) = 8192 * i + 8192 by omega]; exact I2⟩ (by simp only; omega) eS iM
        · try replace hc := of_decide_eq_false hc
          have hn11 : n ≠ 11 := by omega
          simp only [back_ne g1 hn11]
          refine CG.skip ?_
          refine QG.then ?_
          refine CG.seq ?_
          refine CG.region ?_
          refine OG.yield (Yield.fieldAddr fa31_0 rfl) rfl ?_
          refine OG.yield (Yield.load_agg (vs := op.g.z.rs.map (.int .u32)) ti28 rfl (by simp [op.g.z.lr]) (fun j v hj => Cel.of_blk (b := b8) eX (by rw [Nat.zero_add]; exact Rg.rr (g := ⟨op.g.z.rs, (op.g.z.ans n S.time m.ans).fs, (op.g.z.ans n S.time m.ans).pc, op.g.z.lr, op.g.z.lf⟩) hj))) rfl ?_
          refine OG.yield (Yield.fieldAddr fa31_0 rfl) rfl ?_
          refine OG.yield (Yield.load_agg (vs := op.g.z.rs.map (.int .u32)) ti28 rfl (by simp [op.g.z.lr]) (fun j v hj => Cel.of_blk (b := b7) eX (by rw [Nat.zero_add]; exact Rg.rr (g := op.g.z) hj))) rfl ?_
          refine OG.yield (Yield.agg_neq 6 (xs := op.g.z.rs.map (.int .u32)) (ys := op.g.z.rs.map (.int .u32)) rfl rfl (by decide) flat28 guard28 (fit16 op.g.z.lr) (fit16 op.g.z.lr) (b := false) (by rw [eqC_ints]; rfl)) rfl ?_
          refine OG.nil ?_
          refine QG.then ?_
          refine CG.cond_f rfl ?_
          refine CG.skip ?_
          refine QG.block_normal ?_
          refine QG.then ?_
          refine CG.region ?_
          refine OG.mv rfl rfl ?_
          refine OG.yield (Yield.add rfl rfl (w64 (by omega) (by omega))) rfl ?_
          refine OG.sg rfl rfl ?_
          refine OG.nil ?_
          exact QG.next (i + 1, m.S, σ2) ⟨by simp only; omega, by simp only; omega, by rw [show 8192 * (i + 1) = 8192 * i + 8192 by omega]; exact I2⟩ (by simp only; omega) eS iM
    · skip
      refine CG.region ?_
      refine OG.mv rfl rfl ?_
      refine OG.mv rfl rfl ?_
      refine OG.yield (Yield.len_slice Tryz.underlying22 rfl rfl) rfl ?_
      refine OG.yield Yield.lssA rfl ?_
      refine OG.mv rfl rfl ?_
      refine OG.gy rfl rfl rfl ?_
      refine OG.mv rfl rfl ?_
      refine OG.gy rfl rfl rfl ?_
      refine OG.yield Yield.lssA rfl ?_
      refine OG.yield Yield.pickA rfl ?_
      refine OG.nil ?_
      refine QG.then ?_
      refine CG.cond_f rfl ?_
      refine CG.exit ?_
      refine QG.pass_exit ?_
      refine QG.pass_exit ?_
      refine QG.block_exit ?_
      exact QG.mid () trivial eS iM
    · skip
      refine CG.region ?_
      refine OG.mv rfl rfl ?_
      refine OG.mv rfl rfl ?_
      refine OG.yield (Yield.len_slice Tryz.underlying22 rfl rfl) rfl ?_
      refine OG.yield Yield.lssA rfl ?_
      refine OG.mv rfl rfl ?_
      refine OG.gn rfl rfl rfl rfl rfl ?_
      refine OG.gn rfl rfl rfl rfl rfl ?_
      refine OG.yield Yield.pickA rfl ?_
      refine OG.nil ?_
      refine QG.then ?_
      refine CG.cond_f rfl ?_
      refine CG.exit ?_
      refine QG.pass_exit ?_
      refine QG.pass_exit ?_
      refine QG.block_exit ?_
      exact QG.mid () trivial eS iM
  rintro ⟨⟩ -
  refine CG.seq ?_
  refine CG.region ?_
  refine OG.sg rfl rfl ?_
  refine OG.nil ?_
  refine QG.then ?_
  refine CG.ret ?_
  exact QG.ret1 rfl rfl () trivial rfl iM
open Go.ChangeShapes Go.WideShapes Go.ChangeAt
theorem own : ownKnob Tryz.prog.godebug = none := by kernel_rfl
theorem laid : laidOutB Tryz.prog = true := by kernel_rfl
set_option maxRecDepth 100000 in
theorem lifted (os : Os) (started : os.Started) (H : Type) (enc : TypeId × Value → H) :
    ReturnsInHanded {} Tryz.checked os 10 .any (Rows.hcallCostsSpec.pre6 enc Tryz.prog Tryz.f10 Rows.hcallCostsRow.domain false) (Rows.hcallCostsSpec.post enc Tryz.prog Tryz.f10 false true false false) := by
  refine returnsInHanded_of_change_sized (C := Tryz.checked) own started (by kernel_rfl) Tryz.func10
    (ChangeSpec.witness6 (enc := enc) (C := Tryz.checked) false ⟨#[], #[.int .i64 0, .slice none 0 0], []⟩ 8 (by kernel_rfl) (by kernel_rfl) (by kernel_rfl) (by kernel_rfl)) ?_
  intro W base args ds gs before hval0 hW hcnd hsz0 _
  have hsz : (DataW.weightsEach Tryz.prog (Tryz.f10.params.toList ++ Rows.hcallCostsSpec.plain.varTypes Tryz.prog) (ds ++ gs)).all (· ≤ reachBytes) = true := hsz0
  have hval : ∀ (j : Nat) t v, Tryz.f10.params[j]? = some t → args[j]? = some v → Value.okWide Tryz.prog W .any base t v := hval0
  have hW' := hW
  obtain ⟨p, q, hA0, hV, rfl, hfz, hnd⟩ := hW
  have hA : DataW.TrodAll enc Tryz.prog W 0 (fun _ => true) true Tryz.f10.params.toList args.toList ds p := hA0
  rw [Tryz.params10] at hA hval hsz
  obtain ⟨v0, vs0, d0, ds0, p0, q0, hargs, rfl, rfl, h0, r0⟩ := trodAll_cons hA
  obtain ⟨v1, vs1, d1, ds1, p1, q1, rfl, rfl, rfl, h1, r1⟩ := trodAll_cons r0
  obtain ⟨rfl, rfl, rfl⟩ := trodAll_nil r1
  obtain rfl : args = #[v0, v1] := by cases args; simp_all
  obtain ⟨rfl, rfl⟩ := trodVars_none hV
  obtain ⟨a0, rfl, rfl, rfl, w0⟩ := open_int Tryz.underlying3 (hval 0 3 v0 rfl rfl) h0
  have k1 := weights_le hsz 1 (t := 22) (d := d1) rfl rfl
  have s1 := Opn.param Tryz.underlying22 (HAct.list W) (hval 1 22 v1 rfl rfl) h1 k1
  obtain ⟨x0, c0, ops, e1, l0, ok0, s0, m0⟩ := s1
  cases e1
  clear hA0 hval0 hsz0 hsz
  refine ((walk W s0 ok0) W (Sat.start W)).mono fun e W' he => ?_
  obtain ⟨_, _, he, hs⟩ := he
  subst he
  exact ⟨_, rfl, law_post laid (params_ok (by kernel_rfl)) rfl Tryz.underlying4 hW' rfl rfl (Sat.below eX hs)⟩
theorem over : Rows.hcallCostsRow.holds Tryz.pinned (OpenSpec.ofChange Rows.hcallCostsSpec) :=
  OpenClaim.holds_of_wide 10 Tryz.f10 rfl rfl rfl rfl rfl rfl rfl ⟨rfl, rfl, rfl, rfl, rfl⟩ rfl rfl rfl rfl rfl (by kernel_rfl) Tryz.func10 (by kernel_rfl)
    (of_decide_eq_true (by kernel_rfl)) (by unfold Func.isWrapper; first | (rw [if_pos (by decide +kernel)]; kernel_rfl) | (rw [if_neg (by decide +kernel)]; exact ⟨rfl, rfl⟩))
    (fun os started H enc _ => lifted os started H enc)
theorem proved : Rows.HcallCostsSaid := over
#print axioms proved
end Go.Proofs.YtphljkplokjonaaGreat.hcallCosts
/- HcallPages. -/
namespace Go.Proofs.YtphljkplokjonaaGreat.Hc
open Go Go.Sl Go.RowKit Go.Proofs Go.Proofs.YtphljkplokjonaaGreat.T Go.Proofs.YtphljkplokjonaaGreat.Sp
set_option maxRecDepth 100000
/-- But one page there, or none. -/
structure Sg (o : Ob) (pg : Nat) (x : Option (Nat × B)) : Prop where
  v : o.vw = up2 (fun _ _ => none) 0 pg x
  t : ∀ g, o.ts 0 g = true → g = 0
theorem Sg.at {o : Ob} {pg : Nat} {x : Option (Nat × B)} (h : Sg o pg x) : o.vw 0 pg = x := by rw [h.v, up2_at]
theorem sg_no {pg : Nat} : up2 (fun _ _ => (none : Option (Nat × B))) 0 pg none = fun _ _ => none := by
  funext a b; unfold up2; split <;> rfl
theorem Sg.none {o : Ob} {pg : Nat} (h : Sg o pg none) (q : Nat) : Sg o q none := ⟨by rw [h.v, sg_no, sg_no], h.t⟩
theorem used_on {o : Ob} {pg : Nat} (h : Sg o pg none) : used o 0 ≤ 2 := by
  have hv := h.v
  rw [sg_no] at hv
  unfold used
  rw [hv]
  have e1 : cN (fun p => (none : Option (Nat × B)).isSome) 4096 = 0 := cN_zero _
  have e2 := cN_upd (f := fun _ => false) (g := o.ts 0) (i := 0) (fun q hq => by cases hh : o.ts 0 q; rfl; exact absurd (h.t q hh) hq) 64 (by decide)
  rw [cN_zero] at e2
  rw [e1]
  cases ho : o.ts 0 0 <;> simp [ho] at e2 <;> omega
theorem sg_map {o : Ob} {pg p : Nat} (h : Sg o pg none) (hg : pg < 64) (h1 : 1 ≤ p) (h7 : p ≤ 7) : ∃ o', mapO 14 o 0 (pg : Int) (p : Int) = (0, o') ∧ Sg o' pg (some (p, zs)) := by
  have hu := used_on h
  have hd : pg / 64 = 0 := by omega
  unfold mapO
  rw [if_neg (by omega), Int.toNat_natCast, h.at, if_neg (by simp), hd, if_neg (by split <;> omega), Int.toNat_natCast]
  refine ⟨_, rfl, ?_, ?_⟩
  · show up2 o.vw 0 pg _ = _
    rw [h.v, sg_no]
  · intro g hgt
    by_cases q : g = 0
    · exact q
    · have : up2 o.ts 0 0 true 0 g = true := hgt
      rw [up2_ne (by omega)] at this
      exact h.t g this
theorem sg_map2 {o : Ob} {pg p : Nat} {x : Nat × B} (h : Sg o pg (some x)) (hg : pg < 64) (h1 : 1 ≤ p) (h7 : p ≤ 7) : mapO 14 o 0 (pg : Int) (p : Int) = (91, o) := by
  unfold mapO
  rw [if_neg (by omega), Int.toNat_natCast, h.at, if_pos (by simp)]
theorem sg_prm {o : Ob} {pg : Nat} {x : Option (Nat × B)} (h : Sg o pg x) (hg : pg < 64) : prmO o 0 (pg : Int) = match x with | some y => (y.1 : Int) | none => 0 := by
  unfold prmO
  rw [vI_nat (by omega), h.at]
  cases x <;> rfl
theorem up2_two {β : Type} {h : Nat → Nat → β} {k p : Nat} {u v : β} : up2 (up2 h k p u) k p v = up2 h k p v := by
  funext a b
  by_cases e : a = k ∧ b = p
  · obtain ⟨rfl, rfl⟩ := e; rw [up2_at, up2_at]
  · rw [up2_ne (by omega), up2_ne (by omega), up2_ne (by omega)]
theorem sg_prot {o : Ob} {pg : Nat} {x : Nat × B} (h : Sg o pg (some x)) (hg : pg < 64) : ∃ o', protO o 0 (pg : Int) 3 = (0, o') ∧ Sg o' pg (some (3, x.2)) := by
  unfold protO
  rw [if_neg (by omega), Int.toNat_natCast, h.at]
  refine ⟨_, rfl, ?_, h.t⟩
  show up2 o.vw 0 pg _ = _
  rw [h.v, up2_two]; rfl
theorem sg_unmap {o : Ob} {pg : Nat} {x : Nat × B} (h : Sg o pg (some x)) (hg : pg < 64) : ∃ o', unmapO o 0 (pg : Int) = (0, o') ∧ Sg o' pg none := by
  unfold unmapO
  rw [if_neg (by omega), Int.toNat_natCast, h.at, if_pos (by simp)]
  refine ⟨_, rfl, ?_, h.t⟩
  show up2 o.vw 0 pg _ = _
  rw [h.v, up2_two]
theorem sg_unmap2 {o : Ob} {pg : Nat} (h : Sg o pg none) (hg : pg < 64) : unmapO o 0 (pg : Int) = (90, o) := by
  unfold unmapO
  rw [if_neg (by omega), Int.toNat_natCast, h.at, if_neg (by simp)]
theorem sg_may {o : Ob} {pg : Nat} {b : B} {right : Int} {n : Nat} (h : Sg o pg (some (3, b))) (hg : pg < 64) (hr : Go.bits .and .i64 ((3 : Nat) : Int) right ≠ 0) (hn : n ≤ 256) : mayA o 0 right (pg * 256) n = true :=
  mayA_t fun i hi => by
    rw [mayP_some (p := 3) (by omega) (by unfold pmO; rw [show (pg * 256 + i) / 256 = pg by omega, h.at]; rfl)]
    exact decide_eq_true hr
theorem sg_in {o : Ob} {pg : Nat} (h : Sg o pg (some (3, zs))) (hg : pg < 64) : inO o 0 (pg * 256) 256 = (List.replicate 256 0, 0) := by
  unfold inO
  rw [if_neg (by decide), if_pos (sg_may h hg (by decide) (by decide))]
  congr 1
  show bufI o 0 (pg * 256) 256 256 = _
  apply List.ext_getElem?
  intro i
  by_cases hi : i < 256
  · rw [bufI_get hi, if_pos hi, List.getElem?_replicate, if_pos hi]
    unfold byteO
    rw [show (pg * 256 + i) / 256 = pg by omega, h.at]
    simp [List.getElem?_replicate, show i % 256 < 256 from Nat.mod_lt _ (by decide)]
  · rw [List.getElem?_eq_none (by rw [bufI_len]; omega), List.getElem?_eq_none (by simp; omega)]
theorem sg_out {o : Ob} {pg : Nat} {b c : B} (h : Sg o pg (some (3, b))) (hg : pg < 64) (hc : c.length ≤ 256) : ∃ o' d, outR o 0 (pg * 256) c = (0, o') ∧ Sg o' pg (some (3, d)) := by
  unfold outR
  rw [if_neg (by omega), if_pos (sg_may h hg (by decide) hc)]
  refine ⟨_, putP (pg * 256) c c.length pg b, rfl, ?_, h.t⟩
  show (fun k' q => (o.vw k' q).map _) = _
  rw [h.v]
  funext k' q
  by_cases e : k' = 0 ∧ q = pg
  · obtain ⟨rfl, rfl⟩ := e
    rw [up2_at, up2_at]; rfl
  · rw [up2_ne e, up2_ne e]; rfl
theorem f_map {S : HS} {R : List Value} {pg p : Nat} {o' : Ob} (h : mapO 14 S.o 0 (pg : Int) (p : Int) = (0, o')) : fin S R (ocOf 14 S R 2 pg p 0) = ⟨0, 0, 0, { S with o := o' }, R⟩ := by
  show fin S R (ocMap 14 S R pg p) = _
  unfold ocMap; rw [h]; rfl
theorem f_mapx {S : HS} {R : List Value} {pg p : Nat} {o' : Ob} (h : mapO 14 S.o 0 (pg : Int) (p : Int) = (91, o')) : fin S R (ocOf 14 S R 2 pg p 0) = ⟨4294967289, 0, 0, S, R⟩ := by
  show fin S R (ocMap 14 S R pg p) = _
  unfold ocMap; rw [h]; rfl
theorem f_prot {S : HS} {R : List Value} {pg : Nat} {o' : Ob} (h : protO S.o 0 (pg : Int) 3 = (0, o')) : fin S R (ocOf 14 S R 4 pg 3 0) = ⟨0, 0, 0, { S with o := o' }, R⟩ := by
  show fin S R (ocProt S R pg 3) = _
  unfold ocProt; rw [show (((3 : Nat) : Int)) = 3 from rfl, h]; rfl
theorem f_unm {S : HS} {R : List Value} {pg : Nat} {o' : Ob} (h : unmapO S.o 0 (pg : Int) = (0, o')) : fin S R (ocOf 14 S R 3 pg 0 0) = ⟨0, 0, 0, { S with o := o' }, R⟩ := by
  show fin S R (ocUnmap S R pg) = _
  unfold ocUnmap; rw [h]; rfl
theorem f_unmx {S : HS} {R : List Value} {pg : Nat} {o' : Ob} (h : unmapO S.o 0 (pg : Int) = (90, o')) : fin S R (ocOf 14 S R 3 pg 0 0) = ⟨4294967294, 0, 0, S, R⟩ := by
  show fin S R (ocUnmap S R pg) = _
  unfold ocUnmap; rw [h]; rfl
end Go.Proofs.YtphljkplokjonaaGreat.Hc
namespace Go.Proofs.YtphljkplokjonaaGreat.hcallPages
open Go Go.Sl Go.RowKit Go.Proofs Go.Proofs.YtphljkplokjonaaGreat.T Go.Proofs.YtphljkplokjonaaGreat.Sp Go.Proofs.YtphljkplokjonaaGreat.Hc
set_option maxRecDepth 100000
theorem HI.at' {q0 : Int} {x : HP} {S : HS} {σ σ' : St} {cc cc' : Nat} {o : Ob} (h : HI q0 x S σ cc) (L : Lk 64 [q0, 8] (rt0 x.r) o cc' σ') : HI q0 x { S with o := o } σ' cc' := ⟨L, h.h1, h.h2, h.q, h.p, h.t0, h.t1, h.m0, h.m1⟩
set_option maxHeartbeats 8000000 in
theorem walk (W : World) {pe : Int} {a0 : Option Addr} {c0 : Nat} {xs : List Int} (hxs : SlAt W 1 a0 xs.length ((xs.map (intC .i64)).flatten)) :
    Ctr Tryz.prog W 7 [.slice a0 xs.length c0, .int .i64 pe] [old W] (fun _ : Unit => True) (fun _ => .bool true) (fun _ => [old W]) := by
  have hmd := md_range (k := 7) (by decide) pe
  have hwx := wrap_u64_range pe
  obtain ⟨p, hp⟩ : ∃ p : Nat, (p : Int) = 1 + md 7 pe := ⟨(1 + md 7 pe).toNat, by omega⟩
  have hp1 : 1 ≤ p ∧ p ≤ 7 := by omega
  refine Ctr.of_body Tryz.func7 rfl Tryz.ntmps7 rfl ?_
  refine CG.seq ?_
  refine CG.region ?_
  refine OG.sg rfl rfl ?_
  refine OG.nil ?_
  refine QG.then ?_
  refine CG.seq ?_
  refine CG.seq ?_
  refine CG.region ?_
  refine OG.callo call12 rfl (Imp.refl _) (works_spec W _) rfl ?_
  rintro ⟨⟩ -
  refine OG.yield (Yield.not rfl) rfl ?_
  refine OG.nil ?_
  refine QG.then ?_
  refine CG.cond_f rfl ?_
  refine CG.skip ?_
  refine QG.then ?_
  refine CG.seq ?_
  refine CG.region ?_
  refine OG.callo call13 rfl (Imp.refl _) (program_spec W _ (q := 14) (by decide) (by decide)) rfl ?_
  rintro ⟨x, σ⟩ L0
  have I0 := HI.new (x := x) (by decide) (by decide) L0
  clear L0
  dsimp only at I0 ⊢
  refine OG.sg rfl rfl ?_
  refine OG.nil ?_
  refine QG.then ?_
  refine CG.seq ?_
  refine CG.seq ?_
  refine CG.region ?_
  refine OG.mv rfl rfl ?_
  refine OG.yield (by first | exact Yield.ptr_nil Tryz.underlying25 rfl rfl | exact Yield.nil_nil Tryz.underlying25 rfl rfl) rfl ?_
  refine OG.nil ?_
  refine QG.then ?_
  refine CG.cond_f rfl ?_
  refine CG.skip ?_
  refine QG.then ?_
  refine CG.seq ?_
  refine CG.region ?_
  refine OG.mv rfl rfl ?_
  refine OG.yield (Yield.conv Tryz.underlying24 rfl rfl rfl) rfl ?_
  refine OG.yield (Yield.rem (c := md 7 pe) rfl rfl (by decide) (tmod_pos (by omega) (by omega))) rfl ?_
  refine OG.yield (Yield.add (c := (p : Int)) rfl rfl (by rw [hp]; exact wu64 (by omega) (by omega))) rfl ?_
  refine OG.yield (Yield.conv (c := (p : Int)) Tryz.underlying27 rfl rfl (wu32 (by omega) (by omega))) rfl ?_
  refine OG.sg rfl rfl ?_
  refine OG.nil ?_
  refine QG.then ?_
  refine CG.cut (fun _ : Unit => True) (fun _ => [(5, .pointer (some ⟨x.e, 0, none⟩))]) (fun _ => [old W]) ?_ ?_
  · skip
    refine CG.seq ?_
    refine CG.region ?_
    refine OG.sg rfl rfl ?_
    refine OG.nil ?_
    refine QG.then ?_
    refine CG.block ?_
    refine CG.loop (fun y : Nat × HS × St => y.1 ≤ xs.length ∧ y.1 ≤ 40 ∧ HI 14 x y.2.1 y.2.2 (65536 * y.1) ∧ Sg y.2.1.o 0 none) (fun y => [(0, .slice a0 xs.length c0), (5, .pointer (some ⟨x.e, 0, none⟩)), (6, .int .u32 p), (7, .int .i64 y.1)]) (fun y => hG x y.2.1 [14, 8] y.2.2 [old W]) (fun y => xs.length - y.1) (0, HS0, σ) ⟨Nat.zero_le _, Nat.zero_le _, I0, ⟨by rw [sg_no]; rfl, fun g hg => absurd hg (by show ¬ (false = true); decide)⟩⟩ eS iM ?_
    clear I0
    rintro ⟨i, S, σ⟩ ⟨im, im2, hI, hS0⟩
    dsimp only at im im2 hI hS0 ⊢
    refine CG.seq ?_
    refine CG.seq ?_
    rcases loop_head (i) (xs.length) 40 with hh | hh | hh
    · skip
      refine CG.region ?_
      refine OG.mv rfl rfl ?_
      refine OG.mv rfl rfl ?_
      refine OG.yield (Yield.len_slice Tryz.underlying80 rfl rfl) rfl ?_
      refine OG.yield Yield.lssA rfl ?_
      refine OG.mv rfl rfl ?_
      refine OG.gy rfl rfl rfl ?_
      refine OG.mv rfl rfl ?_
      refine OG.gy rfl rfl rfl ?_
      refine OG.yield Yield.lssA rfl ?_
      refine OG.yield Yield.pickA rfl ?_
      refine OG.nil ?_
      refine QG.then ?_
      refine CG.cond_t rfl ?_
      refine CG.skip ?_
      refine QG.then ?_
      obtain ⟨h1, h2⟩ := hh
      have hget : xs[i]? = some xs[i] := by simp [h1]
      generalize xs[i] = pgi at hget
      have hmg := md_range (k := 64) (by decide) pgi
      have hwg := wrap_u64_range pgi
      obtain ⟨pg, hpg⟩ : ∃ pg : Nat, (pg : Int) = md 64 pgi := ⟨(md 64 pgi).toNat, by omega⟩
      have hg : pg < 64 := by omega
      have hS := hS0.none pg
      obtain ⟨o1, e1, s1⟩ := sg_map hS hg hp1.1 hp1.2
      have e2 := sg_map2 s1 hg hp1.1 hp1.2
      obtain ⟨o2, e3, s2⟩ := sg_prot s1 hg
      have e4 := sg_in s2 hg
      obtain ⟨o3, dd, e5, s3⟩ := sg_out (c := [108, 101, 102, 116, 32, 98, 101, 104, 105, 110, 100]) s2 hg (by decide)
      obtain ⟨o4, e6, s4⟩ := sg_unmap s3 hg
      have e7 := sg_unmap2 s4 hg
      refine CG.pure (fun w hw => (hxs.old (G := hG x S [14, 8] σ [old W]) eX).elem_shape (fun _ => rfl) (by decide) h1 w hw) ?_
      rintro ⟨b, o, rfl⟩
      have hrow : ∀ {G R : List HProp}, Ext G (old W) R → Row W G b (o + i * 1) (intC .i64 pgi) := fun x => (hxs.old x).elem (fun _ => rfl) hget
      refine CG.seq ?_
      refine CG.block ?_
      refine CG.seq ?_
      refine CG.region ?_
      refine OG.mv rfl rfl ?_
      refine OG.mv rfl rfl ?_
      refine OG.yield (Yield.index_slice Tryz.underlying80 ti3 rfl rfl (by omega) (by omega)) rfl ?_
      refine OG.yield (Yield.load (v := .int .i64 pgi) ti3 rfl ((hrow eX) 0 _ rfl)) rfl ?_
      refine OG.yield (Yield.conv Tryz.underlying24 rfl rfl rfl) rfl ?_
      refine OG.yield (Yield.rem (c := md 64 pgi) rfl rfl (by decide) (tmod_pos (by omega) (by omega))) rfl ?_
      refine OG.yield (Yield.conv (c := (pg : Int)) Tryz.underlying27 rfl rfl (by rw [← hpg]; exact wu32 (by omega) (by omega))) rfl ?_
      refine OG.sg rfl rfl ?_
      refine OG.nil ?_
      refine QG.then ?_
      refine CG.seq ?_
      refine CG.region ?_
      refine OG.mv rfl rfl ?_
      refine OG.mv rfl rfl ?_
      refine OG.mv rfl rfl ?_
      refine OG.callo call28 rfl (Imp.refl _) (call_spec W _ 2 pg p 0) rfl ?_
      rintro ⟨⟩ -
      refine OG.callo call16 rfl (iM) (Do_m W [old W] (g := cR 2 pg p 0) (n := 2) (a := pg) (b := p) (c := 0) hI (by omega) (by omega) (by omega) (by decide) (by decide) rfl rfl rfl rfl (f_map e1)) rfl ?_
      rintro σ1 I1
      dsimp only at I1 ⊢
      refine OG.mv rfl rfl ?_
      refine OG.yield (Yield.extract rfl rfl) rfl ?_
      refine OG.yield (Yield.extract rfl rfl) rfl ?_
      refine OG.yield (Yield.extract rfl rfl) rfl ?_
      refine OG.effd (Eff.alloc ti31) rfl ?_
      rintro b9 -
      refine OG.eff (Eff.storeAll ti31 rfl rfl fC (Rg.len _) (Rg.ones _) rfl) rfl ?_
      rintro ⟨⟩ -
      refine OG.sg rfl rfl ?_
      refine OG.sg rfl rfl ?_
      refine OG.nil ?_
      refine QG.then ?_
      refine CG.seq ?_
      refine CG.seq ?_
      refine CG.region ?_
      refine OG.yield (Yield.fieldAddr fa31_0 rfl) rfl ?_
      refine OG.yield (Yield.index_array Tryz.underlying28 ti27 rfl rfl (by omega) (by omega)) rfl ?_
      refine OG.yield (Yield.load (v := .int .u32 0) ti27 rfl (Cel.of_blk (b := b9) eX rfl)) rfl ?_
      refine OG.yield (Yield.as (Yield.neq rfl rfl) (v' := .bool false) (bF (not_not_intro rfl))) rfl ?_
      refine OG.mv rfl rfl ?_
      refine OG.gy rfl rfl rfl ?_
      refine OG.mv rfl rfl ?_
      refine OG.gy rfl rfl rfl ?_
      refine OG.yield (Yield.nilCheck rfl) rfl ?_
      refine OG.gy rfl rfl rfl ?_
      refine OG.yield (Yield.fieldAddr fa83_1 rfl) rfl ?_
      refine OG.gy rfl rfl rfl ?_
      refine OG.yield (Yield.load ti53 rfl (by first | exact Cel.of_blk eX rfl | exact (hrow eX) _ _ rfl)) rfl ?_
      refine OG.gy rfl rfl rfl ?_
      refine OG.mv rfl rfl ?_
      refine OG.gy rfl rfl rfl ?_
      refine OG.yield (Yield.conv (c := (pg : Int)) Tryz.underlying3 rfl rfl (w64 (by omega) (by omega))) rfl ?_
      refine OG.gy rfl rfl rfl ?_
      refine OG.callo call29 rfl (iM) (prm_c W _ (s := x.s) (m := x.m) (f := x.f) (t := x.t) (k := 0) (r := x.r) I1.L rfl (pg : Int)) rfl ?_
      rintro ⟨⟩ -
      refine OG.gy rfl rfl rfl ?_
      refine OG.mv rfl rfl ?_
      refine OG.gy rfl rfl rfl ?_
      refine OG.yield (Yield.conv (c := (p : Int)) Tryz.underlying3 rfl rfl (w64 (by omega) (by omega))) rfl ?_
      refine OG.gy rfl rfl rfl ?_
      refine OG.yield (Yield.as (Yield.neq rfl rfl) (v' := .bool false) (bF (not_not_intro (sg_prm s1 hg)))) rfl ?_
      refine OG.yield Yield.pickA rfl ?_
      refine OG.nil ?_
      refine QG.then ?_
      refine CG.cond_f rfl ?_
      refine CG.skip ?_
      refine QG.then ?_
      refine CG.seq ?_
      refine CG.region ?_
      refine OG.mv rfl rfl ?_
      refine OG.mv rfl rfl ?_
      refine OG.mv rfl rfl ?_
      refine OG.callo call28 rfl (Imp.refl _) (call_spec W _ 2 pg p 0) rfl ?_
      rintro ⟨⟩ -
      refine OG.callo call16 rfl (iM) (Do_m W [old W] (g := cR 2 pg p 0) (n := 2) (a := pg) (b := p) (c := 0) I1 (by omega) (by omega) (by omega) (by decide) (by decide) rfl rfl rfl rfl (f_mapx (S := { S with o := o1 }) e2)) rfl ?_
      rintro σ2 I2
      dsimp only at I2 ⊢
      refine OG.mv rfl rfl ?_
      refine OG.yield (Yield.extract rfl rfl) rfl ?_
      refine OG.yield (Yield.extract rfl rfl) rfl ?_
      refine OG.yield (Yield.extract rfl rfl) rfl ?_
      refine OG.effd (Eff.alloc ti31) rfl ?_
      rintro b12 -
      refine OG.eff (Eff.storeAll ti31 rfl rfl fC (Rg.len _) (Rg.ones _) rfl) rfl ?_
      rintro ⟨⟩ -
      refine OG.sg rfl rfl ?_
      refine OG.sg rfl rfl ?_
      refine OG.nil ?_
      refine QG.then ?_
      refine CG.seq ?_
      refine CG.region ?_
      refine OG.mv rfl rfl ?_
      refine OG.mv rfl rfl ?_
      refine OG.callo call28 rfl (Imp.refl _) (call_spec W _ 4 pg 3 0) rfl ?_
      rintro ⟨⟩ -
      refine OG.callo call16 rfl (iM) (Do_m W (blk b12 (Rg.ans (cR 2 pg p 0) 2 S.time 4294967289).v 31 :: [old W]) (g := cR 4 pg 3 0) (n := 4) (a := pg) (b := 3) (c := 0) I2 (by omega) (by omega) (by decide) (by decide) (by decide) rfl rfl rfl rfl (f_prot (S := { S with o := o1 }) e3)) rfl ?_
      rintro σ3 I3
      dsimp only at I3 ⊢
      refine OG.mv rfl rfl ?_
      refine OG.yield (Yield.extract rfl rfl) rfl ?_
      refine OG.yield (Yield.extract rfl rfl) rfl ?_
      refine OG.yield (Yield.extract rfl rfl) rfl ?_
      refine OG.effd (Eff.alloc ti31) rfl ?_
      rintro b15 -
      refine OG.eff (Eff.storeAll ti31 rfl rfl fC (Rg.len _) (Rg.ones _) rfl) rfl ?_
      rintro ⟨⟩ -
      refine OG.sg rfl rfl ?_
      refine OG.sg rfl rfl ?_
      refine OG.nil ?_
      refine QG.then ?_
      refine CG.seq ?_
      refine CG.region ?_
      refine OG.mv rfl rfl ?_
      refine OG.yield (Yield.nilCheck rfl) rfl ?_
      refine OG.yield (Yield.fieldAddr fa83_1 rfl) rfl ?_
      refine OG.yield (Yield.load ti53 rfl (by first | exact Cel.of_blk eX rfl | exact (hrow eX) _ _ rfl)) rfl ?_
      refine OG.mv rfl rfl ?_
      refine OG.yield (Yield.mul (c := ((pg * 256 : Nat) : Int)) rfl rfl (by rw [show (pg : Int) * 256 = ((pg * 256 : Nat) : Int) by omega]; exact wu32 (by omega) (by omega))) rfl ?_
      refine OG.callo call30 rfl (iM) (in_spec W _ (s := x.s) (m := x.m) (f := x.f) (t := x.t) (k := 0) (r := x.r) I3.L rfl (by omega) (ad := pg * 256) (by omega) 256) rfl ?_
      rintro ⟨ia, ic, ib, σ4⟩ ⟨hib, L4⟩
      dsimp only [WG] at hib L4 ⊢
      rw [e4] at hib ⊢
      dsimp only at hib ⊢
      subst hib
      have I4 := HI.at' I3 L4
      refine OG.mv rfl rfl ?_
      refine OG.yield (Yield.extract rfl rfl) rfl ?_
      refine OG.yield (Yield.extract rfl rfl) rfl ?_
      refine OG.sg rfl rfl ?_
      refine OG.sg rfl rfl ?_
      refine OG.nil ?_
      refine QG.then ?_
      refine CG.seq ?_
      refine CG.seq ?_
      refine CG.region ?_
      refine OG.yield (Yield.fieldAddr fa31_0 rfl) rfl ?_
      refine OG.yield (Yield.index_array Tryz.underlying28 ti27 rfl rfl (by omega) (by omega)) rfl ?_
      refine OG.yield (Yield.load (v := .int .u32 4294967289) ti27 rfl (Cel.of_blk (b := b12) eX rfl)) rfl ?_
      refine OG.yield (Yield.as (Yield.neq rfl rfl) (v' := .bool false) (bF (not_not_intro rfl))) rfl ?_
      refine OG.mv rfl rfl ?_
      refine OG.gy rfl rfl rfl ?_
      refine OG.yield (Yield.fieldAddr fa31_0 rfl) rfl ?_
      refine OG.gy rfl rfl rfl ?_
      refine OG.yield (Yield.index_array Tryz.underlying28 ti27 rfl rfl (by omega) (by omega)) rfl ?_
      refine OG.gy rfl rfl rfl ?_
      refine OG.yield (Yield.load (v := .int .u32 0) ti27 rfl (Cel.of_blk (b := b15) eX rfl)) rfl ?_
      refine OG.gy rfl rfl rfl ?_
      refine OG.yield (Yield.as (Yield.neq rfl rfl) (v' := .bool false) (bF (not_not_intro rfl))) rfl ?_
      refine OG.yield Yield.pickA rfl ?_
      refine OG.mv rfl rfl ?_
      refine OG.gy rfl rfl rfl ?_
      refine OG.mv rfl rfl ?_
      refine OG.gy rfl rfl rfl ?_
      refine OG.callo call31 rfl (Imp.refl _) (num_spec W _ 0) rfl ?_
      rintro ⟨⟩ -
      refine OG.gy rfl rfl rfl ?_
      refine OG.yield (Yield.as (Yield.neq rfl rfl) (v' := .bool false) (bF (not_not_intro rfl))) rfl ?_
      refine OG.yield Yield.pickA rfl ?_
      refine OG.mv rfl rfl ?_
      refine OG.gy rfl rfl rfl ?_
      refine OG.mv rfl rfl ?_
      refine OG.gy rfl rfl rfl ?_
      refine OG.yield (Yield.nilCheck rfl) rfl ?_
      refine OG.gy rfl rfl rfl ?_
      refine OG.yield (Yield.fieldAddr fa83_1 rfl) rfl ?_
      refine OG.gy rfl rfl rfl ?_
      refine OG.yield (Yield.load ti53 rfl (by first | exact Cel.of_blk eX rfl | exact (hrow eX) _ _ rfl)) rfl ?_
      refine OG.gy rfl rfl rfl ?_
      refine OG.mv rfl rfl ?_
      refine OG.gy rfl rfl rfl ?_
      refine OG.yield (Yield.conv (c := (pg : Int)) Tryz.underlying3 rfl rfl (w64 (by omega) (by omega))) rfl ?_
      refine OG.gy rfl rfl rfl ?_
      refine OG.callo call29 rfl (iM) (prm_c W _ (s := x.s) (m := x.m) (f := x.f) (t := x.t) (k := 0) (r := x.r) I4.L rfl (pg : Int)) rfl ?_
      rintro ⟨⟩ -
      refine OG.gy rfl rfl rfl ?_
      refine OG.yield (Yield.as (Yield.neq rfl rfl) (v' := .bool false) (bF (not_not_intro (sg_prm s2 hg)))) rfl ?_
      refine OG.yield Yield.pickA rfl ?_
      refine OG.nil ?_
      refine QG.then ?_
      refine CG.cond_f rfl ?_
      refine CG.skip ?_
      refine QG.then ?_
      refine CG.seq ?_
      refine CG.seq ?_
      refine CG.pure (fun w hw => SlR.shape (SlR.of_osl (W0 := W) (E := 5) (a := ia) (c := ic) (m := (List.replicate 256 (0 : UInt8)).length) (xs := bytesV (List.replicate 256 0)) eX) (fun q => by cases q) w hw) ?_
      rintro ⟨bx, ox, rfl⟩
      refine CG.region ?_
      refine OG.sg rfl rfl ?_
      refine OG.nil ?_
      refine QG.then ?_
      refine CG.block ?_
      refine CG.loop (fun k : Nat => k ≤ 256) (fun k => [(0, .slice (some ⟨b, o, none⟩) xs.length c0), (5, .pointer (some ⟨x.e, 0, none⟩)), (6, .int .u32 p), (7, .int .i64 i), (8, .int .u32 pg), (18, .slice (some ⟨bx, ox, none⟩) (List.replicate 256 (0 : UInt8)).length ic), (20, .int .i64 k)]) (fun _ => oby 5 (some ⟨bx, ox, none⟩) ic (List.replicate 256 0) :: hG x { S with o := o2 } [14, 8] σ4 [old W]) (fun k => 256 - k) 0 (Nat.zero_le _) eS iM ?_
      rintro k hk
      refine CG.seq ?_
      refine CG.seq ?_
      refine CG.region ?_
      refine OG.mv rfl rfl ?_
      refine OG.mv rfl rfl ?_
      refine OG.yield (Yield.len_slice Tryz.underlying32 rfl rfl) rfl ?_
      refine OG.yield Yield.lssA rfl ?_
      refine OG.nil ?_
      refine QG.then ?_
      refine CG.cond rfl (fun hc => ?_) (fun hc => ?_)
      · try replace hc := of_decide_eq_true hc
        have hk' : k < 256 := by have := hc; simp only [List.length_replicate] at this; omega
        refine CG.skip ?_
        refine QG.then ?_
        refine CG.seq ?_
        refine CG.block ?_
        refine CG.seq ?_
        refine CG.region ?_
        refine OG.mv rfl rfl ?_
        refine OG.mv rfl rfl ?_
        refine OG.yield (Yield.index_slice Tryz.underlying32 ti5 rfl rfl (by omega) (by omega)) rfl ?_
        refine OG.yield (Yield.load ti5 rfl (v := byteV 0) (by rw [show ox + (k : Int).toNat * 1 = ox + k by omega]; exact (SlR.of_osl (E := 5) (a := some ⟨bx, ox, none⟩) eX).cel (bytesV_get (by rw [List.getElem?_replicate, if_pos hk'])))) rfl ?_
        refine OG.yield (Yield.as (Yield.neq rfl rfl) (v' := .bool false) (bF (not_not_intro rfl))) rfl ?_
        refine OG.nil ?_
        refine QG.then ?_
        refine CG.cond_f rfl ?_
        refine CG.skip ?_
        refine QG.block_normal ?_
        refine QG.then ?_
        refine CG.region ?_
        refine OG.mv rfl rfl ?_
        refine OG.yield (Yield.add rfl rfl (w64 (by omega) (by omega))) rfl ?_
        refine OG.sg rfl rfl ?_
        refine OG.nil ?_
        exact QG.next (k + 1) (by omega) (by omega) eS iM
      · try replace hc := of_decide_eq_false hc
        refine CG.exit ?_
        refine QG.pass_exit ?_
        refine QG.pass_exit ?_
        refine QG.block_exit ?_
        refine QG.then ?_
        refine CG.seq ?_
        refine CG.seq ?_
        refine CG.region ?_
        refine OG.mv rfl rfl ?_
        refine OG.yield (Yield.nilCheck rfl) rfl ?_
        refine OG.yield (Yield.fieldAddr fa83_1 rfl) rfl ?_
        refine OG.yield (Yield.load ti53 rfl (by first | exact Cel.of_blk eX rfl | exact (hrow eX) _ _ rfl)) rfl ?_
        refine OG.mv rfl rfl ?_
        refine OG.yield (Yield.mul (c := ((pg * 256 : Nat) : Int)) rfl rfl (by rw [show (pg : Int) * 256 = ((pg * 256 : Nat) : Int) by omega]; exact wu32 (by omega) (by omega))) rfl ?_
        refine OG.effd (Eff.lit [.const (.int .u8 108), .const (.int .u8 101), .const (.int .u8 102), .const (.int .u8 116), .const (.int .u8 32), .const (.int .u8 98), .const (.int .u8 101), .const (.int .u8 104), .const (.int .u8 105), .const (.int .u8 110), .const (.int .u8 100)] (vs := [.int .u8 108, .int .u8 101, .int .u8 102, .int .u8 116, .int .u8 32, .int .u8 98, .int .u8 101, .int .u8 104, .int .u8 105, .int .u8 110, .int .u8 100]) (cells := bytesV [108, 101, 102, 116, 32, 98, 101, 104, 105, 110, 100]) Tryz.underlying32 ti5 rfl rfl rfl rfl (by decide) (by simp [Value.cells]) (by simp [Value.cells]; rfl)) rfl ?_
        rintro b148 -
        refine OG.effd (Eff.convBytes (b := b148) Tryz.underlying32 Tryz.underlying5 rfl fC) rfl ?_
        rintro ⟨⟩ -
        refine OG.callo call32 rfl (iM) (out_of W _ (s := x.s) (m := x.m) (f := x.f) (t := x.t) (k := 0) (r := x.r) (ba := some ⟨b148, 0, none⟩) (bc := 11) (b := [108, 101, 102, 116, 32, 98, 101, 104, 105, 110, 100]) (by exact RdB.of_osl (E := 5) eX rfl rfl) I4.L rfl (by omega) (ad := pg * 256) (by omega)) rfl ?_
        rintro σ5 L5
        dsimp only [WG] at L5 ⊢
        rw [e5] at L5 ⊢
        dsimp only at L5 ⊢
        have I5 := HI.at' I4 L5
        dsimp only at I5
        refine OG.callo call31 rfl (Imp.refl _) (num_spec W _ 0) rfl ?_
        rintro ⟨⟩ -
        refine OG.yield (Yield.as (Yield.neq rfl rfl) (v' := .bool false) (bF (not_not_intro rfl))) rfl ?_
        refine OG.nil ?_
        refine QG.then ?_
        refine CG.cond_f rfl ?_
        refine CG.skip ?_
        refine QG.then ?_
        refine CG.seq ?_
        refine CG.region ?_
        refine OG.mv rfl rfl ?_
        refine OG.mv rfl rfl ?_
        refine OG.callo call28 rfl (Imp.refl _) (call_spec W _ 3 pg 0 0) rfl ?_
        rintro ⟨⟩ -
        refine OG.callo call16 rfl (iM) (Do_m W [old W] (S := { S with o := o3 }) (g := cR 3 pg 0 0) (n := 3) (a := pg) (b := 0) (c := 0) I5 (by omega) (by omega) (by decide) (by decide) (by decide) rfl rfl rfl rfl (f_unm (S := { S with o := o3 }) e6)) rfl ?_
        rintro σ6 I6
        dsimp only at I6 ⊢
        refine OG.mv rfl rfl ?_
        refine OG.yield (Yield.extract rfl rfl) rfl ?_
        refine OG.yield (Yield.extract rfl rfl) rfl ?_
        refine OG.yield (Yield.extract rfl rfl) rfl ?_
        refine OG.effd (Eff.alloc ti31) rfl ?_
        rintro b21 -
        refine OG.eff (Eff.storeAll ti31 rfl rfl fC (Rg.len _) (Rg.ones _) rfl) rfl ?_
        rintro ⟨⟩ -
        refine OG.sg rfl rfl ?_
        refine OG.sg rfl rfl ?_
        refine OG.nil ?_
        refine QG.then ?_
        refine CG.seq ?_
        refine CG.region ?_
        refine OG.mv rfl rfl ?_
        refine OG.mv rfl rfl ?_
        refine OG.callo call28 rfl (Imp.refl _) (call_spec W _ 3 pg 0 0) rfl ?_
        rintro ⟨⟩ -
        refine OG.callo call16 rfl (iM) (Do_m W (blk b21 (Rg.ans (cR 3 pg 0 0) 3 S.time 0).v 31 :: [old W]) (g := cR 3 pg 0 0) (n := 3) (a := pg) (b := 0) (c := 0) I6 (by omega) (by omega) (by decide) (by decide) (by decide) rfl rfl rfl rfl (f_unmx (S := { S with o := o4 }) e7)) rfl ?_
        rintro σ7 I7
        dsimp only at I7 ⊢
        refine OG.mv rfl rfl ?_
        refine OG.yield (Yield.extract rfl rfl) rfl ?_
        refine OG.yield (Yield.extract rfl rfl) rfl ?_
        refine OG.yield (Yield.extract rfl rfl) rfl ?_
        refine OG.effd (Eff.alloc ti31) rfl ?_
        rintro b24 -
        refine OG.eff (Eff.storeAll ti31 rfl rfl fC (Rg.len _) (Rg.ones _) rfl) rfl ?_
        rintro ⟨⟩ -
        refine OG.sg rfl rfl ?_
        refine OG.sg rfl rfl ?_
        refine OG.nil ?_
        refine QG.then ?_
        refine CG.seq ?_
        refine CG.region ?_
        refine OG.yield (Yield.fieldAddr fa31_0 rfl) rfl ?_
        refine OG.yield (Yield.index_array Tryz.underlying28 ti27 rfl rfl (by omega) (by omega)) rfl ?_
        refine OG.yield (Yield.load (v := .int .u32 0) ti27 rfl (Cel.of_blk (b := b21) eX rfl)) rfl ?_
        refine OG.yield (Yield.as (Yield.neq rfl rfl) (v' := .bool false) (bF (not_not_intro rfl))) rfl ?_
        refine OG.mv rfl rfl ?_
        refine OG.gy rfl rfl rfl ?_
        refine OG.yield (Yield.fieldAddr fa31_0 rfl) rfl ?_
        refine OG.gy rfl rfl rfl ?_
        refine OG.yield (Yield.index_array Tryz.underlying28 ti27 rfl rfl (by omega) (by omega)) rfl ?_
        refine OG.gy rfl rfl rfl ?_
        refine OG.yield (Yield.load (v := .int .u32 4294967294) ti27 rfl (Cel.of_blk (b := b24) eX rfl)) rfl ?_
        refine OG.gy rfl rfl rfl ?_
        refine OG.yield (Yield.as (Yield.neq rfl rfl) (v' := .bool false) (bF (not_not_intro rfl))) rfl ?_
        refine OG.yield Yield.pickA rfl ?_
        refine OG.mv rfl rfl ?_
        refine OG.gy rfl rfl rfl ?_
        refine OG.mv rfl rfl ?_
        refine OG.gy rfl rfl rfl ?_
        refine OG.yield (Yield.nilCheck rfl) rfl ?_
        refine OG.gy rfl rfl rfl ?_
        refine OG.yield (Yield.fieldAddr fa83_1 rfl) rfl ?_
        refine OG.gy rfl rfl rfl ?_
        refine OG.yield (Yield.load ti53 rfl (by first | exact Cel.of_blk eX rfl | exact (hrow eX) _ _ rfl)) rfl ?_
        refine OG.gy rfl rfl rfl ?_
        refine OG.mv rfl rfl ?_
        refine OG.gy rfl rfl rfl ?_
        refine OG.yield (Yield.conv (c := (pg : Int)) Tryz.underlying3 rfl rfl (w64 (by omega) (by omega))) rfl ?_
        refine OG.gy rfl rfl rfl ?_
        refine OG.callo call29 rfl (iM) (prm_c W _ (s := x.s) (m := x.m) (f := x.f) (t := x.t) (k := 0) (r := x.r) I7.L rfl (pg : Int)) rfl ?_
        rintro ⟨⟩ -
        refine OG.gy rfl rfl rfl ?_
        refine OG.yield (Yield.as (Yield.neq rfl rfl) (v' := .bool false) (bF (not_not_intro (sg_prm s4 hg)))) rfl ?_
        refine OG.yield Yield.pickA rfl ?_
        refine OG.nil ?_
        refine QG.then ?_
        refine CG.cond_f rfl ?_
        refine CG.skip ?_
        refine QG.block_normal ?_
        refine QG.then ?_
        refine CG.region ?_
        refine OG.mv rfl rfl ?_
        refine OG.yield (Yield.add rfl rfl (w64 (by omega) (by omega))) rfl ?_
        refine OG.sg rfl rfl ?_
        refine OG.nil ?_
        exact QG.next (i + 1, { S with o := o4 }, σ7) ⟨by simp only; omega, by simp only; omega, ⟨I7.L.mono (by omega), I7.h1, I7.h2, I7.q, I7.p, I7.t0, I7.t1, I7.m0, I7.m1⟩, s4.none 0⟩ (by simp only; omega) eS iM
    · skip
      refine CG.region ?_
      refine OG.mv rfl rfl ?_
      refine OG.mv rfl rfl ?_
      refine OG.yield (Yield.len_slice Tryz.underlying80 rfl rfl) rfl ?_
      refine OG.yield Yield.lssA rfl ?_
      refine OG.mv rfl rfl ?_
      refine OG.gy rfl rfl rfl ?_
      refine OG.mv rfl rfl ?_
      refine OG.gy rfl rfl rfl ?_
      refine OG.yield Yield.lssA rfl ?_
      refine OG.yield Yield.pickA rfl ?_
      refine OG.nil ?_
      refine QG.then ?_
      refine CG.cond_f rfl ?_
      refine CG.exit ?_
      refine QG.pass_exit ?_
      refine QG.pass_exit ?_
      refine QG.block_exit ?_
      exact QG.mid () trivial eS iM
    · skip
      refine CG.region ?_
      refine OG.mv rfl rfl ?_
      refine OG.mv rfl rfl ?_
      refine OG.yield (Yield.len_slice Tryz.underlying80 rfl rfl) rfl ?_
      refine OG.yield Yield.lssA rfl ?_
      refine OG.mv rfl rfl ?_
      refine OG.gn rfl rfl rfl rfl rfl ?_
      refine OG.gn rfl rfl rfl rfl rfl ?_
      refine OG.yield Yield.pickA rfl ?_
      refine OG.nil ?_
      refine QG.then ?_
      refine CG.cond_f rfl ?_
      refine CG.exit ?_
      refine QG.pass_exit ?_
      refine QG.pass_exit ?_
      refine QG.block_exit ?_
      exact QG.mid () trivial eS iM
  rintro ⟨⟩ -
  refine CG.seq ?_
  refine CG.region ?_
  refine OG.sg rfl rfl ?_
  refine OG.nil ?_
  refine QG.then ?_
  refine CG.ret ?_
  exact QG.ret1 rfl rfl () trivial rfl iM
open Go.ChangeShapes Go.WideShapes Go.ChangeAt
theorem own : ownKnob Tryz.prog.godebug = none := by kernel_rfl
theorem laid : laidOutB Tryz.prog = true := by kernel_rfl
set_option maxRecDepth 100000 in
theorem lifted (os : Os) (started : os.Started) (H : Type) (enc : TypeId × Value → H) :
    ReturnsInHanded {} Tryz.checked os 7 .any (Rows.hcallPagesSpec.pre6 enc Tryz.prog Tryz.f7 Rows.hcallPagesRow.domain false) (Rows.hcallPagesSpec.post enc Tryz.prog Tryz.f7 false true false false) := by
  refine returnsInHanded_of_change_sized (C := Tryz.checked) own started (by kernel_rfl) Tryz.func7
    (ChangeSpec.witness6 (enc := enc) (C := Tryz.checked) false ⟨#[], #[.slice none 0 0, .int .i64 0], []⟩ 8 (by kernel_rfl) (by kernel_rfl) (by kernel_rfl) (by kernel_rfl)) ?_
  intro W base args ds gs before hval0 hW hcnd hsz0 _
  have hsz : (DataW.weightsEach Tryz.prog (Tryz.f7.params.toList ++ Rows.hcallPagesSpec.plain.varTypes Tryz.prog) (ds ++ gs)).all (· ≤ reachBytes) = true := hsz0
  have hval : ∀ (j : Nat) t v, Tryz.f7.params[j]? = some t → args[j]? = some v → Value.okWide Tryz.prog W .any base t v := hval0
  have hW' := hW
  obtain ⟨p, q, hA0, hV, rfl, hfz, hnd⟩ := hW
  have hA : DataW.TrodAll enc Tryz.prog W 0 (fun _ => true) true Tryz.f7.params.toList args.toList ds p := hA0
  rw [Tryz.params7] at hA hval hsz
  obtain ⟨v0, vs0, d0, ds0, p0, q0, hargs, rfl, rfl, h0, r0⟩ := trodAll_cons hA
  obtain ⟨v1, vs1, d1, ds1, p1, q1, rfl, rfl, rfl, h1, r1⟩ := trodAll_cons r0
  obtain ⟨rfl, rfl, rfl⟩ := trodAll_nil r1
  obtain rfl : args = #[v0, v1] := by cases args; simp_all
  obtain ⟨rfl, rfl⟩ := trodVars_none hV
  have k0 := weights_le hsz 0 (t := 80) (d := d0) rfl rfl
  have s0 := Opn.param Tryz.underlying80 (Opn.ints (by' := 8) Tryz.underlying80 Tryz.underlying3 (by kernel_rfl) (by kernel_rfl)) (hval 0 80 v0 rfl rfl) h0 k0
  obtain ⟨x0, c0, xs, e0, l0, ok0, s0, m0⟩ := s0
  cases e0
  obtain ⟨a1, rfl, rfl, rfl, w1⟩ := open_int Tryz.underlying3 (hval 1 3 v1 rfl rfl) h1
  clear hA0 hval0 hsz0 hsz
  refine ((walk W s0) W (Sat.start W)).mono fun e W' he => ?_
  obtain ⟨_, _, he, hs⟩ := he
  subst he
  exact ⟨_, rfl, law_post laid (params_ok (by kernel_rfl)) rfl Tryz.underlying4 hW' rfl rfl (Sat.below eX hs)⟩
theorem over : Rows.hcallPagesRow.holds Tryz.pinned (OpenSpec.ofChange Rows.hcallPagesSpec) :=
  OpenClaim.holds_of_wide 7 Tryz.f7 rfl rfl rfl rfl rfl rfl rfl ⟨rfl, rfl, rfl, rfl, rfl⟩ rfl rfl rfl rfl rfl (by kernel_rfl) Tryz.func7 (by kernel_rfl)
    (of_decide_eq_true (by kernel_rfl)) (by unfold Func.isWrapper; first | (rw [if_pos (by decide +kernel)]; kernel_rfl) | (rw [if_neg (by decide +kernel)]; exact ⟨rfl, rfl⟩))
    (fun os started H enc _ => lifted os started H enc)
theorem proved : Rows.HcallPagesSaid := over
#print axioms proved
end Go.Proofs.YtphljkplokjonaaGreat.hcallPages
