/- space.Space: pieces of pages one after another, and what they are used for: In and Out. -/
import Derived.Test.YtmlfcfbblfcpdaaSpo
import Derived.Test.YtmlfcfbblfcpdaaFnv
namespace Go.Proofs.Ytmlfcfbblfcpdaa.Sp
open Go Go.Sl Go.RowKit Go.Proofs Go.Proofs.Ytmlfcfbblfcpdaa.T Go.Proofs.Ytmlfcfbblfcpdaa.Me Go.Proofs.Ytmlfcfbblfcpdaa.Pe Go.Proofs.Ytmlfcfbblfcpdaa.Pg
set_option linter.unusedVariables false
set_option linter.unusedSimpArgs false
set_option maxRecDepth 100000
/-- Which right a page has. -/
def pmO (o : Ob) (k q : Nat) : Option Nat := (o.vw k q).map (·.1)
/-- May the byte at an address be reached? -/
def mayP (pm : Nat → Option Nat) (right : Int) (a : Nat) : Bool := decide (a < 1048576) && match pm (a / 256) with | some p => decide (Go.bits .and .i64 (p : Int) right ≠ 0) | none => false
theorem mayP_far {pm : Nat → Option Nat} {right : Int} {a : Nat} (h : 1048576 ≤ a) : mayP pm right a = false := by unfold mayP; rw [decide_eq_false (by omega)]; rfl
theorem mayP_none {pm : Nat → Option Nat} {right : Int} {a : Nat} (h : pm (a / 256) = none) : mayP pm right a = false := by unfold mayP; rw [h]; simp
theorem mayP_some {pm : Nat → Option Nat} {right : Int} {a p : Nat} (ha : a < 1048576) (h : pm (a / 256) = some p) : mayP pm right a = decide (Go.bits .and .i64 (p : Int) right ≠ 0) := by unfold mayP; rw [h, decide_eq_true ha]; rfl
/-- Where a piece ends. -/
def ends (ad nn j : Nat) : Nat := min nn (j + 256 - (ad + j) % 256)
theorem ends_gt {ad nn j : Nat} (h : j < nn) : j < ends ad nn j := by unfold ends; have := Nat.mod_lt (ad + j) (show 0 < 256 by decide); omega
theorem ends_le {ad nn j : Nat} : ends ad nn j ≤ nn := Nat.min_le_left _ _
theorem ends_page {ad nn j i : Nat} (h1 : j ≤ i) (h2 : i < ends ad nn j) : (ad + i) / 256 = (ad + j) / 256 := by unfold ends at h2; omega
theorem Ctr.re {P : Program} {W0 : World} {f : FuncId} {vs : List Value} {G : List HProp} {α β : Type} {φ : α → Prop} {v : α → Value} {G' : α → List HProp} {ψ : β → Prop} {u : β → Value} {H : β → List HProp} (h : Ctr P W0 f vs G φ v G') (g : α → β) (hφ : ∀ x, φ x → ψ (g x)) (hv : ∀ x, φ x → v x = u (g x)) (hG : ∀ x, φ x → Imp (G' x) (H (g x))) : Ctr P W0 f vs G ψ u H := fun w hw => (h w hw).mono (by
  rintro r w' ⟨x, hx, rfl, hs⟩
  exact ⟨g x, hφ x hx, by rw [hv x hx], hs.imp (hG x hx)⟩)
theorem overB_get {bs ys : List UInt8} {a i : Nat} (ha : a + ys.length ≤ bs.length) : (overB bs a ys)[i]? = if a ≤ i ∧ i < a + ys.length then ys[i - a]? else bs[i]? := by
  by_cases h1 : i < a
  · rw [overB_lo h1 ha, if_neg (by omega)]
  · by_cases h2 : a + ys.length ≤ i
    · rw [overB_hi h2 ha, if_neg (by omega)]
    · rw [if_pos (by omega)]
      have e : (bs.take a).length = a := by rw [List.length_take]; omega
      unfold overB
      rw [List.append_assoc, List.getElem?_append_right (by omega), e, List.getElem?_append_left (by omega)]
/-- The byte at an address. -/
def byteO (o : Ob) (k a : Nat) : UInt8 := match o.vw k (a / 256) with | some x => (x.2[a % 256]?).getD 0 | none => 0
/-- What In has copied so far. -/
def bufI (o : Ob) (k ad nn j : Nat) : List UInt8 := (List.range nn).map fun i => if i < j then byteO o k (ad + i) else 0
theorem bufI_len {o : Ob} {k ad nn j : Nat} : (bufI o k ad nn j).length = nn := by simp [bufI]
theorem bufI_get {o : Ob} {k ad nn j i : Nat} (h : i < nn) : (bufI o k ad nn j)[i]? = some (if i < j then byteO o k (ad + i) else 0) := by unfold bufI; rw [List.getElem?_map, List.getElem?_range h]; rfl
theorem bufI_zero {o : Ob} {k ad nn : Nat} : bufI o k ad nn 0 = List.replicate nn 0 := by
  apply List.ext_getElem?; intro i
  by_cases h : i < nn
  · rw [bufI_get h]; simp [h]
  · rw [List.getElem?_eq_none (by rw [bufI_len]; omega), List.getElem?_eq_none (by simp; omega)]
theorem ends_len {ad nn j : Nat} {pg : List UInt8} (hp : pg.length = 256) (hj : j < nn) : ((pg.drop ((ad + j) % 256)).take (ends ad nn j - j)).length = ends ad nn j - j := by
  rw [List.length_take, List.length_drop, hp]; unfold ends; omega
theorem bufI_step {o : Ob} {k ad nn j p : Nat} {pg : List UInt8} (hx : o.vw k ((ad + j) / 256) = some (p, pg)) (hp : pg.length = 256) (hj : j < nn) :
    overB (bufI o k ad nn j) j ((pg.drop ((ad + j) % 256)).take (ends ad nn j - j)) = bufI o k ad nn (ends ad nn j) := by
  have hl := ends_len (ad := ad) hp hj
  have h1 := ends_gt (ad := ad) hj
  have h2 := ends_le (ad := ad) (nn := nn) (j := j)
  apply List.ext_getElem?; intro i
  rw [overB_get (by rw [hl, bufI_len]; omega), hl]
  by_cases hi : i < nn
  · rw [bufI_get hi, bufI_get hi]
    by_cases h : j ≤ i ∧ i < j + (ends ad nn j - j)
    · have hpg := ends_page (ad := ad) (nn := nn) h.1 (by omega)
      rw [if_pos h, if_pos (by omega), List.getElem?_take, if_pos (by omega), List.getElem?_drop]
      have hb : (ad + j) % 256 + (i - j) = (ad + i) % 256 := by omega
      rw [hb]
      unfold byteO; rw [hpg, hx]
      have : (ad + i) % 256 < pg.length := by omega
      simp [this]
    · rw [if_neg h]
      by_cases hij : i < j
      · rw [if_pos hij, if_pos (by omega)]
      · rw [if_neg hij, if_neg (by omega)]
  · rw [if_neg (by omega), List.getElem?_eq_none (by rw [bufI_len]; omega), List.getElem?_eq_none (by rw [bufI_len]; omega)]
/-- May some bytes be reached? -/
def mayA (o : Ob) (k : Nat) (right : Int) (ad nn : Nat) : Bool := (List.range nn).all fun i => mayP (pmO o k) right (ad + i)
theorem mayA_t {o : Ob} {k ad nn : Nat} {right : Int} (h : ∀ i, i < nn → mayP (pmO o k) right (ad + i) = true) : mayA o k right ad nn = true := by
  unfold mayA; rw [List.all_eq_true]; intro i hi; exact h i (List.mem_range.1 hi)
theorem mayA_f {o : Ob} {k ad nn j : Nat} {right : Int} (hj : j < nn) (h : mayP (pmO o k) right (ad + j) = false) : mayA o k right ad nn = false := by
  rw [Bool.eq_false_iff]; intro q; unfold mayA at q
  have := List.all_eq_true.1 q j (List.mem_range.2 hj)
  rw [h] at this; cases this
/-- What In answers. -/
def inO (o : Ob) (k ad : Nat) (nI : Int) : List UInt8 × Int := if nI < 0 ∨ 4096 < nI then ([], 2) else if mayA o k 1 ad nI.toNat then (bufI o k ad nI.toNat nI.toNat, 0) else ([], 90)
theorem overB_frame {bs ys : List UInt8} {n q o : Nat} (hl : bs.length = n * 256) (hq : q < n) (ho : o + ys.length ≤ 256) : overB bs (q * 256) (fillB (overB (frB bs q) o ys)) = overB bs (q * 256 + o) ys := by
  have hf := frB_len hl hq
  have ho2 : (overB (frB bs q) o ys).length = 256 := by rw [overB_len (by omega), hf]
  have e : fillB (overB (frB bs q) o ys) = overB (frB bs q) o ys := by unfold fillB; rw [ho2]; simp
  rw [e]
  have hqn : q * 256 + 256 ≤ n * 256 := by omega
  apply List.ext_getElem?; intro i
  rw [overB_get (by rw [ho2]; omega), overB_get (bs := bs) (a := q * 256 + o) (ys := ys) (by omega), ho2]
  by_cases h : q * 256 ≤ i ∧ i < q * 256 + 256
  · rw [if_pos h, overB_get (by omega)]
    by_cases h2 : o ≤ i - q * 256 ∧ i - q * 256 < o + ys.length
    · rw [if_pos h2, if_pos (by omega)]; congr 1; omega
    · rw [if_neg h2, if_neg (by omega), frB_get (by omega)]; congr 1; omega
  · rw [if_neg h, if_neg (by omega)]
/-- A page over which some bytes were copied. -/
def putP (ad : Nat) (b : List UInt8) (j q : Nat) (pg : List UInt8) : List UInt8 := (List.range pg.length).map fun i => if i < 256 ∧ ad ≤ q * 256 + i ∧ q * 256 + i < ad + j then (b[q * 256 + i - ad]?).getD 0 else (pg[i]?).getD 0
/-- What can be seen when the first j bytes have been copied. -/
def outO (o : Ob) (k ad : Nat) (b : List UInt8) (j : Nat) : Ob := ⟨fun k' q => (o.vw k' q).map fun x => (x.1, if k' = k then putP ad b j q x.2 else x.2), o.ts, o.fr⟩
theorem putP_len {ad j q : Nat} {b pg : List UInt8} : (putP ad b j q pg).length = pg.length := by simp [putP]
theorem putP_get {ad j q i : Nat} {b pg : List UInt8} (h : i < pg.length) : (putP ad b j q pg)[i]? = some (if i < 256 ∧ ad ≤ q * 256 + i ∧ q * 256 + i < ad + j then (b[q * 256 + i - ad]?).getD 0 else (pg[i]?).getD 0) := by unfold putP; rw [List.getElem?_map, List.getElem?_range h]; rfl
theorem putP_out {ad j q i : Nat} {b pg : List UInt8} (h : pg.length ≤ i) : (putP ad b j q pg)[i]? = none := List.getElem?_eq_none (by rw [putP_len]; exact h)
theorem outO_zero {o : Ob} {k ad : Nat} {b : List UInt8} : outO o k ad b 0 = o := by
  have e : ∀ (q : Nat) (pg : List UInt8), putP ad b 0 q pg = pg := by
    intro q pg; apply List.ext_getElem?; intro i
    by_cases h : i < pg.length
    · rw [putP_get h, if_neg (by omega)]; simp [h]
    · rw [putP_out (by omega), List.getElem?_eq_none (by omega)]
  unfold outO
  obtain ⟨vw, ts, fr⟩ := o
  congr 1
  funext k' q
  simp only [e, ite_self]
  cases vw k' q <;> rfl
theorem outO_pm {o : Ob} {k ad : Nat} {b : List UInt8} (j k' q : Nat) : pmO (outO o k ad b j) k' q = pmO o k' q := by
  unfold pmO outO; simp only [Option.map_map]; rfl
theorem out_step {o : Ob} {k ad j p : Nat} {b pg : List UInt8} (hx : (outO o k ad b j).vw k ((ad + j) / 256) = some (p, pg)) (hp : pg.length = 256) (hj : j < b.length) :
    (⟨up2 (outO o k ad b j).vw k ((ad + j) / 256) (some (p, overB pg ((ad + j) % 256) ((b.drop j).take (ends ad b.length j - j)))), o.ts, o.fr⟩ : Ob) = outO o k ad b (ends ad b.length j) := by
  have h1 := ends_gt (ad := ad) hj
  have h2 := ends_le (ad := ad) (nn := b.length) (j := j)
  have hl : ((b.drop j).take (ends ad b.length j - j)).length = ends ad b.length j - j := by rw [List.length_take, List.length_drop]; omega
  have h3 : (ad + j) % 256 + (ends ad b.length j - j) ≤ 256 := by unfold ends; omega
  have hdm := Nat.div_add_mod (ad + j) 256
  unfold outO
  congr 1
  funext k' q
  by_cases h : k' = k ∧ q = (ad + j) / 256
  · obtain ⟨rfl, rfl⟩ := h
    rw [up2_at]
    unfold outO at hx
    dsimp only at hx
    cases hv : o.vw k' ((ad + j) / 256) with
    | none => rw [hv] at hx; cases hx
    | some y =>
      rw [hv] at hx
      simp only [Option.map_some, if_true, Option.some.injEq, Prod.mk.injEq] at hx
      obtain ⟨rfl, rfl⟩ := hx
      rw [putP_len] at hp
      simp only [Option.map_some, if_true, Option.some.injEq, Prod.mk.injEq, true_and]
      apply List.ext_getElem?; intro i
      rw [overB_get (by rw [hl, putP_len]; omega), hl]
      by_cases hi : i < y.2.length
      · rw [putP_get hi, putP_get hi]
        by_cases hc : (ad + j) % 256 ≤ i ∧ i < (ad + j) % 256 + (ends ad b.length j - j)
        · rw [if_pos hc, if_pos (by omega), List.getElem?_take, if_pos (by omega), List.getElem?_drop]
          have hb : j + (i - (ad + j) % 256) = (ad + j) / 256 * 256 + i - ad := by omega
          rw [hb]
          have : (ad + j) / 256 * 256 + i - ad < b.length := by omega
          simp [this]
        · rw [if_neg hc]
          by_cases hq : i < 256 ∧ ad ≤ (ad + j) / 256 * 256 + i ∧ (ad + j) / 256 * 256 + i < ad + j
          · rw [if_pos hq, if_pos (by omega)]
          · rw [if_neg hq, if_neg (by omega)]
      · rw [if_neg (by omega), putP_out (by omega), putP_out (by omega)]
  · rw [up2_ne (by omega)]
    show (o.vw k' q).map _ = _
    cases hv : o.vw k' q with
    | none => rfl
    | some y =>
      simp only [Option.map_some, Option.some.injEq, Prod.mk.injEq, true_and]
      by_cases hk : k' = k
      · rw [if_pos hk, if_pos hk]
        apply List.ext_getElem?; intro i
        by_cases hi : i < y.2.length
        · rw [putP_get hi, putP_get hi]
          by_cases hq : i < 256 ∧ ad ≤ q * 256 + i ∧ q * 256 + i < ad + j
          · rw [if_pos hq, if_pos (by omega)]
          · rw [if_neg hq]
            by_cases hq2 : i < 256 ∧ ad ≤ q * 256 + i ∧ q * 256 + i < ad + ends ad b.length j
            · exfalso
              have := ends_page (ad := ad) (nn := b.length) (j := j) (i := q * 256 + i - ad) (by omega) (by omega)
              rw [show ad + (q * 256 + i - ad) = q * 256 + i by omega] at this
              exact h ⟨hk, by omega⟩
            · rw [if_neg hq2]
        · rw [putP_out (by omega), putP_out (by omega)]
      · rw [if_neg hk, if_neg hk]
/-- What Out answers, and does. -/
def outR (o : Ob) (k ad : Nat) (b : List UInt8) : Int × Ob := if 4096 < b.length then (2, o) else if mayA o k 2 ad b.length then (0, outO o k ad b b.length) else (90, o)
section
variable (W0 : World) (Fr : List HProp)
variable {n : Nat} {qs : List Int} {rt : Nat → Option Nat} {c : Nat} {σ : St} {k r s m f t : Nat}
set_option maxHeartbeats 2000000 in
theorem pieces_spec {F : FuncId} {ca : List Value} (hF : CallOK Try.prog F) {ob : Nat → Ob} {X : Nat → HProp} {pm : Nat → Option Nat} {right : Int} {nn ad : Nat} (hnn : nn ≤ 4096) (had : ad < 4294967296) (hpm : ∀ j q, pmO (ob j) k q = pm q) (L : Lk n qs rt (ob 0) c σ) (hk : rt k = some r) (hb : c < 1000000000000000000 - 4096)
    (hdo : ∀ (j : Nat) (A : Ab) (σ' : St) (c' : Nat) (x : Nat × Nat), j < nn → ad + j < 1048576 → A.rt = rt → A.hs = [] → Good n qs A σ' → obs A σ' = ob j → σ'.hits + σ'.miss ≤ c' → A.pg k ((ad + j) / 256) = some x →
      Ctr Try.prog W0 F ([.int .i64 x.1, .int .i64 ((ad + j) % 256 : Nat), .int .i64 j, .int .i64 (ends ad nn j : Nat)] ++ ca) (WG m f t n qs σ' (sb s k r m f t :: X j :: Fr)) (fun σ2 : St => Lk n qs rt (ob (ends ad nn j)) c' σ2) (fun _ => .tuple #[]) (fun σ2 => WG m f t n qs σ2 (sb s k r m f t :: X (ends ad nn j) :: Fr))) :
    Ctr Try.prog W0 86 [.pointer (some ⟨s, 0, none⟩), .int .u32 ad, .int .i64 nn, .int .i64 right, .func (.func F) #[] ca.toArray] (WG m f t n qs σ (sb s k r m f t :: X 0 :: Fr))
      (fun z : Nat × St => z.1 ≤ nn ∧ (∀ i, i < z.1 → mayP pm right (ad + i) = true) ∧ (z.1 < nn → mayP pm right (ad + z.1) = false) ∧ Lk n qs rt (ob z.1) (c + 4096) z.2) (fun z => .int .i64 (if z.1 < nn then 90 else 0)) (fun z => WG m f t n qs z.2 (sb s k r m f t :: X z.1 :: Fr)) := by
  refine Ctr.of_body Try.func86 rfl Try.ntmps86 rfl ?_
  refine CG.seq ?_
  refine CG.region ?_
  refine OG.yield (Yield.assign rfl) rfl ?_
  refine OG.nil ?_
  refine QG.then ?_
  refine CG.seq ?_
  refine CG.seq ?_
  refine CG.region ?_
  refine OG.yield (Yield.assign rfl) rfl ?_
  refine OG.nil ?_
  refine QG.then ?_
  refine CG.block ?_
  refine CG.loop (fun z : Nat × St => z.1 ≤ nn ∧ (∀ i, i < z.1 → mayP pm right (ad + i) = true) ∧ Lk n qs rt (ob z.1) (c + z.1) z.2) (fun z => [(0, .pointer (some ⟨s, 0, none⟩)), (1, .int .u32 ad), (2, .int .i64 nn), (3, .int .i64 right), (4, .func (.func F) #[] ca.toArray), (11, .int .i64 z.1)]) (fun z => WG m f t n qs z.2 (sb s k r m f t :: X z.1 :: Fr)) (fun z => nn - z.1) (0, σ) ⟨Nat.zero_le _, fun i h => absurd h (Nat.not_lt_zero _), L⟩ (by repeat (first | exact Env.sub_nil _ | refine Env.sub_cons rfl ?_)) (by repeat (first | exact Imp.refl _ | exact Imp.none _ | apply Imp.pull (by repeat (first | exact Ext.here | apply Ext.there)) | apply Imp.trans Imp.drop)) ?_
  rintro ⟨j, σj⟩ ⟨hj, hal, Lj⟩
  dsimp only at hj hal Lj ⊢
  refine CG.seq ?_
  refine CG.seq ?_
  refine CG.region ?_
  refine OG.yield (Yield.move rfl) rfl ?_
  refine OG.yield (Yield.move rfl) rfl ?_
  refine OG.yield (by first | exact Yield.as (Yield.lss rfl rfl) (bT (by omega)) | exact Yield.as (Yield.lss rfl rfl) (bF (by omega)) | exact Yield.lss rfl rfl) rfl ?_
  refine OG.nil ?_
  refine QG.then ?_
  refine CG.cond rfl (fun hc => ?_) (fun hc => ?_)
  · try replace hc := of_decide_eq_true hc
    have hjn : j < nn := by omega
    obtain ⟨A, hrt, h0, G, ho, hcc⟩ := Lj
    have hkA : A.rt k = some r := by rw [hrt]; exact hk
    have hpA : ∀ q, pm q = (A.pg k q).map (·.2) := fun q => by rw [← hpm j q, ← ho]; unfold pmO; rw [vw_obs]; cases A.pg k q <;> rfl
    refine CG.skip ?_
    refine QG.then ?_
    refine CG.block ?_
    refine CG.seq ?_
    refine CG.region ?_
    refine OG.yield (Yield.move rfl) rfl ?_
    refine OG.yield (Yield.conv (c := ((ad : Nat) : Int)) Try.underlying3 rfl rfl (w64 (by omega) (by omega))) rfl ?_
    refine OG.yield (Yield.move rfl) rfl ?_
    refine OG.yield (Yield.add (c := ((ad + j : Nat) : Int)) rfl rfl (by rw [w64 (by omega) (by omega)]; omega)) rfl ?_
    refine OG.yield (Yield.assign rfl) rfl ?_
    refine OG.nil ?_
    refine QG.then ?_
    refine CG.seq ?_
    refine CG.seq ?_
    refine CG.region ?_
    refine OG.yield (Yield.move rfl) rfl ?_
    refine OG.yield (by first | exact Yield.as (Yield.geq rfl rfl) (bT (by omega)) | exact Yield.as (Yield.geq rfl rfl) (bF (by omega)) | exact Yield.geq rfl rfl) rfl ?_
    refine OG.nil ?_
    refine QG.then ?_
    refine CG.cond rfl (fun hc => ?_) (fun hc => ?_)
    · try replace hc := of_decide_eq_true hc
      refine CG.seq ?_
      refine CG.region ?_
      refine OG.yield (Yield.assign rfl) rfl ?_
      refine OG.nil ?_
      refine QG.then ?_
      refine CG.ret ?_
      refine QG.pass_ret ?_
      refine QG.block_ret ?_
      refine QG.pass_ret ?_
      refine QG.block_ret ?_
      refine QG.pass_ret ?_
      exact QG.ret1 rfl rfl (j, σj) ⟨hj, hal, fun _ => mayP_far (by omega), Lk.intro G hrt h0 ho (by simp only; omega)⟩ (by simp [hjn]) (by repeat (first | exact Imp.refl _ | exact Imp.none _ | apply Imp.pull (by repeat (first | exact Ext.here | apply Ext.there)) | apply Imp.trans Imp.drop))
    · try replace hc := of_decide_eq_false hc
      refine CG.skip ?_
      refine QG.then ?_
      refine CG.seq ?_
      refine CG.region ?_
      refine OG.yield (Yield.move rfl) rfl ?_
      refine OG.yield (Yield.move rfl) rfl ?_
      refine OG.yield (Yield.as (Yield.quo rfl rfl (by omega) (tdiv_pos (by omega) (by omega) (by omega))) (v' := .int .i64 (((ad + j) / 256 : Nat) : Int)) (by congr 1)) rfl ?_
      refine OG.callo call84 rfl ((by repeat (first | exact Imp.refl _ | exact Imp.none _ | apply Imp.pull (by repeat (first | exact Ext.here | apply Ext.there)) | apply Imp.trans Imp.drop))) (find_spec W0 _ (s := s) (m := m) (f := f) (t := t) G hkA (by omega) (((ad + j) / 256 : Nat) : Int)) rfl ?_
      rintro σ' hF'
      rw [vp_in (show (ad + j) / 256 < 4096 by omega)]
      refine OG.yield (Yield.move rfl) rfl ?_
      refine OG.yield (Yield.extract rfl rfl) rfl ?_
      refine OG.yield (Yield.extract rfl rfl) rfl ?_
      refine OG.yield (Yield.extract rfl rfl) rfl ?_
      refine OG.yield (Yield.assign rfl) rfl ?_
      refine OG.yield (Yield.assign rfl) rfl ?_
      refine OG.yield (Yield.assign rfl) rfl ?_
      refine OG.nil ?_
      refine QG.then ?_
      refine CG.seq ?_
      refine CG.seq ?_
      rcases (show (A.pg k ((ad + j) / 256) = none) ∨ (∃ x, A.pg k ((ad + j) / 256) = some x ∧ Go.bits .and .i64 (x.2 : Int) right ≠ 0) ∨ (∃ x, A.pg k ((ad + j) / 256) = some x ∧ Go.bits .and .i64 (x.2 : Int) right = 0) by cases A.pg k ((ad + j) / 256) with | none => exact .inl rfl | some x => exact .inr ((Decidable.em (Go.bits .and .i64 (x.2 : Int) right = 0)).elim (fun h => .inr ⟨x, rfl, h⟩) (fun h => .inl ⟨x, rfl, h⟩))) with hx | ⟨x, hx, hm⟩ | ⟨x, hx, hm⟩
      · skip
        rw [wV_none (by omega) hx, hx]
        refine CG.region ?_
        refine OG.yield (Yield.move rfl) rfl ?_
        refine OG.yield (Yield.not rfl) rfl ?_
        refine OG.yield (Yield.move rfl) rfl ?_
        refine OG.guard_no rfl rfl rfl rfl rfl (by decide) (by decide) ?_
        refine OG.guard_no rfl rfl rfl rfl rfl (by decide) (by decide) ?_
        refine OG.guard_no rfl rfl rfl rfl rfl (by decide) (by decide) ?_
        refine OG.guard_no rfl rfl rfl rfl rfl (by decide) (by decide) ?_
        refine OG.yield (by first | exact Yield.pick_t rfl rfl | exact Yield.pick_f rfl rfl | exact Yield.pick rfl (fun _ => rfl) (fun _ => rfl)) rfl ?_
        refine OG.nil ?_
        refine QG.then ?_
        refine CG.cond_t rfl ?_
        refine CG.seq ?_
        refine CG.region ?_
        refine OG.yield (Yield.assign rfl) rfl ?_
        refine OG.nil ?_
        refine QG.then ?_
        refine CG.ret ?_
        refine QG.pass_ret ?_
        refine QG.block_ret ?_
        refine QG.pass_ret ?_
        refine QG.block_ret ?_
        refine QG.pass_ret ?_
        exact QG.ret1 rfl rfl (j, σ') ⟨hj, hal, fun _ => mayP_none (by rw [hpA, hx]; rfl), Lk.intro hF'.good hrt h0 (by rw [← ho]; unfold obs; rw [hF'.bs, hF'.own]) (by have := hF'.cnt; simp only; omega)⟩ (by simp [hjn]) (by repeat (first | exact Imp.refl _ | exact Imp.none _ | apply Imp.pull (by repeat (first | exact Ext.here | apply Ext.there)) | apply Imp.trans Imp.drop))
      · skip
        rw [wV_some (by omega) hx, hx]
        refine CG.region ?_
        refine OG.yield (Yield.move rfl) rfl ?_
        refine OG.yield (Yield.not rfl) rfl ?_
        refine OG.yield (Yield.move rfl) rfl ?_
        refine OG.guard_yes rfl rfl rfl (by decide) ?_
        refine OG.yield (Yield.move rfl) rfl ?_
        refine OG.guard_yes rfl rfl rfl (by decide) ?_
        refine OG.yield (Yield.move rfl) rfl ?_
        refine OG.guard_yes rfl rfl rfl (by decide) ?_
        refine OG.yield (Yield.bitop rfl rfl rfl rfl) rfl ?_
        refine OG.guard_yes rfl rfl rfl (by decide) ?_
        refine OG.yield (Yield.as (Yield.eql rfl rfl) (v' := .bool false) (bF hm)) rfl ?_
        refine OG.yield (by first | exact Yield.pick_t rfl rfl | exact Yield.pick_f rfl rfl | exact Yield.pick rfl (fun _ => rfl) (fun _ => rfl)) rfl ?_
        refine OG.nil ?_
        refine QG.then ?_
        refine CG.cond_f rfl ?_
        refine CG.skip ?_
        refine QG.then ?_
        refine CG.seq ?_
        refine CG.region ?_
        refine OG.yield (Yield.move rfl) rfl ?_
        refine OG.yield (Yield.as (Yield.rem rfl rfl (by omega) (tmod_pos (by omega) (by omega))) (v' := .int .i64 (((ad + j) % 256 : Nat) : Int)) (by congr 1)) rfl ?_
        refine OG.yield (Yield.assign rfl) rfl ?_
        refine OG.nil ?_
        refine QG.then ?_
        refine CG.seq ?_
        refine CG.region ?_
        refine OG.yield (Yield.move rfl) rfl ?_
        refine OG.yield (Yield.move rfl) rfl ?_
        refine OG.yield (Yield.add rfl rfl (w64 (by omega) (by omega))) rfl ?_
        refine OG.yield (Yield.move rfl) rfl ?_
        refine OG.yield (Yield.sub rfl rfl (w64 (by omega) (by omega))) rfl ?_
        refine OG.yield (Yield.as (Yield.min2 rfl rfl) (v' := .int .i64 (ends ad nn j : Nat)) (by congr 1; unfold ends; omega)) rfl ?_
        refine OG.yield (Yield.assign rfl) rfl ?_
        refine OG.nil ?_
        refine QG.then ?_
        refine CG.seq ?_
        refine CG.region ?_
        refine OG.yield (Yield.move rfl) rfl ?_
        refine OG.yield (Yield.move rfl) rfl ?_
        refine OG.yield (Yield.move rfl) rfl ?_
        refine OG.yield (Yield.move rfl) rfl ?_
        refine OG.yield (Yield.move rfl) rfl ?_
        refine OG.callv hF rfl rfl (by repeat (first | exact Imp.refl _ | exact Imp.none _ | apply Imp.pull (by repeat (first | exact Ext.here | apply Ext.there)) | apply Imp.trans Imp.drop)) (hdo j A σ' (c + j + 1) x hjn (by omega) hrt h0 hF'.good (by rw [← ho]; unfold obs; rw [hF'.bs, hF'.own]) (by have := hF'.cnt; omega) hx) rfl ?_
        rintro σ2 L2
        refine OG.nil ?_
        refine QG.then ?_
        refine CG.region ?_
        refine OG.yield (Yield.move rfl) rfl ?_
        refine OG.yield (Yield.assign rfl) rfl ?_
        refine OG.nil ?_
        refine QG.block_normal ?_
        have hgt := ends_gt (ad := ad) hjn
        refine QG.next (ends ad nn j, σ2) ⟨ends_le, fun i hi => ?_, Lk.mono L2 (by simp only; omega)⟩ (by simp only; omega) (by repeat (first | exact Env.sub_nil _ | refine Env.sub_cons rfl ?_)) (by repeat (first | exact Imp.refl _ | exact Imp.none _ | apply Imp.pull (by repeat (first | exact Ext.here | apply Ext.there)) | apply Imp.trans Imp.drop))
        by_cases hij : i < j
        · exact hal i hij
        · have hpg := ends_page (ad := ad) (show j ≤ i by omega) hi
          rw [mayP_some (p := x.2) (by omega) (by rw [hpg, hpA, hx]; rfl)]
          exact decide_eq_true hm
      · skip
        rw [wV_some (by omega) hx, hx]
        refine CG.region ?_
        refine OG.yield (Yield.move rfl) rfl ?_
        refine OG.yield (Yield.not rfl) rfl ?_
        refine OG.yield (Yield.move rfl) rfl ?_
        refine OG.guard_yes rfl rfl rfl (by decide) ?_
        refine OG.yield (Yield.move rfl) rfl ?_
        refine OG.guard_yes rfl rfl rfl (by decide) ?_
        refine OG.yield (Yield.move rfl) rfl ?_
        refine OG.guard_yes rfl rfl rfl (by decide) ?_
        refine OG.yield (Yield.bitop rfl rfl rfl rfl) rfl ?_
        refine OG.guard_yes rfl rfl rfl (by decide) ?_
        refine OG.yield (Yield.as (Yield.eql rfl rfl) (v' := .bool true) (bT hm)) rfl ?_
        refine OG.yield (by first | exact Yield.pick_t rfl rfl | exact Yield.pick_f rfl rfl | exact Yield.pick rfl (fun _ => rfl) (fun _ => rfl)) rfl ?_
        refine OG.nil ?_
        refine QG.then ?_
        refine CG.cond_t rfl ?_
        refine CG.seq ?_
        refine CG.region ?_
        refine OG.yield (Yield.assign rfl) rfl ?_
        refine OG.nil ?_
        refine QG.then ?_
        refine CG.ret ?_
        refine QG.pass_ret ?_
        refine QG.block_ret ?_
        refine QG.pass_ret ?_
        refine QG.block_ret ?_
        refine QG.pass_ret ?_
        exact QG.ret1 rfl rfl (j, σ') ⟨hj, hal, fun _ => by rw [mayP_some (p := x.2) (by omega) (by rw [hpA, hx]; rfl)]; exact decide_eq_false (fun q => q hm), Lk.intro hF'.good hrt h0 (by rw [← ho]; unfold obs; rw [hF'.bs, hF'.own]) (by have := hF'.cnt; simp only; omega)⟩ (by simp [hjn]) (by repeat (first | exact Imp.refl _ | exact Imp.none _ | apply Imp.pull (by repeat (first | exact Ext.here | apply Ext.there)) | apply Imp.trans Imp.drop))
  · try replace hc := of_decide_eq_false hc
    refine CG.exit ?_
    refine QG.pass_exit ?_
    refine QG.pass_exit ?_
    refine QG.block_exit ?_
    refine QG.then ?_
    refine CG.seq ?_
    refine CG.region ?_
    refine OG.yield (Yield.assign rfl) rfl ?_
    refine OG.nil ?_
    refine QG.then ?_
    refine CG.ret ?_
    exact QG.ret1 rfl rfl (j, σj) ⟨hj, hal, fun h => absurd h (by simp only; omega), Lk.mono Lj (by omega)⟩ (by rw [if_neg (by simp only; omega)]) (by repeat (first | exact Imp.refl _ | exact Imp.none _ | apply Imp.pull (by repeat (first | exact Ext.here | apply Ext.there)) | apply Imp.trans Imp.drop))
/-- What In's closure works on. -/
abbrev XI (b3 b8 s bb nn : Nat) (buf : List UInt8) : List HProp := [blk b3 [.pointer (some ⟨s, 0, none⟩)] 81, blk b8 [.slice (some ⟨bb, 0, none⟩) nn nn] 73, osl 5 1 (some ⟨bb, 0, none⟩) nn nn (bytesV buf)]
theorem in1_spec {b3 b8 bb nn j to fx : Nat} {at' : Nat} {buf : List UInt8} (hnn : nn ≤ 4096) (hbuf : buf.length = nn) (hfx : fx < n) (ha : at' < 256) (hj : j < to) (hto : to ≤ nn) (h256 : to - j ≤ 256 - at') (hbs : σ.bs.length = n * 256) :
    Ctr Try.prog W0 87 [.int .i64 fx, .int .i64 at', .int .i64 j, .int .i64 to, .pointer (some ⟨b3, 0, none⟩), .pointer (some ⟨b8, 0, none⟩)] (WG m f t n qs σ (sb s k r m f t :: Star (XI b3 b8 s bb nn buf) :: Fr)) (fun _ : Unit => True) (fun _ => .tuple #[])
      (fun _ => WG m f t n qs σ (sb s k r m f t :: Star (XI b3 b8 s bb nn (overB buf j (((frB σ.bs fx).drop at').take (to - j)))) :: Fr)) := by
  have hfl := frB_len hbs hfx
  refine Ctr.imp (Imp.trans (B := Star (XI b3 b8 s bb nn buf) :: WG m f t n qs σ (sb s k r m f t :: Fr)) (by repeat (first | exact Imp.refl _ | exact Imp.none _ | apply Imp.pull (by repeat (first | exact Ext.here | apply Ext.there)) | apply Imp.trans Imp.drop)) star_open) ?_
  dsimp only [XI, List.cons_append, List.nil_append]
  refine Ctr.of_body Try.func87 rfl Try.ntmps87 rfl ?_
  refine CG.seq ?_
  refine CG.region ?_
  refine OG.yield (Yield.load ti81 rfl (by first | exact Cel.of_blk (by repeat (first | exact Ext.here | apply Ext.there)) rfl | exact (hrow (by repeat (first | exact Ext.here | apply Ext.there))) _ _ rfl)) rfl ?_
  refine OG.yield (Yield.nilCheck rfl) rfl ?_
  refine OG.yield (Yield.fieldAddr fa137_2 rfl) rfl ?_
  refine OG.yield (Yield.load ti24 rfl (by first | exact Cel.of_blk (by repeat (first | exact Ext.here | apply Ext.there)) rfl | exact (hrow (by repeat (first | exact Ext.here | apply Ext.there))) _ _ rfl)) rfl ?_
  refine OG.yield (Yield.move rfl) rfl ?_
  refine OG.callo call59 rfl ((by repeat (first | exact Imp.refl _ | exact Imp.none _ | apply Imp.pull (by repeat (first | exact Ext.here | apply Ext.there)) | apply Imp.trans Imp.drop))) (frame_ok W0 _ (m := m) (n := n) (k := fx) (bs := σ.bs) hfx) rfl ?_
  rintro bf -
  rw [hfl]
  refine OG.yield (Yield.move rfl) rfl ?_
  refine OG.yield (Yield.extract rfl rfl) rfl ?_
  refine OG.yield (Yield.extract rfl rfl) rfl ?_
  refine OG.yield (Yield.assign rfl) rfl ?_
  refine OG.yield (Yield.assign rfl) rfl ?_
  refine OG.nil ?_
  refine QG.then ?_
  refine CG.draw (.look 0 1 (.look 1 1 (.look 2 1 (.look 3 1 (.look 4 1 (.look 5 1 (.look 6 1 (.eff1 7 false (.done))))))))) [7] [] ([]) ([]) mixed (by kernel_rfl) (Imp.none _) (Imp.none _) ?_
  refine DG.look rfl rfl (Yield.load ti73 rfl (by first | exact Cel.of_blk (by repeat (first | exact Ext.here | apply Ext.there)) rfl | exact (hrow (by repeat (first | exact Ext.here | apply Ext.there))) _ _ rfl)) rfl ?_
  refine DG.look rfl rfl (Yield.move rfl) rfl ?_
  refine DG.look rfl rfl (Yield.move rfl) rfl ?_
  refine DG.look rfl rfl (Yield.as (Yield.slice_in Try.underlying73 ti5 rfl (Bound.some rfl) (Bound.some rfl) (by omega) (by omega) (by omega) (by omega)) (v' := .slice (some ⟨bb, 0 + j, none⟩) (to - j : Nat) (nn - j)) (by simp)) rfl ?_
  refine DG.look rfl rfl (Yield.move rfl) rfl ?_
  refine DG.look rfl rfl (Yield.move rfl) rfl ?_
  refine DG.look rfl rfl (Yield.as (Yield.slice_in Try.underlying73 ti5 rfl (Bound.some rfl) Bound.none (by omega) (by omega) (by omega) (by omega)) (v' := .slice (some ⟨bf, 0 + at', none⟩) (256 - at' : Nat) (256 - at')) (by simp)) rfl ?_
  refine DG.eff1 ?_
  refine Chg.eff rfl rfl (Eff.copyIn (b := bb) (o := 0) (j := j) (n := to - j) (cn := nn - j) (k := 256 - at') (ys := bytesV ((frB σ.bs fx).drop at')) rfl rfl rfl Try.underlying73 ti5 (by repeat (first | exact Foc.here | apply Foc.there)) (by omega) (SlR.part (SlR.of_osl (E := 152) (a := some ⟨bf, 0, none⟩) (by repeat (first | exact Ext.here | apply Ext.there))) (by rw [bytesV_drop, List.take_of_length_le (Nat.le_of_eq (by rw [bytesV_length, List.length_drop, hfl]))]) (by omega)) bytesV_one) rfl (fun _ => (by repeat (first | exact Imp.refl _ | exact Imp.none _ | apply Imp.pull (by repeat (first | exact Ext.here | apply Ext.there)) | apply Imp.trans Imp.drop))) (fun _ => Imp.refl _) (fun _ => (by repeat (first | exact Imp.refl _ | exact Imp.none _ | apply Imp.pull (by repeat (first | exact Ext.here | apply Ext.there)) | apply Imp.trans Imp.drop))) ?_
  rintro ⟨⟩ -
  rw [show min (256 - at') (to - j) = to - j by omega, bytesV_take, over_bytes]
  refine DG.done ?_
  exact QG.end0 rfl () trivial rfl (Imp.trans (B := XI b3 b8 s bb nn (overB buf j (((frB σ.bs fx).drop at').take (to - j))) ++ WG m f t n qs σ (sb s k r m f t :: Fr)) (by repeat (first | exact Imp.refl _ | exact Imp.none _ | apply Imp.pull (by repeat (first | exact Ext.here | apply Ext.there)) | apply Imp.trans Imp.drop)) (Imp.trans star_close (by repeat (first | exact Imp.refl _ | exact Imp.none _ | apply Imp.pull (by repeat (first | exact Ext.here | apply Ext.there)) | apply Imp.trans Imp.drop))))
/-- An answer of bytes. -/
structure BA where
  a : Option Addr
  c : Nat
  b : List UInt8
  σ : St
set_option maxHeartbeats 2000000 in
theorem in_spec {o : Ob} (L : Lk n qs rt o c σ) (hk : rt k = some r) (hb : c < 1000000000000000000 - 4096) {ad : Nat} (had : ad < 4294967296) (nI : Int) : Ctr Try.prog W0 75 [.pointer (some ⟨s, 0, none⟩), .int .u32 ad, .int .i64 nI] (WG m f t n qs σ (sb s k r m f t :: Fr))
    (fun z : BA => z.b = (inO o k ad nI).1 ∧ Lk n qs rt o (c + 4096) z.σ) (fun z => .tuple #[.slice z.a z.b.length z.c, .int .i64 (inO o k ad nI).2]) (fun z => oby 5 z.a z.c z.b :: WG m f t n qs z.σ (sb s k r m f t :: Fr)) := by
  by_cases hg : nI < 0 ∨ 4096 < nI
  · have e : inO o k ad nI = ([], 2) := by unfold inO; rw [if_pos hg]
    rw [e]
    refine Ctr.of_body Try.func75 rfl Try.ntmps75 rfl ?_
    refine CG.seq ?_
    refine CG.region ?_
    refine OG.effd (Eff.box rfl) rfl ?_
    rintro b3 -
    refine OG.yield (Yield.assign rfl) rfl ?_
    refine OG.yield (Yield.assign rfl) rfl ?_
    refine OG.nil ?_
    refine QG.then ?_
    refine CG.seq ?_
    refine CG.seq ?_
    rcases (show nI < 0 ∨ (0 ≤ nI ∧ 4096 < nI) by omega) with hg1 | hg1
    · skip
      refine CG.region ?_
      refine OG.yield (Yield.move rfl) rfl ?_
      refine OG.yield (by first | exact Yield.as (Yield.lss rfl rfl) (bT (by omega)) | exact Yield.as (Yield.lss rfl rfl) (bF (by omega)) | exact Yield.lss rfl rfl) rfl ?_
      refine OG.yield (Yield.move rfl) rfl ?_
      refine OG.guard_no rfl rfl rfl rfl rfl (by decide) (by decide) ?_
      refine OG.guard_no rfl rfl rfl rfl rfl (by decide) (by decide) ?_
      refine OG.yield (by first | exact Yield.pick_t rfl rfl | exact Yield.pick_f rfl rfl | exact Yield.pick rfl (fun _ => rfl) (fun _ => rfl)) rfl ?_
      refine OG.nil ?_
      refine QG.then ?_
      refine CG.cond_t rfl ?_
      refine CG.seq ?_
      refine CG.region ?_
      refine OG.yield (Yield.assign rfl) rfl ?_
      refine OG.yield (Yield.assign rfl) rfl ?_
      refine OG.nil ?_
      refine QG.then ?_
      refine CG.ret ?_
      refine QG.pass_ret ?_
      exact QG.rets [.slice none 0 0, .int .i64 2] rfl ⟨rfl, rfl, trivial⟩ (⟨none, 0, [], σ⟩ : BA) ⟨rfl, Lk.mono L (by omega)⟩ rfl (Imp.trans (osl_nil (E := 5) (sz := 1)) (by repeat (first | exact Imp.refl _ | exact Imp.none _ | apply Imp.pull (by repeat (first | exact Ext.here | apply Ext.there)) | apply Imp.trans Imp.drop)))
    · skip
      refine CG.region ?_
      refine OG.yield (Yield.move rfl) rfl ?_
      refine OG.yield (by first | exact Yield.as (Yield.lss rfl rfl) (bT (by omega)) | exact Yield.as (Yield.lss rfl rfl) (bF (by omega)) | exact Yield.lss rfl rfl) rfl ?_
      refine OG.yield (Yield.move rfl) rfl ?_
      refine OG.guard_yes rfl rfl rfl (by decide) ?_
      refine OG.yield (Yield.move rfl) rfl ?_
      refine OG.guard_yes rfl rfl rfl (by decide) ?_
      refine OG.yield (by first | exact Yield.as (Yield.gtr rfl rfl) (bT (by omega)) | exact Yield.as (Yield.gtr rfl rfl) (bF (by omega)) | exact Yield.gtr rfl rfl) rfl ?_
      refine OG.yield (by first | exact Yield.pick_t rfl rfl | exact Yield.pick_f rfl rfl | exact Yield.pick rfl (fun _ => rfl) (fun _ => rfl)) rfl ?_
      refine OG.nil ?_
      refine QG.then ?_
      refine CG.cond_t rfl ?_
      refine CG.seq ?_
      refine CG.region ?_
      refine OG.yield (Yield.assign rfl) rfl ?_
      refine OG.yield (Yield.assign rfl) rfl ?_
      refine OG.nil ?_
      refine QG.then ?_
      refine CG.ret ?_
      refine QG.pass_ret ?_
      exact QG.rets [.slice none 0 0, .int .i64 2] rfl ⟨rfl, rfl, trivial⟩ (⟨none, 0, [], σ⟩ : BA) ⟨rfl, Lk.mono L (by omega)⟩ rfl (Imp.trans (osl_nil (E := 5) (sz := 1)) (by repeat (first | exact Imp.refl _ | exact Imp.none _ | apply Imp.pull (by repeat (first | exact Ext.here | apply Ext.there)) | apply Imp.trans Imp.drop)))
  · obtain ⟨nn, rfl⟩ := Int.eq_ofNat_of_zero_le (show 0 ≤ nI by omega)
    have hnn : nn ≤ 4096 := by omega
    have hdo : ∀ (b3 b8 bb : Nat) (j : Nat) (A : Ab) (σ' : St) (c' : Nat) (x : Nat × Nat), j < nn → ad + j < 1048576 → A.rt = rt → A.hs = [] → Good n qs A σ' → obs A σ' = o → σ'.hits + σ'.miss ≤ c' → A.pg k ((ad + j) / 256) = some x →
      Ctr Try.prog W0 87 ([.int .i64 x.1, .int .i64 ((ad + j) % 256 : Nat), .int .i64 j, .int .i64 (ends ad nn j : Nat)] ++ [.pointer (some ⟨b3, 0, none⟩), .pointer (some ⟨b8, 0, none⟩)]) (WG m f t n qs σ' (sb s k r m f t :: Star (XI b3 b8 s bb nn (bufI o k ad nn j)) :: Fr)) (fun σ2 : St => Lk n qs rt o c' σ2) (fun _ => .tuple #[]) (fun σ2 => WG m f t n qs σ2 (sb s k r m f t :: Star (XI b3 b8 s bb nn (bufI o k ad nn (ends ad nn j))) :: Fr)) := by
      intro b3 b8 bb j A σ' c' x hjn hlt hrt h0 G ho hcc hx
      have hv : o.vw k ((ad + j) / 256) = some (x.2, frB σ'.bs x.1) := by rw [← ho, vw_obs, hx]; rfl
      have hpl := frB_len G.rep.len (G.plt hx)
      have h := in1_spec W0 Fr (n := n) (qs := qs) (k := k) (s := s) (m := m) (f := f) (t := t) (r := r) (σ := σ') (b3 := b3) (b8 := b8) (bb := bb) (buf := bufI o k ad nn j) hnn bufI_len (G.plt hx) (Nat.mod_lt (ad + j) (show 0 < 256 by decide)) (ends_gt (ad := ad) hjn) ends_le (by unfold ends; omega) G.rep.len
      refine Ctr.re h (fun _ => σ') (fun _ _ => Lk.intro G hrt h0 ho hcc) (fun _ _ => rfl) (fun _ _ => ?_)
      rw [bufI_step hv hpl hjn]; exact Imp.refl _
    refine Ctr.of_body Try.func75 rfl Try.ntmps75 rfl ?_
    refine CG.seq ?_
    refine CG.region ?_
    refine OG.effd (Eff.box rfl) rfl ?_
    rintro b3 -
    refine OG.yield (Yield.assign rfl) rfl ?_
    refine OG.yield (Yield.assign rfl) rfl ?_
    refine OG.nil ?_
    refine QG.then ?_
    refine CG.seq ?_
    refine CG.seq ?_
    refine CG.region ?_
    refine OG.yield (Yield.move rfl) rfl ?_
    refine OG.yield (by first | exact Yield.as (Yield.lss rfl rfl) (bT (by omega)) | exact Yield.as (Yield.lss rfl rfl) (bF (by omega)) | exact Yield.lss rfl rfl) rfl ?_
    refine OG.yield (Yield.move rfl) rfl ?_
    refine OG.guard_yes rfl rfl rfl (by decide) ?_
    refine OG.yield (Yield.move rfl) rfl ?_
    refine OG.guard_yes rfl rfl rfl (by decide) ?_
    refine OG.yield (by first | exact Yield.as (Yield.gtr rfl rfl) (bT (by omega)) | exact Yield.as (Yield.gtr rfl rfl) (bF (by omega)) | exact Yield.gtr rfl rfl) rfl ?_
    refine OG.yield (by first | exact Yield.pick_t rfl rfl | exact Yield.pick_f rfl rfl | exact Yield.pick rfl (fun _ => rfl) (fun _ => rfl)) rfl ?_
    refine OG.nil ?_
    refine QG.then ?_
    refine CG.cond_f rfl ?_
    refine CG.skip ?_
    refine QG.then ?_
    refine CG.seq ?_
    refine CG.region ?_
    refine OG.yield (Yield.move rfl) rfl ?_
    refine OG.effd (Eff.makeB (k := nn) Try.underlying73 ti5 rfl rfl (by omega)) rfl ?_
    rintro bb -
    rw [List.length_replicate]
    refine OG.effd (Eff.alloc ti73) rfl ?_
    rintro b8 -
    refine OG.eff (Eff.store1 ti73 rfl rfl (by repeat (first | exact Foc.here | apply Foc.there)) rfl (by first | (simp; done) | decide)) rfl ?_
    rintro ⟨⟩ -
    refine OG.nil ?_
    refine QG.then ?_
    refine CG.seq ?_
    refine CG.region ?_
    refine OG.yield (Yield.load ti81 rfl (by first | exact Cel.of_blk (by repeat (first | exact Ext.here | apply Ext.there)) rfl | exact (hrow (by repeat (first | exact Ext.here | apply Ext.there))) _ _ rfl)) rfl ?_
    refine OG.yield (Yield.move rfl) rfl ?_
    refine OG.yield (Yield.move rfl) rfl ?_
    refine OG.yield (Yield.makeFunc (first := []) (cap := [.tmp 3, .tmp 8]) rfl rfl) rfl ?_
    refine OG.callo call86 rfl (Imp.trans (B := XI b3 b8 s bb nn (bufI o k ad nn 0) ++ WG m f t n qs σ (sb s k r m f t :: Fr)) (by rw [bufI_zero]; unfold oby; rw [List.length_replicate]; exact (by repeat (first | exact Imp.refl _ | exact Imp.none _ | apply Imp.pull (by repeat (first | exact Ext.here | apply Ext.there)) | apply Imp.trans Imp.drop))) (Imp.trans star_close (by repeat (first | exact Imp.refl _ | exact Imp.none _ | apply Imp.pull (by repeat (first | exact Ext.here | apply Ext.there)) | apply Imp.trans Imp.drop)))) (pieces_spec W0 Fr (n := n) (qs := qs) (k := k) (s := s) (m := m) (f := f) (t := t) (r := r) (F := 87) (ca := [.pointer (some ⟨b3, 0, none⟩), .pointer (some ⟨b8, 0, none⟩)]) call87 (ob := fun _ => o) (X := fun j => Star (XI b3 b8 s bb nn (bufI o k ad nn j))) (pm := pmO o k) (right := 1) (nn := nn) (ad := ad) hnn had (fun _ _ => rfl) L hk hb (hdo b3 b8 bb)) rfl ?_
    rintro ⟨jz, σ2⟩ ⟨h1, h2, h3, L2⟩
    dsimp only at h1 h2 h3 L2 ⊢
    refine OG.yield (Yield.assign rfl) rfl ?_
    refine OG.nil ?_
    refine QG.then ?_
    refine CG.seq ?_
    refine CG.seq ?_
    rcases Nat.lt_or_ge jz nn with hz | hz
    · skip
      rw [if_pos hz]
      refine CG.region ?_
      refine OG.yield (Yield.move rfl) rfl ?_
      refine OG.yield (Yield.as (Yield.neq rfl rfl) (v' := .bool true) rfl) rfl ?_
      refine OG.nil ?_
      refine QG.then ?_
      refine CG.cond_t rfl ?_
      refine CG.seq ?_
      refine CG.region ?_
      refine OG.yield (Yield.move rfl) rfl ?_
      refine OG.yield (Yield.assign rfl) rfl ?_
      refine OG.yield (Yield.assign rfl) rfl ?_
      refine OG.nil ?_
      refine QG.then ?_
      refine CG.ret ?_
      refine QG.pass_ret ?_
      rw [show inO o k ad (nn : Int) = ([], 90) by unfold inO; rw [if_neg hg, Int.toNat_natCast, if_neg (by rw [mayA_f hz (h3 hz)]; decide)]]
      exact QG.rets [.slice none 0 0, .int .i64 90] rfl ⟨rfl, rfl, trivial⟩ (⟨none, 0, [], σ2⟩ : BA) ⟨rfl, L2⟩ rfl (Imp.trans (osl_nil (E := 5) (sz := 1)) (by repeat (first | exact Imp.refl _ | exact Imp.none _ | apply Imp.pull (by repeat (first | exact Ext.here | apply Ext.there)) | apply Imp.trans Imp.drop)))
    · skip
      rw [if_neg (by omega)]
      refine CG.region ?_
      refine OG.yield (Yield.move rfl) rfl ?_
      refine OG.yield (Yield.as (Yield.neq rfl rfl) (v' := .bool false) rfl) rfl ?_
      refine OG.nil ?_
      refine QG.then ?_
      refine CG.cond_f rfl ?_
      refine CG.skip ?_
      refine QG.then ?_
      refine CG.seq ?_
      refine CG.imp (Imp.trans (B := Star (XI b3 b8 s bb nn (bufI o k ad nn jz)) :: WG m f t n qs σ2 (sb s k r m f t :: Fr)) (by repeat (first | exact Imp.refl _ | exact Imp.none _ | apply Imp.pull (by repeat (first | exact Ext.here | apply Ext.there)) | apply Imp.trans Imp.drop)) star_open) ?_
      dsimp only [XI, List.cons_append, List.nil_append]
      obtain rfl : jz = nn := by omega
      refine CG.region ?_
      refine OG.yield (Yield.load ti73 rfl (by first | exact Cel.of_blk (by repeat (first | exact Ext.here | apply Ext.there)) rfl | exact (hrow (by repeat (first | exact Ext.here | apply Ext.there))) _ _ rfl)) rfl ?_
      refine OG.yield (Yield.assign rfl) rfl ?_
      refine OG.yield (Yield.assign rfl) rfl ?_
      refine OG.nil ?_
      refine QG.then ?_
      refine CG.ret ?_
      rw [show inO o k ad (jz : Int) = (bufI o k ad jz jz, 0) by unfold inO; rw [if_neg hg, Int.toNat_natCast, if_pos (mayA_t h2)]]
      refine QG.rets [.slice (some ⟨bb, 0, none⟩) jz jz, .int .i64 0] rfl ⟨rfl, rfl, trivial⟩ (⟨some ⟨bb, 0, none⟩, jz, bufI o k ad jz jz, σ2⟩ : BA) ⟨rfl, L2⟩ (by simp only [bufI_len]; rfl) (by unfold oby; simp only [bufI_len]; exact (by repeat (first | exact Imp.refl _ | exact Imp.none _ | apply Imp.pull (by repeat (first | exact Ext.here | apply Ext.there)) | apply Imp.trans Imp.drop)))
theorem out1_spec {a b c d : Int} {G : List HProp} : Ctr Try.prog W0 88 [.int .i64 a, .int .i64 b, .int .i64 c, .int .i64 d] G (fun _ : Unit => True) (fun _ => .tuple #[]) (fun _ => G) := by
  refine Ctr.of_body Try.func88 rfl Try.ntmps88 rfl ?_
  refine CG.skip ?_
  exact QG.end0 rfl () trivial rfl (Imp.refl _)
theorem fill_256 {fx : Nat} {bs ws : List UInt8} {a : Option Addr} {c2 : Nat} (hr : RdB W0 Fr a c2 ws) (hk : fx < n) (hw : ws.length = 256) : Ctr Try.prog W0 42 [.pointer (some ⟨m, 0, none⟩), .int .i64 fx, .slice a 256 c2] (M m n bs :: Fr) (fun _ : Unit => True)
    (fun _ => .int .i64 0) (fun _ => M m n (overB bs (fx * 256) (fillB ws)) :: Fr) := by
  have := fill_ok W0 Fr (m := m) (n := n) (k := fx) (bs := bs) hr hk (Nat.le_of_eq hw)
  rw [hw] at this; exact this
/-- What Out's closure works on. -/
abbrev XO (b3 b5 s : Nat) (ba : Option Addr) (bc nn : Nat) : List HProp := [blk b3 [.pointer (some ⟨s, 0, none⟩)] 81, blk b5 [.slice ba nn bc] 73]
theorem out2_spec {b3 b5 j to fx bc : Nat} {at' : Nat} {ba : Option Addr} {b : List UInt8} (hr : RdB W0 Fr ba bc b) (hcap : b.length ≤ bc) (hnn : b.length ≤ 4096) (hfx : fx < n) (ha : at' < 256) (hj : j < to) (hto : to ≤ b.length) (h256 : to - j ≤ 256 - at') (hbs : σ.bs.length = n * 256) :
    Ctr Try.prog W0 89 [.int .i64 fx, .int .i64 at', .int .i64 j, .int .i64 to, .pointer (some ⟨b3, 0, none⟩), .pointer (some ⟨b5, 0, none⟩)] (WG m f t n qs σ (sb s k r m f t :: Star (XO b3 b5 s ba bc b.length) :: Fr)) (fun _ : Unit => True) (fun _ => .tuple #[])
      (fun _ => WG m f t n qs { σ with bs := overB σ.bs (fx * 256 + at') ((b.drop j).take (to - j)) } (sb s k r m f t :: Star (XO b3 b5 s ba bc b.length) :: Fr)) := by
  have hfl := frB_len hbs hfx
  have hyl : ((b.drop j).take (to - j)).length = to - j := by rw [List.length_take, List.length_drop]; omega
  have hwl : (overB (frB σ.bs fx) at' ((b.drop j).take (to - j))).length = 256 := by rw [overB_len (by omega), hfl]
  refine Ctr.imp (Imp.trans (B := Star (XO b3 b5 s ba bc b.length) :: WG m f t n qs σ (sb s k r m f t :: Fr)) (by repeat (first | exact Imp.refl _ | exact Imp.none _ | apply Imp.pull (by repeat (first | exact Ext.here | apply Ext.there)) | apply Imp.trans Imp.drop)) star_open) ?_
  dsimp only [XO, List.cons_append, List.nil_append]
  refine Ctr.of_body Try.func89 rfl Try.ntmps89 rfl ?_
  refine CG.seq ?_
  refine CG.region ?_
  refine OG.yield (Yield.load ti81 rfl (by first | exact Cel.of_blk (by repeat (first | exact Ext.here | apply Ext.there)) rfl | exact (hrow (by repeat (first | exact Ext.here | apply Ext.there))) _ _ rfl)) rfl ?_
  refine OG.yield (Yield.nilCheck rfl) rfl ?_
  refine OG.yield (Yield.fieldAddr fa137_2 rfl) rfl ?_
  refine OG.yield (Yield.load ti24 rfl (by first | exact Cel.of_blk (by repeat (first | exact Ext.here | apply Ext.there)) rfl | exact (hrow (by repeat (first | exact Ext.here | apply Ext.there))) _ _ rfl)) rfl ?_
  refine OG.yield (Yield.move rfl) rfl ?_
  refine OG.callo call59 rfl ((by repeat (first | exact Imp.refl _ | exact Imp.none _ | apply Imp.pull (by repeat (first | exact Ext.here | apply Ext.there)) | apply Imp.trans Imp.drop))) (frame_ok W0 _ (m := m) (n := n) (k := fx) (bs := σ.bs) hfx) rfl ?_
  rintro bf -
  rw [hfl]
  refine OG.yield (Yield.move rfl) rfl ?_
  refine OG.yield (Yield.extract rfl rfl) rfl ?_
  refine OG.yield (Yield.extract rfl rfl) rfl ?_
  refine OG.yield (Yield.assign rfl) rfl ?_
  refine OG.yield (Yield.assign rfl) rfl ?_
  refine OG.nil ?_
  refine QG.then ?_
  refine CG.seq ?_
  refine CG.draw (.look 0 1 (.look 1 1 (.look 2 1 (.look 3 1 (.look 4 1 (.look 5 1 (.look 6 1 (.eff1 7 false (.done))))))))) [7] [] ([]) ([]) mixed (by kernel_rfl) (Imp.none _) (Imp.none _) ?_
  refine DG.look rfl rfl (Yield.move rfl) rfl ?_
  refine DG.look rfl rfl (Yield.move rfl) rfl ?_
  refine DG.look rfl rfl (Yield.as (Yield.slice_in Try.underlying73 ti5 rfl (Bound.some rfl) Bound.none (by omega) (by omega) (by omega) (by omega)) (v' := .slice (some ⟨bf, 0 + at', none⟩) (256 - at' : Nat) (256 - at')) (by simp)) rfl ?_
  refine DG.look rfl rfl (Yield.load ti73 rfl (by first | exact Cel.of_blk (by repeat (first | exact Ext.here | apply Ext.there)) rfl | exact (hrow (by repeat (first | exact Ext.here | apply Ext.there))) _ _ rfl)) rfl ?_
  refine DG.look rfl rfl (Yield.move rfl) rfl ?_
  refine DG.look rfl rfl (Yield.move rfl) rfl ?_
  refine DG.look rfl rfl (Yield.as (Yield.slice Try.underlying73 ti5 rfl (Bound.some rfl) (Bound.some rfl) (by omega) (by omega) (by omega)) (v' := .slice (ba.map fun a => cutAt a j bc 1) (to - j : Nat) (bc - j)) (by simp)) rfl ?_
  refine DG.eff1 ?_
  refine Chg.eff rfl rfl (Eff.copyIn (b := bf) (o := 0) (j := at') (n := 256 - at') (cn := 256 - at') (k := to - j) (ys := bytesV ((b.drop j).take (to - j))) rfl rfl rfl Try.underlying73 ti5 (by repeat (first | exact Foc.here | apply Foc.there)) (by omega) (by have := SlR.midB (hr.imp (G := XO b3 b5 s ba bc b.length ++ WG m f t n qs σ (sb s k r m f t :: Fr)) (by repeat (first | exact Imp.refl _ | exact Imp.none _ | apply Imp.pull (by repeat (first | exact Ext.here | apply Ext.there)) | apply Imp.trans Imp.drop))).slR (l := j) (k := to - j) hcap (by omega); rw [hyl] at this; exact this.imp (by repeat (first | exact Imp.refl _ | exact Imp.none _ | apply Imp.pull (by repeat (first | exact Ext.here | apply Ext.there)) | apply Imp.trans Imp.drop))) bytesV_one) rfl (fun _ => (by repeat (first | exact Imp.refl _ | exact Imp.none _ | apply Imp.pull (by repeat (first | exact Ext.here | apply Ext.there)) | apply Imp.trans Imp.drop))) (fun _ => Imp.refl _) (fun _ => (by repeat (first | exact Imp.refl _ | exact Imp.none _ | apply Imp.pull (by repeat (first | exact Ext.here | apply Ext.there)) | apply Imp.trans Imp.drop))) ?_
  rintro ⟨⟩ -
  rw [show min (to - j) (256 - at') = to - j by omega, bytesV_take, List.take_of_length_le (Nat.le_of_eq hyl), over_bytes]
  refine DG.done ?_
  refine QG.then ?_
  refine CG.region ?_
  refine OG.yield (Yield.load ti81 rfl (by first | exact Cel.of_blk (by repeat (first | exact Ext.here | apply Ext.there)) rfl | exact (hrow (by repeat (first | exact Ext.here | apply Ext.there))) _ _ rfl)) rfl ?_
  refine OG.yield (Yield.nilCheck rfl) rfl ?_
  refine OG.yield (Yield.fieldAddr fa137_2 rfl) rfl ?_
  refine OG.yield (Yield.load ti24 rfl (by first | exact Cel.of_blk (by repeat (first | exact Ext.here | apply Ext.there)) rfl | exact (hrow (by repeat (first | exact Ext.here | apply Ext.there))) _ _ rfl)) rfl ?_
  refine OG.yield (Yield.move rfl) rfl ?_
  refine OG.yield (Yield.move rfl) rfl ?_
  refine OG.callo call42 rfl ((by repeat (first | exact Imp.refl _ | exact Imp.none _ | apply Imp.pull (by repeat (first | exact Ext.here | apply Ext.there)) | apply Imp.trans Imp.drop))) (fill_256 W0 _ (m := m) (n := n) (fx := fx) (bs := σ.bs) (ws := overB (frB σ.bs fx) at' ((b.drop j).take (to - j))) (a := some ⟨bf, 0, none⟩) (c2 := 256) (by exact RdB.of_osl (E := 152) (by repeat (first | exact Ext.here | apply Ext.there)) (by rw [hwl]; first | exact hfl | rfl) rfl) hfx hwl) rfl ?_
  rintro ⟨⟩ -
  rw [overB_frame hbs hfx (by omega)]
  refine OG.nil ?_
  exact QG.end0 rfl () trivial rfl (Imp.trans (B := XO b3 b5 s ba bc b.length ++ WG m f t n qs { σ with bs := overB σ.bs (fx * 256 + at') ((b.drop j).take (to - j)) } (sb s k r m f t :: Fr)) (by repeat (first | exact Imp.refl _ | exact Imp.none _ | apply Imp.pull (by repeat (first | exact Ext.here | apply Ext.there)) | apply Imp.trans Imp.drop)) (Imp.trans star_close (by repeat (first | exact Imp.refl _ | exact Imp.none _ | apply Imp.pull (by repeat (first | exact Ext.here | apply Ext.there)) | apply Imp.trans Imp.drop))))
set_option maxHeartbeats 2000000 in
theorem out_spec {o : Ob} {ba : Option Addr} {bc : Nat} {b : List UInt8} (hr : RdB W0 Fr ba bc b) (hcap : b.length ≤ bc) (L : Lk n qs rt o c σ) (hk : rt k = some r) (hb : c < 1000000000000000000 - 8192) {ad : Nat} (had : ad < 4294967296) : Ctr Try.prog W0 76 [.pointer (some ⟨s, 0, none⟩), .int .u32 ad, .slice ba b.length bc] (WG m f t n qs σ (sb s k r m f t :: Fr))
    (fun σ' : St => Lk n qs rt (outR o k ad b).2 (c + 8192) σ') (fun _ => .int .i64 (outR o k ad b).1) (fun σ' => WG m f t n qs σ' (sb s k r m f t :: Fr)) := by
  have hdo1 : ∀ (Fr' : List HProp) (j : Nat) (A : Ab) (σ' : St) (c' : Nat) (x : Nat × Nat), j < b.length → ad + j < 1048576 → A.rt = rt → A.hs = [] → Good n qs A σ' → obs A σ' = o → σ'.hits + σ'.miss ≤ c' → A.pg k ((ad + j) / 256) = some x →
      Ctr Try.prog W0 88 ([.int .i64 x.1, .int .i64 ((ad + j) % 256 : Nat), .int .i64 j, .int .i64 (ends ad b.length j : Nat)] ++ []) (WG m f t n qs σ' (sb s k r m f t :: Star [] :: Fr')) (fun σ2 : St => Lk n qs rt o c' σ2) (fun _ => .tuple #[]) (fun σ2 => WG m f t n qs σ2 (sb s k r m f t :: Star [] :: Fr')) :=
    fun Fr' j A σ' c' x hjn hlt hrt h0 G ho hcc hx => Ctr.re (out1_spec W0) (fun _ => σ') (fun _ _ => Lk.intro G hrt h0 ho hcc) (fun _ _ => rfl) (fun _ _ => Imp.refl _)
  by_cases hg : 4096 < b.length
  · have e : outR o k ad b = (2, o) := by unfold outR; rw [if_pos hg]
    rw [e]
    refine Ctr.of_body Try.func76 rfl Try.ntmps76 rfl ?_
    refine CG.seq ?_
    refine CG.region ?_
    refine OG.effd (Eff.box rfl) rfl ?_
    rintro b3 -
    refine OG.effd (Eff.box rfl) rfl ?_
    rintro b5 -
    refine OG.yield (Yield.assign rfl) rfl ?_
    refine OG.nil ?_
    refine QG.then ?_
    refine CG.seq ?_
    refine CG.seq ?_
    refine CG.region ?_
    refine OG.yield (Yield.load ti73 rfl (by first | exact Cel.of_blk (by repeat (first | exact Ext.here | apply Ext.there)) rfl | exact (hrow (by repeat (first | exact Ext.here | apply Ext.there))) _ _ rfl)) rfl ?_
    refine OG.yield (Yield.len_slice Try.underlying73 rfl rfl) rfl ?_
    refine OG.yield (by first | exact Yield.as (Yield.gtr rfl rfl) (bT (by omega)) | exact Yield.as (Yield.gtr rfl rfl) (bF (by omega)) | exact Yield.gtr rfl rfl) rfl ?_
    refine OG.nil ?_
    refine QG.then ?_
    refine CG.cond_t rfl ?_
    refine CG.seq ?_
    refine CG.region ?_
    refine OG.yield (Yield.assign rfl) rfl ?_
    refine OG.nil ?_
    refine QG.then ?_
    refine CG.ret ?_
    refine QG.pass_ret ?_
    exact QG.ret1 rfl rfl σ (Lk.mono L (by omega)) rfl (by repeat (first | exact Imp.refl _ | exact Imp.none _ | apply Imp.pull (by repeat (first | exact Ext.here | apply Ext.there)) | apply Imp.trans Imp.drop))
  · have hnn : b.length ≤ 4096 := by omega
    have hdo2 : ∀ (b3 b5 : Nat) (j : Nat) (A : Ab) (σ' : St) (c' : Nat) (x : Nat × Nat), j < b.length → ad + j < 1048576 → A.rt = rt → A.hs = [] → Good n qs A σ' → obs A σ' = outO o k ad b j → σ'.hits + σ'.miss ≤ c' → A.pg k ((ad + j) / 256) = some x →
        Ctr Try.prog W0 89 ([.int .i64 x.1, .int .i64 ((ad + j) % 256 : Nat), .int .i64 j, .int .i64 (ends ad b.length j : Nat)] ++ [.pointer (some ⟨b3, 0, none⟩), .pointer (some ⟨b5, 0, none⟩)]) (WG m f t n qs σ' (sb s k r m f t :: Star (XO b3 b5 s ba bc b.length) :: Fr)) (fun σ2 : St => Lk n qs rt (outO o k ad b (ends ad b.length j)) c' σ2) (fun _ => .tuple #[]) (fun σ2 => WG m f t n qs σ2 (sb s k r m f t :: Star (XO b3 b5 s ba bc b.length) :: Fr)) := by
      intro b3 b5 j A σ' c' x hjn hlt hrt h0 G ho hcc hx
      have hv : (outO o k ad b j).vw k ((ad + j) / 256) = some (x.2, frB σ'.bs x.1) := by rw [← ho, vw_obs, hx]; rfl
      have hpl := frB_len G.rep.len (G.plt hx)
      have hyl : ((b.drop j).take (ends ad b.length j - j)).length = ends ad b.length j - j := by have := ends_le (ad := ad) (nn := b.length) (j := j); rw [List.length_take, List.length_drop]; omega
      obtain ⟨G2, e2⟩ := G.write (o := (ad + j) % 256) (ys := (b.drop j).take (ends ad b.length j - j)) hx (by rw [hyl]; unfold ends; omega)
      have hst := out_step hv hpl hjn
      have h := out2_spec W0 Fr (n := n) (qs := qs) (k := k) (s := s) (m := m) (f := f) (t := t) (r := r) (σ := σ') (b3 := b3) (b5 := b5) hr hcap hnn (G.plt hx) (Nat.mod_lt (ad + j) (show 0 < 256 by decide)) (ends_gt (ad := ad) hjn) ends_le (by unfold ends; omega) G.rep.len
      refine Ctr.re h (fun _ => { σ' with bs := overB σ'.bs (x.1 * 256 + (ad + j) % 256) ((b.drop j).take (ends ad b.length j - j)) }) (fun _ _ => Lk.intro G2 hrt h0 ?_ hcc) (fun _ _ => rfl) (fun _ _ => Imp.refl _)
      rw [e2, ho, ← hst]; rfl
    refine Ctr.of_body Try.func76 rfl Try.ntmps76 rfl ?_
    refine CG.seq ?_
    refine CG.region ?_
    refine OG.effd (Eff.box rfl) rfl ?_
    rintro b3 -
    refine OG.effd (Eff.box rfl) rfl ?_
    rintro b5 -
    refine OG.yield (Yield.assign rfl) rfl ?_
    refine OG.nil ?_
    refine QG.then ?_
    refine CG.seq ?_
    refine CG.seq ?_
    refine CG.region ?_
    refine OG.yield (Yield.load ti73 rfl (by first | exact Cel.of_blk (by repeat (first | exact Ext.here | apply Ext.there)) rfl | exact (hrow (by repeat (first | exact Ext.here | apply Ext.there))) _ _ rfl)) rfl ?_
    refine OG.yield (Yield.len_slice Try.underlying73 rfl rfl) rfl ?_
    refine OG.yield (by first | exact Yield.as (Yield.gtr rfl rfl) (bT (by omega)) | exact Yield.as (Yield.gtr rfl rfl) (bF (by omega)) | exact Yield.gtr rfl rfl) rfl ?_
    refine OG.nil ?_
    refine QG.then ?_
    refine CG.cond_f rfl ?_
    refine CG.skip ?_
    refine QG.then ?_
    refine CG.seq ?_
    refine CG.seq ?_
    refine CG.region ?_
    refine OG.yield (Yield.load ti81 rfl (by first | exact Cel.of_blk (by repeat (first | exact Ext.here | apply Ext.there)) rfl | exact (hrow (by repeat (first | exact Ext.here | apply Ext.there))) _ _ rfl)) rfl ?_
    refine OG.yield (Yield.move rfl) rfl ?_
    refine OG.yield (Yield.load ti73 rfl (by first | exact Cel.of_blk (by repeat (first | exact Ext.here | apply Ext.there)) rfl | exact (hrow (by repeat (first | exact Ext.here | apply Ext.there))) _ _ rfl)) rfl ?_
    refine OG.yield (Yield.len_slice Try.underlying73 rfl rfl) rfl ?_
    refine OG.callo call86 rfl (Imp.trans star_nil (by repeat (first | exact Imp.refl _ | exact Imp.none _ | apply Imp.pull (by repeat (first | exact Ext.here | apply Ext.there)) | apply Imp.trans Imp.drop))) (pieces_spec W0 _ (n := n) (qs := qs) (k := k) (s := s) (m := m) (f := f) (t := t) (r := r) (F := 88) (ca := []) call88 (ob := fun _ => o) (X := fun _ => Star []) (pm := pmO o k) (right := 2) (nn := b.length) (ad := ad) hnn had (fun _ _ => rfl) L hk (by omega) (hdo1 (blk b5 [.slice ba b.length bc] 73 :: blk b3 [.pointer (some ⟨s, 0, none⟩)] 81 :: Fr))) rfl ?_
    rintro ⟨jz, σ2⟩ ⟨h1, h2, h3, L2⟩
    dsimp only at h1 h2 h3 L2 ⊢
    refine OG.yield (Yield.assign rfl) rfl ?_
    refine OG.nil ?_
    refine QG.then ?_
    refine CG.seq ?_
    rcases Nat.lt_or_ge jz b.length with hz | hz
    · skip
      rw [if_pos hz]
      refine CG.region ?_
      refine OG.yield (Yield.move rfl) rfl ?_
      refine OG.yield (Yield.as (Yield.neq rfl rfl) (v' := .bool true) rfl) rfl ?_
      refine OG.nil ?_
      refine QG.then ?_
      refine CG.cond_t rfl ?_
      refine CG.seq ?_
      refine CG.region ?_
      refine OG.yield (Yield.move rfl) rfl ?_
      refine OG.yield (Yield.assign rfl) rfl ?_
      refine OG.nil ?_
      refine QG.then ?_
      refine CG.ret ?_
      refine QG.pass_ret ?_
      rw [show outR o k ad b = (90, o) by unfold outR; rw [if_neg hg, if_neg (by rw [mayA_f hz (h3 hz)]; decide)]]
      exact QG.ret1 rfl rfl σ2 (Lk.mono L2 (by omega)) rfl (by repeat (first | exact Imp.refl _ | exact Imp.none _ | apply Imp.pull (by repeat (first | exact Ext.here | apply Ext.there)) | apply Imp.trans Imp.drop))
    · skip
      rw [if_neg (by omega)]
      refine CG.region ?_
      refine OG.yield (Yield.move rfl) rfl ?_
      refine OG.yield (Yield.as (Yield.neq rfl rfl) (v' := .bool false) rfl) rfl ?_
      refine OG.nil ?_
      refine QG.then ?_
      refine CG.cond_f rfl ?_
      refine CG.skip ?_
      refine QG.then ?_
      refine CG.seq ?_
      obtain rfl : jz = b.length := by omega
      refine CG.region ?_
      refine OG.yield (Yield.load ti81 rfl (by first | exact Cel.of_blk (by repeat (first | exact Ext.here | apply Ext.there)) rfl | exact (hrow (by repeat (first | exact Ext.here | apply Ext.there))) _ _ rfl)) rfl ?_
      refine OG.yield (Yield.move rfl) rfl ?_
      refine OG.yield (Yield.load ti73 rfl (by first | exact Cel.of_blk (by repeat (first | exact Ext.here | apply Ext.there)) rfl | exact (hrow (by repeat (first | exact Ext.here | apply Ext.there))) _ _ rfl)) rfl ?_
      refine OG.yield (Yield.len_slice Try.underlying73 rfl rfl) rfl ?_
      refine OG.yield (Yield.makeFunc (first := []) (cap := [.tmp 3, .tmp 5]) rfl rfl) rfl ?_
      refine OG.callo call86 rfl (Imp.trans (B := XO b3 b5 s ba bc b.length ++ WG m f t n qs σ2 (sb s k r m f t :: Fr)) (by repeat (first | exact Imp.refl _ | exact Imp.none _ | apply Imp.pull (by repeat (first | exact Ext.here | apply Ext.there)) | apply Imp.trans Imp.drop)) (Imp.trans star_close (by repeat (first | exact Imp.refl _ | exact Imp.none _ | apply Imp.pull (by repeat (first | exact Ext.here | apply Ext.there)) | apply Imp.trans Imp.drop)))) (pieces_spec W0 Fr (n := n) (qs := qs) (k := k) (s := s) (m := m) (f := f) (t := t) (r := r) (F := 89) (ca := [.pointer (some ⟨b3, 0, none⟩), .pointer (some ⟨b5, 0, none⟩)]) call89 (ob := outO o k ad b) (X := fun _ => Star (XO b3 b5 s ba bc b.length)) (pm := pmO o k) (right := 2) (nn := b.length) (ad := ad) hnn had (fun j q => outO_pm j k q) (by rw [outO_zero]; exact L2) hk (by omega) (hdo2 b3 b5)) rfl ?_
      rintro ⟨jy, σ3⟩ ⟨h4, h5, h6, L3⟩
      dsimp only at h4 h5 h6 L3 ⊢
      have hjy : jy = b.length := by
        rcases Nat.lt_or_ge jy b.length with hy | hy
        · have q1 := h6 hy
          rw [h2 jy hy] at q1; cases q1
        · omega
      subst hjy
      rw [if_neg (by omega)]
      refine OG.yield (Yield.assign rfl) rfl ?_
      refine OG.nil ?_
      refine QG.then ?_
      refine CG.ret ?_
      rw [show outR o k ad b = (0, outO o k ad b b.length) by unfold outR; rw [if_neg hg, if_pos (mayA_t h2)]]
      exact QG.ret1 rfl rfl σ3 (Lk.mono L3 (by omega)) rfl (by repeat (first | exact Imp.refl _ | exact Imp.none _ | apply Imp.pull (by repeat (first | exact Ext.here | apply Ext.there)) | apply Imp.trans Imp.drop))
theorem out_of {o : Ob} {ba : Option Addr} {bc : Nat} {b : List UInt8} (hr : RdB W0 Fr ba bc b) (L : Lk n qs rt o c σ) (hk : rt k = some r) (hb : c < 1000000000000000000 - 8192) {ad : Nat} (had : ad < 4294967296) : Ctr Try.prog W0 76 [.pointer (some ⟨s, 0, none⟩), .int .u32 ad, .slice ba b.length bc] (WG m f t n qs σ (sb s k r m f t :: Fr))
    (fun σ' : St => Lk n qs rt (outR o k ad b).2 (c + 8192) σ') (fun _ => .int .i64 (outR o k ad b).1) (fun σ' => WG m f t n qs σ' (sb s k r m f t :: Fr)) := fun w hw =>
  out_spec W0 Fr hr ((hr w (hw.imp (Imp.trans Imp.drop (Imp.trans Imp.drop (Imp.trans Imp.drop Imp.drop))))).2) L hk hb had w hw
end
end Go.Proofs.Ytmlfcfbblfcpdaa.Sp
