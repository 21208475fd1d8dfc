/- Spaces of several partitions in one memory: a good state, and what each operation makes of it. Plain law, no program in sight. -/
import Derived.Test.YtmlfcfbblfcpdaaSpr
namespace Go.Proofs.Ytmlfcfbblfcpdaa.Sp
open Go Go.Sl Go.RowKit Go.Proofs Go.Proofs.Ytmlfcfbblfcpdaa.T Go.Proofs.Ytmlfcfbblfcpdaa.Me Go.Proofs.Ytmlfcfbblfcpdaa.Pe Go.Proofs.Ytmlfcfbblfcpdaa.Pg
open Go.Proofs.Ytmlfcfbblfcpdaa.Fz (cnt cnt_set inv_take inv_give)
open Go.Proofs.Ytmlfcfbblfcpdaa.Tl (Slot hitB putL flushPL put_cases)
set_option linter.unusedVariables false
set_option linter.unusedSimpArgs false
set_option maxRecDepth 100000
/-- What the machine's parts hold. -/
structure St where
  bs : List UInt8
  own : List Int
  l : List Slot
  hand : Nat
  hits : Nat
  miss : Nat
structure Good (n : Nat) (qs : List Int) (A : Ab) (σ : St) : Prop where
  rep : Rep n σ.bs A
  own : Own σ.own A
  inv : Fz.Inv σ.own qs
  ol : σ.own.length = n
  pm : ∀ k p x, A.pg k p = some x → 1 ≤ x.2 ∧ x.2 ≤ 7
  tlb : Tru A σ.l σ.hand
/-- What can be seen of it: pages with their rights and bytes, which second tables there are, how many frames are free. -/
structure Ob where
  vw : Nat → Nat → Option (Nat × List UInt8)
  ts : Nat → Nat → Bool
  fr : Nat
def obs (A : Ab) (σ : St) : Ob := ⟨fun k p => (A.pg k p).map fun x => (x.2, frB σ.bs x.1), fun k g => (A.tb k g).isSome, cnt σ.own (-1)⟩
abbrev zs : List UInt8 := List.replicate 256 0
theorem Ob.ext' {a b : Ob} (h1 : ∀ k p, a.vw k p = b.vw k p) (h2 : ∀ k g, a.ts k g = b.ts k g) (h3 : a.fr = b.fr) : a = b := by
  cases a; cases b
  have e1 := funext fun k => funext (h1 k)
  have e2 := funext fun k => funext (h2 k)
  simp only at e1 e2 h3
  subst e1 e2 h3; rfl
section
variable {n : Nat} {qs : List Int} {A : Ab} {σ : St}
theorem Good.n2 (G : Good n qs A σ) : 1 ≤ n ∧ n ≤ 1024 := by have := G.inv.tot; rw [G.ol] at this; exact this
theorem Good.flt (G : Good n qs A σ) {ρ : Role} {f : Nat} (h : A.fr ρ = some f) : f < n := by
  have := (List.getElem?_eq_some_iff.1 (G.own.ow ρ f h)).1
  rw [G.ol] at this; exact this
theorem Good.pgf {k p : Nat} {x : Nat × Nat} (h : A.pg k p = some x) : A.fr (.page k p) = some x.1 := by simp only [Ab.fr, h]; rfl
theorem Good.plt (G : Good n qs A σ) {k p : Nat} {x : Nat × Nat} (h : A.pg k p = some x) : x.1 < n := G.flt (Good.pgf h)
theorem Good.ent (G : Good n qs A σ) {f m : Nat} (hf : f < n) (hm : m ≤ 7) : Pg.ent ((entryOf f m).toNat % 4294967296) = some (f, m) := by rw [entry_mod]; exact ent_entry (by have := G.n2; omega) hm
theorem Rep.hs {bs : List UInt8} (R : Rep n bs A) (h : List (Nat × Nat)) : Rep n bs { A with hs := h } := ⟨R.len, R.tree, R.rw, R.tb0, R.pg0⟩
theorem Good.nroot (G : Good n qs A σ) {ρ : Role} {f : Nat} (h : A.fr ρ = some f) (hρ : ∀ k, ρ ≠ .root k) (k : Nat) : A.rt k ≠ some f := fun e => hρ k (G.own.inj ρ (.root k) f h e)
theorem Good.ntab (G : Good n qs A σ) {ρ : Role} {f : Nat} (h : A.fr ρ = some f) (hρ : ∀ k g, ρ ≠ .tab k g) (k g : Nat) : A.tb k g ≠ some f := fun e => hρ k g (G.own.inj ρ (.tab k g) f h e)
theorem fillB_nil' : fillB [] = zs := rfl
/-- A lookup is kept in mind. -/
theorem Good.find (G : Good n qs A σ) {k p : Nat} {x : Nat × Nat} (h : A.pg k p = some x) (a b : Nat) : Good n qs A { σ with l := (putL σ.l σ.hand ⟨true, k, p, x.1, x.2⟩).1, hand := (putL σ.l σ.hand ⟨true, k, p, x.1, x.2⟩).2, hits := a, miss := b } :=
  ⟨G.rep, G.own, G.inv, G.ol, G.pm, G.tlb.put h⟩
theorem Good.count (G : Good n qs A σ) (a b : Nat) : Good n qs A { σ with hits := a, miss := b } := ⟨G.rep, G.own, G.inv, G.ol, G.pm, G.tlb⟩
/-- A page over a table that is there. -/
theorem Good.map1 (G : Good n qs A σ) (h0 : A.hs = []) {k r p q f m : Nat} {qk : Int} (hk : A.rt k = some r) (hp : p < 4096) (hq : A.tb k (p / 64) = some q) (hn : A.pg k p = none) (hf : σ.own[f]? = some (-1)) (hm : 1 ≤ m ∧ m ≤ 7) (hqk : qs[k]? = some qk) (hc : (cnt σ.own k : Int) < qk) :
    Good n qs { A with pg := up2 A.pg k p (some (f, m)) } { σ with bs := stW (overB σ.bs (f * 256) (fillB [])) q (p % 64) (entryOf f m).toNat, own := σ.own.set f k } ∧
    obs { A with pg := up2 A.pg k p (some (f, m)) } { σ with bs := stW (overB σ.bs (f * 256) (fillB [])) q (p % 64) (entryOf f m).toNat, own := σ.own.set f k } = ⟨up2 (obs A σ).vw k p (some (m, zs)), (obs A σ).ts, (obs A σ).fr - 1⟩ := by
  have hfn : f < n := by rw [← G.ol]; exact (List.getElem?_eq_some_iff.1 hf).1
  have hi : p % 64 < 64 := Nat.mod_lt _ (by decide)
  have hqn := G.rep.tlt hq
  have o1 := only_fill (bs := σ.bs) (ws := []) G.rep.len hfn (by decide)
  have o2 := only_st (i := p % 64) (v := (entryOf f m).toNat) o1.len hqn hi
  have O1 := G.own.take k hf
  have R1 := (G.rep.only o1 (fun k' e => G.own.free hf (.root k') e) (fun k' g e => G.own.free hf (.tab k' g) e)).hs ((f, k) :: A.hs)
  have R2 := R1.entry O1 hk hp hq (entryOf f m).toNat
  rw [G.ent hfn hm.2] at R2
  have O2 := O1.toPage (m := m) rfl hp hn
  have hqf : f ≠ q := fun e => G.own.free hf (.tab k (p / 64)) (by rw [e]; exact hq)
  refine ⟨⟨R2.hs A.hs, O2, inv_take G.inv hqk hc hf, by rw [List.length_set]; exact G.ol, fun k' p' x hx => ?_, G.tlb.lay _ fun k' p' x hx => ?_⟩, Ob.ext' (fun k' p' => ?_) (fun _ _ => rfl) ?_⟩
  · dsimp only at hx
    by_cases h : k' = k ∧ p' = p
    · obtain ⟨rfl, rfl⟩ := h; rw [up2_at] at hx; cases hx; exact hm
    · rw [up2_ne h] at hx; exact G.pm k' p' x hx
  · dsimp only
    rw [up2_ne (by rintro ⟨rfl, rfl⟩; rw [hn] at hx; cases hx)]; exact hx
  · dsimp only [obs]
    by_cases h : k' = k ∧ p' = p
    · obtain ⟨rfl, rfl⟩ := h
      rw [up2_at, up2_at]
      show some (m, _) = _
      rw [o2.oth f hfn hqf, fr_fill (by rw [G.rep.len]; exact Nat.mul_le_mul_right _ (Nat.le_of_lt hfn)) (by decide)]; rfl
    · rw [up2_ne h, up2_ne h]
      cases hx : A.pg k' p' with
      | none => rfl
      | some x =>
        have hpf := Good.pgf hx
        have h1 : x.1 ≠ q := fun e => by have := G.own.inj (.page k' p') (.tab k (p / 64)) q (by rw [hpf, e]) hq; cases this
        have h2 : x.1 ≠ f := fun e => G.own.free hf (.page k' p') (by rw [hpf, e])
        show some (x.2, _) = some (x.2, _)
        rw [o2.oth _ (G.plt hx) h1, o1.oth _ (G.plt hx) h2]
  · show cnt (σ.own.set f k) (-1) = cnt σ.own (-1) - 1
    rw [cnt_set hf, if_pos rfl, if_neg (show ¬ ((k : Int) = -1) by omega)]; rfl
/-- A page and its table. -/
theorem Good.map2 (G : Good n qs A σ) (h0 : A.hs = []) {k r p q f m : Nat} {qk : Int} (hk : A.rt k = some r) (hp : p < 4096) (hq : A.tb k (p / 64) = none) (hn : A.pg k p = none) (hqf : σ.own[q]? = some (-1)) (hf : (σ.own.set q k)[f]? = some (-1)) (hm : 1 ≤ m ∧ m ≤ 7) (hqk : qs[k]? = some qk) (hc : (cnt σ.own k : Int) + 1 < qk) :
    Good n qs { A with tb := up2 A.tb k (p / 64) (some q), pg := up2 A.pg k p (some (f, m)) } { σ with bs := stW (stW (overB (overB (overB σ.bs (q * 256) (fillB [])) (f * 256) (fillB [])) (q * 256) (fillB [])) r (p / 64) (entryOf q 0).toNat) q (p % 64) (entryOf f m).toNat, own := (σ.own.set q k).set f k } ∧
    obs { A with tb := up2 A.tb k (p / 64) (some q), pg := up2 A.pg k p (some (f, m)) } { σ with bs := stW (stW (overB (overB (overB σ.bs (q * 256) (fillB [])) (f * 256) (fillB [])) (q * 256) (fillB [])) r (p / 64) (entryOf q 0).toNat) q (p % 64) (entryOf f m).toNat, own := (σ.own.set q k).set f k } = ⟨up2 (obs A σ).vw k p (some (m, zs)), up2 (obs A σ).ts k (p / 64) true, (obs A σ).fr - 2⟩ := by
  have hqn : q < n := by rw [← G.ol]; exact (List.getElem?_eq_some_iff.1 hqf).1
  have hfn : f < n := by have := (List.getElem?_eq_some_iff.1 hf).1; rw [List.length_set, G.ol] at this; exact this
  have hi : p % 64 < 64 := Nat.mod_lt _ (by decide)
  have hi2 : p / 64 < 64 := by omega
  have hne : f ≠ q := fun e => by
    subst e
    rw [List.getElem?_set_self (by rw [G.ol]; exact hfn)] at hf
    have := Option.some.inj hf; omega
  have hf0 : σ.own[f]? = some (-1) := by rw [List.getElem?_set_ne (fun e => hne e.symm)] at hf; exact hf
  have o1 := only_fill (bs := σ.bs) (ws := []) G.rep.len hqn (by decide)
  have o2 := only_fill (bs := overB σ.bs (q * 256) (fillB [])) (ws := []) o1.len hfn (by decide)
  have O1 := G.own.take k hqf
  have O2 := O1.take k hf
  have R1 := (G.rep.only o1 (fun k' e => G.own.free hqf (.root k') e) (fun k' g e => G.own.free hqf (.tab k' g) e))
  have R2 := (R1.only o2 (fun k' e => G.own.free hf0 (.root k') e) (fun k' g e => G.own.free hf0 (.tab k' g) e)).hs [(f, k), (q, k)]
  rw [h0] at O2
  have R3 := R2.newTab O2 G.n2.2 hk hp hq hqn (fun k' e => G.own.free hqf (.root k') e) (fun k' g e => G.own.free hqf (.tab k' g) e) (entryOf f m).toNat
  rw [G.ent hfn hm.2] at R3
  obtain ⟨ol, oo⟩ := only_new (bs := overB (overB σ.bs (q * 256) (fillB [])) (f * 256) (fillB [])) (r := r) (i := p / 64) (j := p % 64) (e := (entryOf q 0).toNat) (v := (entryOf f m).toNat) o2.len hqn (G.rep.rlt hk) hi2 hi
  have O3 := (O2.toPage (m := m) rfl hp hn).toTab rfl hi2 hq
  have hrf : f ≠ r := fun e => G.own.free hf0 (.root k) (by rw [e]; exact hk)
  have I1 := inv_take G.inv hqk (by omega) hqf
  have I2 := inv_take I1 hqk (show (cnt (σ.own.set q k) k : Int) < qk by rw [cnt_set hqf, if_neg (show ¬ ((-1 : Int) = k) by omega), if_pos rfl]; omega) hf
  refine ⟨⟨R3.hs A.hs, by rw [h0]; exact O3, I2, by rw [List.length_set, List.length_set]; exact G.ol, fun k' p' x hx => ?_, G.tlb.lay _ fun k' p' x hx => ?_⟩, Ob.ext' (fun k' p' => ?_) (fun k' g => ?_) ?_⟩
  · dsimp only at hx
    by_cases h : k' = k ∧ p' = p
    · obtain ⟨rfl, rfl⟩ := h; rw [up2_at] at hx; cases hx; exact hm
    · rw [up2_ne h] at hx; exact G.pm k' p' x hx
  · dsimp only
    rw [up2_ne (by rintro ⟨rfl, rfl⟩; rw [hn] at hx; cases hx)]; exact hx
  · dsimp only [obs]
    by_cases h : k' = k ∧ p' = p
    · obtain ⟨rfl, rfl⟩ := h
      rw [up2_at, up2_at]
      show some (m, _) = _
      rw [oo f hfn hne hrf, fr_fill (by rw [o1.len]; exact Nat.mul_le_mul_right _ (Nat.le_of_lt hfn)) (by decide)]; rfl
    · rw [up2_ne h, up2_ne h]
      cases hx : A.pg k' p' with
      | none => rfl
      | some x =>
        have hpf := Good.pgf hx
        have h1 : x.1 ≠ q := fun e => G.own.free hqf (.page k' p') (by rw [hpf, e])
        have h2 : x.1 ≠ f := fun e => G.own.free hf0 (.page k' p') (by rw [hpf, e])
        have h3 : x.1 ≠ r := fun e => by have := G.own.inj (.page k' p') (.root k) r (by rw [hpf, e]) hk; cases this
        show some (x.2, _) = some (x.2, _)
        rw [oo _ (G.plt hx) h1 h3, o2.oth _ (G.plt hx) h2, o1.oth _ (G.plt hx) h1]
  · dsimp only [obs]
    by_cases h : k' = k ∧ g = p / 64
    · obtain ⟨rfl, rfl⟩ := h; rw [up2_at, up2_at]; rfl
    · rw [up2_ne h, up2_ne h]
  · show cnt ((σ.own.set q k).set f k) (-1) = cnt σ.own (-1) - 2
    rw [cnt_set hf, cnt_set hqf, if_pos rfl, if_neg (show ¬ ((k : Int) = -1) by omega)]; rfl
/-- A page is taken away. -/
theorem Good.unmap (G : Good n qs A σ) {k r p q : Nat} {x : Nat × Nat} (hk : A.rt k = some r) (hp : p < 4096) (hq : A.tb k (p / 64) = some q) (hx : A.pg k p = some x) :
    Good n qs { A with pg := up2 A.pg k p none } { σ with bs := overB (stW σ.bs q (p % 64) 0) (x.1 * 256) (fillB []), own := σ.own.set x.1 (-1), l := flushPL σ.l k p } ∧
    obs { A with pg := up2 A.pg k p none } { σ with bs := overB (stW σ.bs q (p % 64) 0) (x.1 * 256) (fillB []), own := σ.own.set x.1 (-1), l := flushPL σ.l k p } = ⟨up2 (obs A σ).vw k p none, (obs A σ).ts, (obs A σ).fr + 1⟩ := by
  have hi : p % 64 < 64 := Nat.mod_lt _ (by decide)
  have hqn := G.rep.tlt hq
  have hpf := Good.pgf hx
  have hxn := G.plt hx
  have o1 := only_st (i := p % 64) (v := 0) G.rep.len hqn hi
  have o2 := only_fill (bs := stW σ.bs q (p % 64) 0) (ws := []) o1.len hxn (by decide)
  have R1 := G.rep.entry G.own hk hp hq 0
  rw [show (0 : Nat) % 4294967296 = 0 from rfl, ent_zero] at R1
  have R2 := R1.only o2 (fun k' e => G.nroot hpf (fun _ => by simp) k' e) (fun k' g e => G.ntab hpf (fun _ _ => by simp) k' g e)
  have O1 := G.own.fromPage hp hx
  obtain ⟨O2, hw⟩ := O1.give rfl
  refine ⟨⟨R2, O2, inv_give G.inv hw, by rw [List.length_set]; exact G.ol, fun k' p' y hy => ?_, G.tlb.flush none _ rfl⟩, Ob.ext' (fun k' p' => ?_) (fun _ _ => rfl) ?_⟩
  · dsimp only at hy
    by_cases h : k' = k ∧ p' = p
    · obtain ⟨rfl, rfl⟩ := h; rw [up2_at] at hy; cases hy
    · rw [up2_ne h] at hy; exact G.pm k' p' y hy
  · dsimp only [obs]
    by_cases h : k' = k ∧ p' = p
    · obtain ⟨rfl, rfl⟩ := h; rw [up2_at, up2_at]; rfl
    · rw [up2_ne h, up2_ne h]
      cases hy : A.pg k' p' with
      | none => rfl
      | some y =>
        have hpy := Good.pgf hy
        have h1 : y.1 ≠ q := fun e => by have := G.own.inj (.page k' p') (.tab k (p / 64)) q (by rw [hpy, e]) hq; cases this
        have h2 : y.1 ≠ x.1 := fun e => by have := G.own.inj (.page k' p') (.page k p) x.1 (by rw [hpy, e]) hpf; cases this; exact h ⟨rfl, rfl⟩
        show some (y.2, _) = some (y.2, _)
        rw [o2.oth _ (G.plt hy) h2, o1.oth _ (G.plt hy) h1]
  · show cnt (σ.own.set x.1 (-1)) (-1) = cnt σ.own (-1) + 1
    rw [cnt_set hw, if_neg (show ¬ ((k : Int) = -1) by omega), if_pos rfl]; rfl
/-- A page's rights are changed. -/
theorem Good.protect (G : Good n qs A σ) {k r p q m : Nat} {x : Nat × Nat} (hk : A.rt k = some r) (hp : p < 4096) (hq : A.tb k (p / 64) = some q) (hx : A.pg k p = some x) (hm : 1 ≤ m ∧ m ≤ 7) :
    Good n qs { A with pg := up2 A.pg k p (some (x.1, m)) } { σ with bs := stW σ.bs q (p % 64) (entryOf x.1 m).toNat, l := flushPL σ.l k p } ∧
    obs { A with pg := up2 A.pg k p (some (x.1, m)) } { σ with bs := stW σ.bs q (p % 64) (entryOf x.1 m).toNat, l := flushPL σ.l k p } = ⟨up2 (obs A σ).vw k p (some (m, frB σ.bs x.1)), (obs A σ).ts, (obs A σ).fr⟩ := by
  have hi : p % 64 < 64 := Nat.mod_lt _ (by decide)
  have hqn := G.rep.tlt hq
  have hpf := Good.pgf hx
  have hxn := G.plt hx
  have o1 := only_st (i := p % 64) (v := (entryOf x.1 m).toNat) G.rep.len hqn hi
  have R1 := G.rep.entry G.own hk hp hq (entryOf x.1 m).toNat
  rw [G.ent hxn hm.2] at R1
  refine ⟨⟨R1, G.own.perm hp hx, G.inv, G.ol, fun k' p' y hy => ?_, G.tlb.flush _ _ rfl⟩, Ob.ext' (fun k' p' => ?_) (fun _ _ => rfl) rfl⟩
  · dsimp only at hy
    by_cases h : k' = k ∧ p' = p
    · obtain ⟨rfl, rfl⟩ := h; rw [up2_at] at hy; cases hy; exact hm
    · rw [up2_ne h] at hy; exact G.pm k' p' y hy
  · have ne : ∀ k' p' y, A.pg k' p' = some y → y.1 ≠ q := fun k' p' y hy e => by have := G.own.inj (.page k' p') (.tab k (p / 64)) q (by rw [Good.pgf hy, e]) hq; cases this
    dsimp only [obs]
    by_cases h : k' = k ∧ p' = p
    · obtain ⟨rfl, rfl⟩ := h; rw [up2_at, up2_at]
      show some (m, _) = some (m, _)
      rw [o1.oth _ hxn (ne _ _ _ hx)]
    · rw [up2_ne h, up2_ne h]
      cases hy : A.pg k' p' with
      | none => rfl
      | some y =>
        show some (y.2, _) = some (y.2, _)
        rw [o1.oth _ (G.plt hy) (ne _ _ _ hy)]
/-- Bytes are written into a page. -/
theorem Good.write (G : Good n qs A σ) {k p o : Nat} {x : Nat × Nat} {ys : List UInt8} (hx : A.pg k p = some x) (ho : o + ys.length ≤ 256) :
    Good n qs A { σ with bs := overB σ.bs (x.1 * 256 + o) ys } ∧
    obs A { σ with bs := overB σ.bs (x.1 * 256 + o) ys } = ⟨up2 (obs A σ).vw k p (some (x.2, overB (frB σ.bs x.1) o ys)), (obs A σ).ts, (obs A σ).fr⟩ := by
  have hpf := Good.pgf hx
  have hxn := G.plt hx
  have o1 := only_over (bs := σ.bs) (ys := ys) (q := x.1) (a := x.1 * 256 + o) G.rep.len hxn (by omega)
  have R1 := G.rep.only o1 (fun k' e => G.nroot hpf (fun _ => by simp) k' e) (fun k' g e => G.ntab hpf (fun _ _ => by simp) k' g e)
  refine ⟨⟨R1, G.own, G.inv, G.ol, G.pm, G.tlb⟩, Ob.ext' (fun k' p' => ?_) (fun _ _ => rfl) rfl⟩
  dsimp only [obs]
  by_cases h : k' = k ∧ p' = p
  · obtain ⟨rfl, rfl⟩ := h; rw [up2_at, hx]
    show some (x.2, _) = some (x.2, _)
    rw [fr_over G.rep.len hxn ho]
  · rw [up2_ne h]
    cases hy : A.pg k' p' with
    | none => rfl
    | some y =>
      have h2 : y.1 ≠ x.1 := fun e => by have := G.own.inj (.page k' p') (.page k p) x.1 (by rw [Good.pgf hy, e]) hpf; cases this; exact h ⟨rfl, rfl⟩
      show some (y.2, _) = some (y.2, _)
      rw [o1.oth _ (G.plt hy) h2]
/-- A new space. -/
theorem Good.new (G : Good n qs A σ) (h0 : A.hs = []) {k f : Nat} {qk : Int} (hk : A.rt k = none) (hf : σ.own[f]? = some (-1)) (hqk : qs[k]? = some qk) (hc : (cnt σ.own k : Int) < qk) :
    Good n qs { A with rt := fun k' => if k' = k then some f else A.rt k' } { σ with bs := overB σ.bs (f * 256) (fillB []), own := σ.own.set f k } ∧
    obs { A with rt := fun k' => if k' = k then some f else A.rt k' } { σ with bs := overB σ.bs (f * 256) (fillB []), own := σ.own.set f k } = ⟨(obs A σ).vw, (obs A σ).ts, (obs A σ).fr - 1⟩ := by
  have hfn : f < n := by rw [← G.ol]; exact (List.getElem?_eq_some_iff.1 hf).1
  have o1 := only_fill (bs := σ.bs) (ws := []) G.rep.len hfn (by decide)
  have O1 := G.own.take k hf
  have R1 := (G.rep.only o1 (fun k' e => G.own.free hf (.root k') e) (fun k' g e => G.own.free hf (.tab k' g) e))
  have R2 := R1.root hfn (by rw [fr_fill (by rw [G.rep.len]; exact Nat.mul_le_mul_right _ (Nat.le_of_lt hfn)) (by decide)]; rfl) hk
  have O2 := O1.toRoot rfl hk
  refine ⟨⟨R2, O2, inv_take G.inv hqk hc hf, by rw [List.length_set]; exact G.ol, G.pm, G.tlb.lay _ fun _ _ _ h => h⟩, Ob.ext' (fun k' p' => ?_) (fun _ _ => rfl) ?_⟩
  · dsimp only [obs]
    cases hx : A.pg k' p' with
    | none => rfl
    | some x =>
      have h2 : x.1 ≠ f := fun e => G.own.free hf (.page k' p') (by rw [Good.pgf hx, e])
      show some (x.2, _) = some (x.2, _)
      rw [o1.oth _ (G.plt hx) h2]
  · show cnt (σ.own.set f k) (-1) = cnt σ.own (-1) - 1
    rw [cnt_set hf, if_pos rfl, if_neg (show ¬ ((k : Int) = -1) by omega)]; rfl
/-- At the beginning. -/
theorem Good.start {m : Nat} (h1 : Fz.Inv (List.replicate n (-1)) qs) (h2 : 1 ≤ m ∧ m ≤ 64) : Good n qs ⟨fun _ => none, fun _ _ => none, fun _ _ => none, []⟩ ⟨List.replicate (n * 256) 0, List.replicate n (-1), List.replicate m Slot.zero, 0, 0, 0⟩ ∧
    obs ⟨fun _ => none, fun _ _ => none, fun _ _ => none, []⟩ ⟨List.replicate (n * 256) 0, List.replicate n (-1), List.replicate m Slot.zero, 0, 0, 0⟩ = ⟨fun _ _ => none, fun _ _ => false, n⟩ := by
  have hz : ∀ m, cN (fun _ => false) m = 0 := fun m => by induction m with
    | zero => rfl
    | succ m ih => simp [cN, ih]
  have hfr : ∀ ρ f, Ab.fr ⟨fun _ => none, fun _ _ => none, fun _ _ => none, []⟩ ρ ≠ some f := fun ρ f h => by cases ρ <;> simp [Ab.fr] at h
  refine ⟨⟨⟨by simp, fun k r h => (by cases h), fun k r g h => (by cases h), fun k g q h => (by cases h), fun k p x h => (by cases h)⟩, ⟨fun ρ ρ' f h _ => absurd h (hfr ρ f), fun ρ f h => absurd h (hfr ρ f), by simp, fun k => ?_⟩, h1, by simp, fun k p x h => (by cases h), ⟨fun i j s s' a b u _ _ _ => ?_, fun s hs hu => ?_, by simp; omega, by simp; omega⟩⟩, Ob.ext' (fun _ _ => rfl) (fun _ _ => rfl) ?_⟩
  · simp only [Option.isSome_none, Bool.false_eq_true, if_false, hz]
    unfold cnt
    rw [List.count_replicate]; simp
  · have hs := List.mem_of_getElem? a
    rw [List.mem_replicate] at hs
    rw [hs.2] at u; cases u
  · rw [List.mem_replicate] at hs
    rw [hs.2] at hu; cases hu
  · show cnt (List.replicate n (-1)) (-1) = n
    unfold cnt; rw [List.count_replicate]; simp
end
end Go.Proofs.Ytmlfcfbblfcpdaa.Sp
