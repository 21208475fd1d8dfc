/- Rules for steps of the model, and what functions of the program do. -/
import Derived.Test.YtphljkplokjonaaGreatZp3
import Derived.Test.YtphljkplokjonaaGreatRows
set_option linter.unusedVariables false
set_option linter.unusedSimpArgs false
set_option linter.unusedSectionVars false
set_option maxRecDepth 100000
namespace Go.Proofs.YtphljkplokjonaaGreat.Sp
open Go Go.Sl Go.RowKit Go.Proofs Go.Proofs.YtphljkplokjonaaGreat.T Go.Proofs.YtphljkplokjonaaGreat.Me Go.Proofs.YtphljkplokjonaaGreat.Pe Go.Proofs.YtphljkplokjonaaGreat.Pg
open Go.Proofs.YtphljkplokjonaaGreat.Fz (cnt cnt_set inv_take inv_give)
open Go.Proofs.YtphljkplokjonaaGreat.Tl (Slot hitB putL flushPL put_cases)
structure St where
 bs : List UInt8
 own : List Int
 l : List Slot
 hand : Nat
 hits : Nat
 miss : Nat
structure Good (n : Nat) (qs : List Int) (A : Ab) (σ : St) : Prop where
 rep : Rep n σ.bs A
 own : Own σ.own A
 inv : Fz.Inv σ.own qs
 ol : σ.own.length = n
 pm : ∀ k p x, A.pg k p = some x → 1 ≤ x.2 ∧ x.2 ≤ 7
 tlb : Tru A σ.l σ.hand
structure Ob where
 vw : Nat → Nat → Option (Nat × List UInt8)
 ts : Nat → Nat → Bool
 fr : Nat
def obs (A : Ab) (σ : St) : Ob := ⟨fun k p => (A.pg k p).map fun x => (x.2, frB σ.bs x.1), fun k g => (A.tb k g).isSome, cnt σ.own (-1)⟩
abbrev zs : List UInt8 := List.replicate 256 0
theorem Ob.ext' {a b : Ob} (h1 : ∀ k p, a.vw k p = b.vw k p) (h2 : ∀ k g, a.ts k g = b.ts k g) (h3 : a.fr = b.fr) : a = b := by
 cases a; cases b
 have e1 := funext fun k => funext (h1 k)
 have e2 := funext fun k => funext (h2 k)
 simp only at e1 e2 h3
 subst e1 e2 h3; rfl
section
variable {n : Nat} {qs : List Int} {A : Ab} {σ : St}
theorem Good.n2 (G : Good n qs A σ) : 1 ≤ n ∧ n ≤ 1024 := by have := G.inv.tot; rw [G.ol] at this; exact this
theorem Good.flt (G : Good n qs A σ) {ρ : Role} {f : Nat} (h : A.fr ρ = some f) : f < n := by
 have := (List.getElem?_eq_some_iff.1 (G.own.ow ρ f h)).1
 rw [G.ol] at this; exact this
theorem Good.pgf {k p : Nat} {x : Nat × Nat} (h : A.pg k p = some x) : A.fr (.page k p) = some x.1 := by simp only [Ab.fr, h]; rfl
theorem Good.plt (G : Good n qs A σ) {k p : Nat} {x : Nat × Nat} (h : A.pg k p = some x) : x.1 < n := G.flt (Good.pgf h)
theorem Good.ent (G : Good n qs A σ) {f m : Nat} (hf : f < n) (hm : m ≤ 7) : Pg.ent ((entryOf f m).toNat % 4294967296) = some (f, m) := by rw [entry_mod]; exact ent_entry (by have := G.n2; omega) hm
theorem Rep.hs {bs : List UInt8} (R : Rep n bs A) (h : List (Nat × Nat)) : Rep n bs { A with hs := h } := ⟨R.len, R.tree, R.rw, R.tb0, R.pg0⟩
theorem Good.nroot (G : Good n qs A σ) {ρ : Role} {f : Nat} (h : A.fr ρ = some f) (hρ : ∀ k, ρ ≠ .root k) (k : Nat) : A.rt k ≠ some f := fun e => hρ k (G.own.inj ρ (.root k) f h e)
theorem Good.ntab (G : Good n qs A σ) {ρ : Role} {f : Nat} (h : A.fr ρ = some f) (hρ : ∀ k g, ρ ≠ .tab k g) (k g : Nat) : A.tb k g ≠ some f := fun e => hρ k g (G.own.inj ρ (.tab k g) f h e)
theorem Good.find (G : Good n qs A σ) {k p : Nat} {x : Nat × Nat} (h : A.pg k p = some x) (a b : Nat) : Good n qs A { σ with l := (putL σ.l σ.hand ⟨true, k, p, x.1, x.2⟩).1, hand := (putL σ.l σ.hand ⟨true, k, p, x.1, x.2⟩).2, hits := a, miss := b } :=
 ⟨G.rep, G.own, G.inv, G.ol, G.pm, G.tlb.put h⟩
theorem Good.count (G : Good n qs A σ) (a b : Nat) : Good n qs A { σ with hits := a, miss := b } := ⟨G.rep, G.own, G.inv, G.ol, G.pm, G.tlb⟩
theorem Good.map1 (G : Good n qs A σ) (h0 : A.hs = []) {k r p q f m : Nat} {qk : Int} (hk : A.rt k = some r) (hp : p < 4096) (hq : A.tb k (p / 64) = some q) (hn : A.pg k p = none) (hf : σ.own[f]? = some (-1)) (hm : 1 ≤ m ∧ m ≤ 7) (hqk : qs[k]? = some qk) (hc : (cnt σ.own k : Int) < qk) :
 Good n qs { A with pg := up2 A.pg k p (some (f, m)) } { σ with bs := stW (overB σ.bs (f * 256) (fillB [])) q (p % 64) (entryOf f m).toNat, own := σ.own.set f k } ∧
 obs { A with pg := up2 A.pg k p (some (f, m)) } { σ with bs := stW (overB σ.bs (f * 256) (fillB [])) q (p % 64) (entryOf f m).toNat, own := σ.own.set f k } = ⟨up2 (obs A σ).vw k p (some (m, zs)), (obs A σ).ts, (obs A σ).fr - 1⟩ := by
 have hfn : f < n := by rw [← G.ol]; exact (List.getElem?_eq_some_iff.1 hf).1
 have hi : p % 64 < 64 := Nat.mod_lt _ (by decide)
 have hqn := G.rep.tlt hq
 have o1 := only_fill (bs := σ.bs) (ws := []) G.rep.len hfn (by decide)
 have o2 := only_st (i := p % 64) (v := (entryOf f m).toNat) o1.len hqn hi
 have O1 := G.own.take k hf
 have R1 := (G.rep.only o1 (fun k' e => G.own.free hf (.root k') e) (fun k' g e => G.own.free hf (.tab k' g) e)).hs ((f, k) :: A.hs)
 have R2 := R1.entry O1 hk hp hq (entryOf f m).toNat
 rw [G.ent hfn hm.2] at R2
 have O2 := O1.toPage (m := m) J hp hn
 have hqf : f ≠ q := fun e => G.own.free hf (.tab k (p / 64)) (by rw [e]; exact hq)
 refine ⟨⟨R2.hs A.hs, O2, inv_take G.inv hqk hc hf, by rw [List.length_set]; exact G.ol, fun k' p' x hx => ?_, G.tlb.lay _ fun k' p' x hx => ?_⟩, Ob.ext' (fun k' p' => ?_) (fun _ _ => rfl) ?_⟩
 ·dsimp only at hx
  by_cases h : k' = k ∧ p' = p
  ·obtain ⟨rfl, rfl⟩ := h; rw [up2_at] at hx; cases hx; exact hm
  ·rw [up2_ne h] at hx; exact G.pm k' p' x hx
 ·dsimp only
  rw [up2_ne (by rintro ⟨rfl, rfl⟩; rw [hn] at hx; cases hx)]; exact hx
 ·dsimp only [obs]
  by_cases h : k' = k ∧ p' = p
  ·obtain ⟨rfl, rfl⟩ := h
   rw [up2_at, up2_at]
   show some (m, _) = _
   rw [o2.oth f hfn hqf, fr_fill (by rw [G.rep.len]; exact Nat.mul_le_mul_right _ (Nat.le_of_lt hfn)) (by decide)]; rfl
  ·rw [up2_ne h, up2_ne h]
   cases hx : A.pg k' p' with
   | none => rfl
   | some x =>
    have hpf := Good.pgf hx
    have h1 : x.1 ≠ q := fun e => by have := G.own.inj (.page k' p') (.tab k (p / 64)) q (by rw [hpf, e]) hq; cases this
    have h2 : x.1 ≠ f := fun e => G.own.free hf (.page k' p') (by rw [hpf, e])
    show some (x.2, _) = some (x.2, _)
    rw [o2.oth _ (G.plt hx) h1, o1.oth _ (G.plt hx) h2]
 ·show cnt (σ.own.set f k) (-1) = cnt σ.own (-1) - 1
  rw [cnt_set hf, if_pos J, if_neg (show ¬ ((k : Int) = -1) by omega)]; rfl
theorem Good.map2 (G : Good n qs A σ) (h0 : A.hs = []) {k r p q f m : Nat} {qk : Int} (hk : A.rt k = some r) (hp : p < 4096) (hq : A.tb k (p / 64) = none) (hn : A.pg k p = none) (hqf : σ.own[q]? = some (-1)) (hf : (σ.own.set q k)[f]? = some (-1)) (hm : 1 ≤ m ∧ m ≤ 7) (hqk : qs[k]? = some qk) (hc : (cnt σ.own k : Int) + 1 < qk) :
 Good n qs { A with tb := up2 A.tb k (p / 64) (some q), pg := up2 A.pg k p (some (f, m)) } { σ with bs := stW (stW (overB (overB (overB σ.bs (q * 256) (fillB [])) (f * 256) (fillB [])) (q * 256) (fillB [])) r (p / 64) (entryOf q 0).toNat) q (p % 64) (entryOf f m).toNat, own := (σ.own.set q k).set f k } ∧
 obs { A with tb := up2 A.tb k (p / 64) (some q), pg := up2 A.pg k p (some (f, m)) } { σ with bs := stW (stW (overB (overB (overB σ.bs (q * 256) (fillB [])) (f * 256) (fillB [])) (q * 256) (fillB [])) r (p / 64) (entryOf q 0).toNat) q (p % 64) (entryOf f m).toNat, own := (σ.own.set q k).set f k } = ⟨up2 (obs A σ).vw k p (some (m, zs)), up2 (obs A σ).ts k (p / 64) true, (obs A σ).fr - 2⟩ := by
 have hqn : q < n := by rw [← G.ol]; exact (List.getElem?_eq_some_iff.1 hqf).1
 have hfn : f < n := by have := (List.getElem?_eq_some_iff.1 hf).1; rw [List.length_set, G.ol] at this; exact this
 have hi : p % 64 < 64 := Nat.mod_lt _ (by decide)
 have hi2 : p / 64 < 64 := by omega
 have hne : f ≠ q := fun e => by
  subst e
  rw [List.getElem?_set_self (by rw [G.ol]; exact hfn)] at hf
  have := Option.some.inj hf; omega
 have hf0 : σ.own[f]? = some (-1) := by rw [List.getElem?_set_ne (fun e => hne e.symm)] at hf; exact hf
 have o1 := only_fill (bs := σ.bs) (ws := []) G.rep.len hqn (by decide)
 have o2 := only_fill (bs := overB σ.bs (q * 256) (fillB [])) (ws := []) o1.len hfn (by decide)
 have O1 := G.own.take k hqf
 have O2 := O1.take k hf
 have R1 := (G.rep.only o1 (fun k' e => G.own.free hqf (.root k') e) (fun k' g e => G.own.free hqf (.tab k' g) e))
 have R2 := (R1.only o2 (fun k' e => G.own.free hf0 (.root k') e) (fun k' g e => G.own.free hf0 (.tab k' g) e)).hs [(f, k), (q, k)]
 rw [h0] at O2
 have R3 := R2.newTab O2 G.n2.2 hk hp hq hqn (fun k' e => G.own.free hqf (.root k') e) (fun k' g e => G.own.free hqf (.tab k' g) e) (entryOf f m).toNat
 rw [G.ent hfn hm.2] at R3
 obtain ⟨ol, oo⟩ := only_new (bs := overB (overB σ.bs (q * 256) (fillB [])) (f * 256) (fillB [])) (r := r) (i := p / 64) (j := p % 64) (e := (entryOf q 0).toNat) (v := (entryOf f m).toNat) o2.len hqn (G.rep.rlt hk) hi2 hi
 have O3 := (O2.toPage (m := m) J hp hn).toTab J hi2 hq
 have hrf : f ≠ r := fun e => G.own.free hf0 (.root k) (by rw [e]; exact hk)
 have I1 := inv_take G.inv hqk (by omega) hqf
 have I2 := inv_take I1 hqk (show (cnt (σ.own.set q k) k : Int) < qk by rw [cnt_set hqf, if_neg (show ¬ ((-1 : Int) = k) by omega), if_pos J]; omega) hf
 refine ⟨⟨R3.hs A.hs, by rw [h0]; exact O3, I2, by rw [List.length_set, List.length_set]; exact G.ol, fun k' p' x hx => ?_, G.tlb.lay _ fun k' p' x hx => ?_⟩, Ob.ext' (fun k' p' => ?_) (fun k' g => ?_) ?_⟩
 ·dsimp only at hx
  by_cases h : k' = k ∧ p' = p
  ·obtain ⟨rfl, rfl⟩ := h; rw [up2_at] at hx; cases hx; exact hm
  ·rw [up2_ne h] at hx; exact G.pm k' p' x hx
 ·dsimp only
  rw [up2_ne (by rintro ⟨rfl, rfl⟩; rw [hn] at hx; cases hx)]; exact hx
 ·dsimp only [obs]
  by_cases h : k' = k ∧ p' = p
  ·obtain ⟨rfl, rfl⟩ := h
   rw [up2_at, up2_at]
   show some (m, _) = _
   rw [oo f hfn hne hrf, fr_fill (by rw [o1.len]; exact Nat.mul_le_mul_right _ (Nat.le_of_lt hfn)) (by decide)]; rfl
  ·rw [up2_ne h, up2_ne h]
   cases hx : A.pg k' p' with
   | none => rfl
   | some x =>
    have hpf := Good.pgf hx
    have h1 : x.1 ≠ q := fun e => G.own.free hqf (.page k' p') (by rw [hpf, e])
    have h2 : x.1 ≠ f := fun e => G.own.free hf0 (.page k' p') (by rw [hpf, e])
    have h3 : x.1 ≠ r := fun e => by have := G.own.inj (.page k' p') (.root k) r (by rw [hpf, e]) hk; cases this
    show some (x.2, _) = some (x.2, _)
    rw [oo _ (G.plt hx) h1 h3, o2.oth _ (G.plt hx) h2, o1.oth _ (G.plt hx) h1]
 ·dsimp only [obs]
  by_cases h : k' = k ∧ g = p / 64
  ·obtain ⟨rfl, rfl⟩ := h; rw [up2_at, up2_at]; rfl
  ·rw [up2_ne h, up2_ne h]
 ·show cnt ((σ.own.set q k).set f k) (-1) = cnt σ.own (-1) - 2
  rw [cnt_set hf, cnt_set hqf, if_pos J, if_neg (show ¬ ((k : Int) = -1) by omega)]; rfl
theorem Good.unmap (G : Good n qs A σ) {k r p q : Nat} {x : Nat × Nat} (hk : A.rt k = some r) (hp : p < 4096) (hq : A.tb k (p / 64) = some q) (hx : A.pg k p = some x) :
 Good n qs { A with pg := up2 A.pg k p none } { σ with bs := overB (stW σ.bs q (p % 64) 0) (x.1 * 256) (fillB []), own := σ.own.set x.1 (-1), l := flushPL σ.l k p } ∧
 obs { A with pg := up2 A.pg k p none } { σ with bs := overB (stW σ.bs q (p % 64) 0) (x.1 * 256) (fillB []), own := σ.own.set x.1 (-1), l := flushPL σ.l k p } = ⟨up2 (obs A σ).vw k p none, (obs A σ).ts, (obs A σ).fr + 1⟩ := by
 have hi : p % 64 < 64 := Nat.mod_lt _ (by decide)
 have hqn := G.rep.tlt hq
 have hpf := Good.pgf hx
 have hxn := G.plt hx
 have o1 := only_st (i := p % 64) (v := 0) G.rep.len hqn hi
 have o2 := only_fill (bs := stW σ.bs q (p % 64) 0) (ws := []) o1.len hxn (by decide)
 have R1 := G.rep.entry G.own hk hp hq 0
 rw [show (0 : Nat) % 4294967296 = 0 from J, ent_zero] at R1
 have R2 := R1.only o2 (fun k' e => G.nroot hpf (fun _ => by simp) k' e) (fun k' g e => G.ntab hpf (fun _ _ => by simp) k' g e)
 have O1 := G.own.fromPage hp hx
 obtain ⟨O2, hw⟩ := O1.give rfl
 refine ⟨⟨R2, O2, inv_give G.inv hw, by rw [List.length_set]; exact G.ol, fun k' p' y hy => ?_, G.tlb.flush none _ J⟩, Ob.ext' (fun k' p' => ?_) (fun _ _ => rfl) ?_⟩
 ·dsimp only at hy
  by_cases h : k' = k ∧ p' = p
  ·obtain ⟨rfl, rfl⟩ := h; rw [up2_at] at hy; cases hy
  ·rw [up2_ne h] at hy; exact G.pm k' p' y hy
 ·dsimp only [obs]
  by_cases h : k' = k ∧ p' = p
  ·obtain ⟨rfl, rfl⟩ := h; rw [up2_at, up2_at]; rfl
  ·rw [up2_ne h, up2_ne h]
   cases hy : A.pg k' p' with
   | none => rfl
   | some y =>
    have hpy := Good.pgf hy
    have h1 : y.1 ≠ q := fun e => by have := G.own.inj (.page k' p') (.tab k (p / 64)) q (by rw [hpy, e]) hq; cases this
    have h2 : y.1 ≠ x.1 := fun e => by have := G.own.inj (.page k' p') (.page k p) x.1 (by rw [hpy, e]) hpf; cases this; exact h ⟨rfl, rfl⟩
    show some (y.2, _) = some (y.2, _)
    rw [o2.oth _ (G.plt hy) h2, o1.oth _ (G.plt hy) h1]
 ·show cnt (σ.own.set x.1 (-1)) (-1) = cnt σ.own (-1) + 1
  rw [cnt_set hw, if_neg (show ¬ ((k : Int) = -1) by omega), if_pos J]; rfl
theorem Good.protect (G : Good n qs A σ) {k r p q m : Nat} {x : Nat × Nat} (hk : A.rt k = some r) (hp : p < 4096) (hq : A.tb k (p / 64) = some q) (hx : A.pg k p = some x) (hm : 1 ≤ m ∧ m ≤ 7) :
 Good n qs { A with pg := up2 A.pg k p (some (x.1, m)) } { σ with bs := stW σ.bs q (p % 64) (entryOf x.1 m).toNat, l := flushPL σ.l k p } ∧
 obs { A with pg := up2 A.pg k p (some (x.1, m)) } { σ with bs := stW σ.bs q (p % 64) (entryOf x.1 m).toNat, l := flushPL σ.l k p } = ⟨up2 (obs A σ).vw k p (some (m, frB σ.bs x.1)), (obs A σ).ts, (obs A σ).fr⟩ := by
 have hi : p % 64 < 64 := Nat.mod_lt _ (by decide)
 have hqn := G.rep.tlt hq
 have hpf := Good.pgf hx
 have hxn := G.plt hx
 have o1 := only_st (i := p % 64) (v := (entryOf x.1 m).toNat) G.rep.len hqn hi
 have R1 := G.rep.entry G.own hk hp hq (entryOf x.1 m).toNat
 rw [G.ent hxn hm.2] at R1
 refine ⟨⟨R1, G.own.perm hp hx, G.inv, G.ol, fun k' p' y hy => ?_, G.tlb.flush _ _ J⟩, Ob.ext' (fun k' p' => ?_) (fun _ _ => rfl) J⟩
 ·dsimp only at hy
  by_cases h : k' = k ∧ p' = p
  ·obtain ⟨rfl, rfl⟩ := h; rw [up2_at] at hy; cases hy; exact hm
  ·rw [up2_ne h] at hy; exact G.pm k' p' y hy
 ·have ne : ∀ k' p' y, A.pg k' p' = some y → y.1 ≠ q := fun k' p' y hy e => by have := G.own.inj (.page k' p') (.tab k (p / 64)) q (by rw [Good.pgf hy, e]) hq; cases this
  dsimp only [obs]
  by_cases h : k' = k ∧ p' = p
  ·obtain ⟨rfl, rfl⟩ := h; rw [up2_at, up2_at]
   show some (m, _) = some (m, _)
   rw [o1.oth _ hxn (ne _ _ _ hx)]
  ·rw [up2_ne h, up2_ne h]
   cases hy : A.pg k' p' with
   | none => rfl
   | some y =>
    show some (y.2, _) = some (y.2, _)
    rw [o1.oth _ (G.plt hy) (ne _ _ _ hy)]
theorem Good.write (G : Good n qs A σ) {k p o : Nat} {x : Nat × Nat} {ys : List UInt8} (hx : A.pg k p = some x) (ho : o + ys.length ≤ 256) :
 Good n qs A { σ with bs := overB σ.bs (x.1 * 256 + o) ys } ∧
 obs A { σ with bs := overB σ.bs (x.1 * 256 + o) ys } = ⟨up2 (obs A σ).vw k p (some (x.2, overB (frB σ.bs x.1) o ys)), (obs A σ).ts, (obs A σ).fr⟩ := by
 have hpf := Good.pgf hx
 have hxn := G.plt hx
 have o1 := only_over (bs := σ.bs) (ys := ys) (q := x.1) (a := x.1 * 256 + o) G.rep.len hxn (by omega)
 have R1 := G.rep.only o1 (fun k' e => G.nroot hpf (fun _ => by simp) k' e) (fun k' g e => G.ntab hpf (fun _ _ => by simp) k' g e)
 refine ⟨⟨R1, G.own, G.inv, G.ol, G.pm, G.tlb⟩, Ob.ext' (fun k' p' => ?_) (fun _ _ => rfl) J⟩
 dsimp only [obs]
 by_cases h : k' = k ∧ p' = p
 ·obtain ⟨rfl, rfl⟩ := h; rw [up2_at, hx]
  show some (x.2, _) = some (x.2, _)
  rw [fr_over G.rep.len hxn ho]
 ·rw [up2_ne h]
  cases hy : A.pg k' p' with
  | none => rfl
  | some y =>
   have h2 : y.1 ≠ x.1 := fun e => by have := G.own.inj (.page k' p') (.page k p) x.1 (by rw [Good.pgf hy, e]) hpf; cases this; exact h ⟨rfl, rfl⟩
   show some (y.2, _) = some (y.2, _)
   rw [o1.oth _ (G.plt hy) h2]
theorem Good.new (G : Good n qs A σ) (h0 : A.hs = []) {k f : Nat} {qk : Int} (hk : A.rt k = none) (hf : σ.own[f]? = some (-1)) (hqk : qs[k]? = some qk) (hc : (cnt σ.own k : Int) < qk) :
 Good n qs { A with rt := fun k' => if k' = k then some f else A.rt k' } { σ with bs := overB σ.bs (f * 256) (fillB []), own := σ.own.set f k } ∧
 obs { A with rt := fun k' => if k' = k then some f else A.rt k' } { σ with bs := overB σ.bs (f * 256) (fillB []), own := σ.own.set f k } = ⟨(obs A σ).vw, (obs A σ).ts, (obs A σ).fr - 1⟩ := by
 have hfn : f < n := by rw [← G.ol]; exact (List.getElem?_eq_some_iff.1 hf).1
 have o1 := only_fill (bs := σ.bs) (ws := []) G.rep.len hfn (by decide)
 have O1 := G.own.take k hf
 have R1 := (G.rep.only o1 (fun k' e => G.own.free hf (.root k') e) (fun k' g e => G.own.free hf (.tab k' g) e))
 have R2 := R1.root hfn (by rw [fr_fill (by rw [G.rep.len]; exact Nat.mul_le_mul_right _ (Nat.le_of_lt hfn)) (by decide)]; rfl) hk
 have O2 := O1.toRoot J hk
 refine ⟨⟨R2, O2, inv_take G.inv hqk hc hf, by rw [List.length_set]; exact G.ol, G.pm, G.tlb.lay _ fun _ _ _ h => h⟩, Ob.ext' (fun k' p' => ?_) (fun _ _ => rfl) ?_⟩
 ·dsimp only [obs]
  cases hx : A.pg k' p' with
  | none => rfl
  | some x =>
   have h2 : x.1 ≠ f := fun e => G.own.free hf (.page k' p') (by rw [Good.pgf hx, e])
   show some (x.2, _) = some (x.2, _)
   rw [o1.oth _ (G.plt hx) h2]
 ·show cnt (σ.own.set f k) (-1) = cnt σ.own (-1) - 1
  rw [cnt_set hf, if_pos J, if_neg (show ¬ ((k : Int) = -1) by omega)]; rfl
theorem Good.start {m : Nat} (h1 : Fz.Inv (List.replicate n (-1)) qs) (h2 : 1 ≤ m ∧ m ≤ 64) : Good n qs ⟨fun _ => none, fun _ _ => none, fun _ _ => none, []⟩ ⟨List.replicate (n * 256) 0, List.replicate n (-1), List.replicate m Slot.zero, 0, 0, 0⟩ ∧
 obs ⟨fun _ => none, fun _ _ => none, fun _ _ => none, []⟩ ⟨List.replicate (n * 256) 0, List.replicate n (-1), List.replicate m Slot.zero, 0, 0, 0⟩ = ⟨fun _ _ => none, fun _ _ => false, n⟩ := by
 have hz : ∀ m, cN (fun _ => false) m = 0 := fun m => by induction m with
  | zero => rfl
  | succ m ih => simp [cN, ih]
 have hfr : ∀ ρ f, Ab.fr ⟨fun _ => none, fun _ _ => none, fun _ _ => none, []⟩ ρ ≠ some f := fun ρ f h => by cases ρ <;> simp [Ab.fr] at h
 refine ⟨⟨⟨by simp, fun k r h => (by cases h), fun k r g h => (by cases h), fun k g q h => (by cases h), fun k p x h => (by cases h)⟩, ⟨fun ρ ρ' f h _ => absurd h (hfr ρ f), fun ρ f h => absurd h (hfr ρ f), by simp, fun k => ?_⟩, h1, by simp, fun k p x h => (by cases h), ⟨fun i j s s' a b u _ _ _ => ?_, fun s hs hu => ?_, by simp; omega, by simp; omega⟩⟩, Ob.ext' (fun _ _ => rfl) (fun _ _ => rfl) ?_⟩
 ·simp only [Option.isSome_none, Bool.false_eq_true, if_false, hz]
  unfold cnt
  rw [List.count_replicate]; simp
 ·have hs := List.mem_of_getElem? a
  rw [List.mem_replicate] at hs
  rw [hs.2] at u; cases u
 ·rw [List.mem_replicate] at hs
  rw [hs.2] at hu; cases hu
 ·show cnt (List.replicate n (-1)) (-1) = n
  unfold cnt; rw [List.count_replicate]; simp
end
end Go.Proofs.YtphljkplokjonaaGreat.Sp
namespace Go.Proofs.YtphljkplokjonaaGreat.Sp
open Go Go.Sl Go.RowKit Go.Proofs Go.Proofs.YtphljkplokjonaaGreat.T Go.Proofs.YtphljkplokjonaaGreat.Me Go.Proofs.YtphljkplokjonaaGreat.Pe Go.Proofs.YtphljkplokjonaaGreat.Pg Tryz
open Go.Proofs.YtphljkplokjonaaGreat.Fz (cnt cnt_set inv_take inv_give free_frame isP left left_in)
open Go.Proofs.YtphljkplokjonaaGreat.Tl (Slot hitB putL flushPL put_cases)
abbrev WG (m f t n : Nat) (qs : List Int) (σ : St) (Fr : List HProp) : List HProp := M m n σ.bs :: Fz.F f σ.own qs :: Tl.T t σ.l σ.hand σ.hits σ.miss :: Fr
abbrev sb (s k r m f t : Nat) : HProp := blk s [.int .i64 k, .int .i64 r, .pointer (some ⟨m, 0, none⟩), .pointer (some ⟨f, 0, none⟩), .pointer (some ⟨t, 0, none⟩)] 166
def vp (A : Ab) (k : Nat) (p : Int) : Option (Nat × Nat) := if 0 ≤ p ∧ p < 4096 then A.pg k p.toNat else none
theorem vp_in {A : Ab} {k p : Nat} (h : p < 4096) : vp A k p = A.pg k p := by unfold vp; rw [if_pos (by omega), Int.toNat_natCast]
theorem vp_out {A : Ab} {k : Nat} {p : Int} (h : ¬(0 ≤ p ∧ p < 4096)) : vp A k p = none := by unfold vp; rw [if_neg h]
theorem vp_cases (A : Ab) (k : Nat) (p : Int) : (∃ (q : Nat) (x : Nat × Nat), p = q ∧ q < 4096 ∧ A.pg k q = some x ∧ vp A k p = some x) ∨ (∃ q : Nat, p = q ∧ q < 4096 ∧ A.pg k q = none ∧ vp A k p = none) ∨ (¬(0 ≤ p ∧ p < 4096) ∧ vp A k p = none) := by
 by_cases h : 0 ≤ p ∧ p < 4096
 ·obtain ⟨q, rfl⟩ := Int.eq_ofNat_of_zero_le h.1
  rw [vp_in (by omega)]
  cases hx : A.pg k q with
  | none => exact .inr (.inl ⟨q, rfl, by omega, hx, rfl⟩)
  | some x => exact .inl ⟨q, x, rfl, by omega, hx, rfl⟩
 ·exact .inr (.inr ⟨h, vp_out h⟩)
def wV (A : Ab) (k : Nat) (p : Int) : Int × Int × Int := match vp A k p with | some x => (x.1, x.2, 0) | none => (0, 0, if 0 ≤ p ∧ p < 4096 then 90 else 2)
section
variable (W0 : World) (Fr : List HProp)
variable {n : Nat} {qs : List Int} {A : Ab} {σ : St} {k r s m f t : Nat}
theorem walk_ab (R : Rep n σ.bs A) (hk : A.rt k = some r) (p : Int) : Ctr prog W0 84 [.pointer (some ⟨m, 0, none⟩), .int .i64 r, .int .i64 p] (M m n σ.bs :: Fr) (fun _ : Unit => True) (fun _ => .tuple #[.int .i64 (wV A k p).1, .int .i64 (wV A k p).2.1, .int .i64 (wV A k p).2.2]) (fun _ => M m n σ.bs :: Fr) := by
 obtain ⟨t1, t2, t3⟩ := R.tree k r hk
 rcases vp_cases A k p with ⟨q, x, rfl, hq, hx, hv⟩ | ⟨q, rfl, hq, hx, hv⟩ | ⟨hp, hv⟩
 ·have hw := walkR_some (n := n) (bs := σ.bs) (root := r) (p := q) (by rw [t3 q hq, hx])
  have := Pg.walk_spec W0 Fr (m := m) (n := n) (root := r) (p := q) (bs := σ.bs) t1.rt hq
  rw [hw] at this
  unfold wV; rw [hv]; exact this
 ·have hw := walkR_none (n := n) (bs := σ.bs) (root := r) (p := q) (by rw [t3 q hq, hx])
  have := Pg.walk_spec W0 Fr (m := m) (n := n) (root := r) (p := q) (bs := σ.bs) t1.rt hq
  rw [hw] at this
  unfold wV; rw [hv, if_pos (by omega)]; exact this
 ·unfold wV; rw [hv, if_neg hp]
  exact Pg.walk_bad W0 Fr (.inr hp)
theorem there_spec (R : Rep n σ.bs A) (hk : A.rt k = some r) (p : Int) : Ctr prog W0 132 [.pointer (some ⟨s, 0, none⟩), .int .i64 p] (WG m f t n qs σ (sb s k r m f t :: Fr)) (fun _ : Unit => True) (fun _ => .bool (vp A k p).isSome) (fun _ => WG m f t n qs σ (sb s k r m f t :: Fr)) := by
 refine Ctr.of_body func132 J ntmps132 J (cZ (aZ (gZ J (fZ (bZ (cZ (qQ (.lo 0 1 (.lo 1 1 (.lo 2 1 (.lo 3 1 (.lo 4 1 (.lo 5 1 (.lo 6 1 (.lo 7 1 (.lo 8 1 (.eff1 9 false (.lo 10 1 (.lo 11 1 (.lo 12 1 (.lo 13 1 (.lo 14 1 (.lo 15 1 (.lo 16 1 (.done)))))))))))))))))) [9] [] ([]) ([]) mixed (by kernel_rfl) (Imp.none _) (Imp.none _) (nZ J J (dQ J J (wZ J fa166_2 J (hZ J (iZ ti111 J) ?_)))))))))))
 refine nZ J J (dQ J J (wZ J fa166_1 J (hZ J (iZ ti3 J) ?_)))
 refine nZ J J (aQ (rQ J J call84 J (iM) (walk_ab W0 _ (m := m) (n := n) (σ := σ) R hk p) J (fun _ => iM) (fun _ => Imp.refl _) (fun _ => iM) ?_))
 rintro ⟨⟩ -
 refine nZ J J (hZ J (xZ J J) (hZ J (xZ J J) (hZ J (xZ J J) (hZ J (jQ J) (hZ J (jQ J) (hZ J (jQ J) (pQ (bZ (cZ (aZ (eZ J ?_)))))))))))
 refine dZ (oQ (yQ J J) (v' := .bool (vp A k p).isSome) (by unfold wV; cases vp A k p with | some x => rfl | none => simp only; split <;> rfl)) ?_
 exact gZ J (fZ (bZ (rZ (yZ J J () trivial J iM))))
theorem perm_spec (R : Rep n σ.bs A) (hk : A.rt k = some r) (p : Int) : Ctr prog W0 29 [.pointer (some ⟨s, 0, none⟩), .int .i64 p] (WG m f t n qs σ (sb s k r m f t :: Fr)) (fun _ : Unit => True) (fun _ => .int .i64 (match vp A k p with | some x => (x.2 : Int) | none => 0)) (fun _ => WG m f t n qs σ (sb s k r m f t :: Fr)) := by
 refine Ctr.of_body func29 J ntmps29 J (cZ (aZ (gZ J (fZ (bZ (cZ (qQ (.lo 0 1 (.lo 1 1 (.lo 2 1 (.lo 3 1 (.lo 4 1 (.lo 5 1 (.lo 6 1 (.lo 7 1 (.lo 8 1 (.eff1 9 false (.lo 10 1 (.lo 11 1 (.lo 12 1 (.lo 13 1 (.lo 14 1 (.lo 15 1 (.lo 16 1 (.done)))))))))))))))))) [9] [] ([]) ([]) mixed (by kernel_rfl) (Imp.none _) (Imp.none _) (nZ J J (dQ J J (wZ J fa166_2 J (hZ J (iZ ti111 J) ?_)))))))))))
 refine nZ J J (dQ J J (wZ J fa166_1 J (hZ J (iZ ti3 J) ?_)))
 refine nZ J J (aQ (rQ J J call84 J (iM) (walk_ab W0 _ (m := m) (n := n) (σ := σ) R hk p) J (fun _ => iM) (fun _ => Imp.refl _) (fun _ => iM) ?_))
 rintro ⟨⟩ -
 refine nZ J J (hZ J (xZ J J) (hZ J (xZ J J) (hZ J (xZ J J) (hZ J (jQ J) (hZ J (jQ J) (hZ J (jQ J) (pQ (bZ (cZ (cZ ?_))))))))))
 rcases hv : vp A k p with _ | x
 ·have hw : wV A k p = (0, 0, if 0 ≤ p ∧ p < 4096 then 90 else 2) := by unfold wV; rw [hv]
  rw [hw]
  refine aZ (eZ J ?_)
  refine dZ (oQ (nX J J) (v' := .bool true) (by simp only; split <;> rfl)) ?_
  exact fZ (bZ (fQ J (cZ (aZ (gZ J (fZ (bZ (rZ (qZ (yZ J J () trivial J iM))))))))))
 ·have hw : wV A k p = ((x.1 : Int), (x.2 : Int), 0) := by unfold wV; rw [hv]
  rw [hw]
  exact aZ (eZ J (dZ (oQ (nX J J) (v' := .bool false) J) (fZ (bZ (vZ J (uZ (bZ (cZ (aZ (eZ J (gZ J (fZ (bZ (rZ (yZ J J () trivial J iM)))))))))))))))
theorem table_spec (R : Rep n σ.bs A) (hn : n ≤ 1024) (hk : A.rt k = some r) {p : Nat} (hp : p < 4096) : Ctr prog W0 133 [.pointer (some ⟨s, 0, none⟩), .int .i64 p] (WG m f t n qs σ (sb s k r m f t :: Fr)) (fun _ : Unit => True) (fun _ => .bool (A.tb k (p / 64)).isSome) (fun _ => WG m f t n qs σ (sb s k r m f t :: Fr)) := by
 have hi : p / 64 < 64 := by omega
 have hrn := R.rlt hk
 have hw := word_lt σ.bs r (p / 64)
 have hrw := R.rw k r (p / 64) hk hi
 refine Ctr.of_body func133 J ntmps133 J (cZ (aZ (gZ J (fZ (bZ (cZ (qQ (.lo 0 1 (.lo 1 1 (.lo 2 1 (.lo 3 1 (.lo 4 1 (.lo 5 1 (.lo 6 1 (.lo 7 1 (.lo 8 1 (.lo 9 1 (.lo 10 1 (.lo 11 1 (.lo 12 1 (.lo 13 1 (.eff1 14 false (.lo 15 1 (.lo 16 1 (.lo 17 1 (.lo 18 1 (.lo 19 1 (.done))))))))))))))))))))) [14] [] ([]) ([]) mixed (by kernel_rfl) (Imp.none _) (Imp.none _) (nZ J J (dQ J J (wZ J fa166_2 J (hZ J (iZ ti111 J) ?_)))))))))))
 refine nZ J J (dQ J J (wZ J fa166_1 J (hZ J (iZ ti3 J) ?_)))
 refine hZ J (rV J J wO) (nZ J J (hZ J (dV (c := ((p / 64 : Nat) : Int)) J J (by decide) (quo_nat (b := 64) (by decide) (by omega))) ?_))
 refine hZ J (rV J J wO) (hZ J (hQ J J wO) (hZ J (cQ (c := ((r * 256 + p / 64 * 4 : Nat) : Int)) underlying27 J J (by rw [show (r : Int) * 256 + ((p / 64 : Nat) : Int) * 4 = ((r * 256 + p / 64 * 4 : Nat) : Int) by omega]; exact wu32 (by omega) (by omega))) ?_))
 refine aQ (rQ J J call187 J (iM) (load_ok W0 _ (m := m) (n := n) (a := r * 256 + p / 64 * 4) (s := 4) (bs := σ.bs) (by omega) (by omega) (by omega)) J (fun _ => iM) (fun _ => Imp.refl _) (fun _ => iM) ?_)
 rintro ⟨⟩ -
 refine nZ J J (hZ J (xZ J J) (hZ J (xZ J J) (hZ J (jQ J) (hZ J (jQ J) (pQ (bZ (cZ (aZ (eZ J (dZ (cQ (c := (word σ.bs r (p / 64) : Int)) underlying27 J J (wu32 (by omega) (by show ((word σ.bs r (p / 64) : Nat) : Int) ≤ _; omega))) ?_))))))))))
 refine oZ call188 J (iM) (split_spec W0 _ (word σ.bs r (p / 64) : Int) (by omega) (by omega)) J ?_
 rintro ⟨⟩ -
 rw [split_sp, sp_ent]
 refine eZ J (dZ (xZ J J) (dZ (xZ J J) (dZ (xZ J J) (gZ J (gZ J (gZ J (fZ (bZ (cZ (aZ (eZ J (gZ J (fZ (bZ (rZ (yZ J J () trivial ?_ iM))))))))))))))))
 rw [← hrw]; cases ent (word σ.bs r (p / 64)) <;> rfl
theorem free_two (I : Fz.Inv σ.own qs) {qk : Int} (hqk : qs[k]? = some qk) (hc : (cnt σ.own k : Int) + 1 < qk) : 2 ≤ cnt σ.own (-1) := by
 obtain ⟨q, h1, h2⟩ := free_frame I hqk (by omega)
 have I1 := inv_take I hqk (by omega) h2
 obtain ⟨q2, h3, h4⟩ := free_frame I1 hqk (by rw [cnt_set h2, if_neg (show ¬ ((-1 : Int) = k) by omega), if_pos J]; omega)
 have := Fz.cnt_pos h4
 rw [cnt_set h2, if_pos J, if_neg (show ¬ ((k : Int) = -1) by omega)] at this
 omega
theorem room_spec (I : Fz.Inv σ.own qs) (hq : ∀ q ∈ qs, 0 ≤ q ∧ q ≤ 1024) {qk : Int} (hqk : qs[k]? = some qk) {d : Nat} (hd : d = 1 ∨ d = 2) : Ctr prog W0 134 [.pointer (some ⟨s, 0, none⟩), .int .i64 d] (WG m f t n qs σ (sb s k r m f t :: Fr)) (fun _ : Unit => True) (fun _ => .int .i64 (if qk - cnt σ.own k < d then 141 else 0)) (fun _ => WG m f t n qs σ (sb s k r m f t :: Fr)) := by
 have hl := left_in (own := σ.own) hqk
 have hfr : ¬ qk - cnt σ.own k < d → d ≤ cnt σ.own (-1) := fun h => by
  rcases hd with rfl | rfl
  ·obtain ⟨q, h1, h2⟩ := free_frame I hqk (by omega)
   exact Fz.cnt_pos h2
  ·exact free_two I hqk (by omega)
 refine Ctr.of_body func134 J ntmps134 J (cZ (aZ (gZ J (fZ (bZ (cZ (mQ (cZ (qQ (.lo 0 1 (.lo 1 1 (.lo 2 1 (.lo 3 1 (.lo 4 1 (.lo 5 1 (.lo 6 1 (.lo 7 1 (.lo 9 0 (.eff1 8 false (.lo 10 1 (.lo 11 1 (.done))))))))))))) [8] [] ([]) ([]) mixed (by kernel_rfl) (Imp.none _) (Imp.none _) (nZ J J (dQ J J (wZ J fa166_3 J (hZ J (iZ ti114 J) ?_)))))))))))))
 refine nZ J J (dQ J J (wZ J fa166_0 J (hZ J (iZ ti3 J) ?_)))
 refine nZ J J (aQ (rQ J J call171 J (iM) (Fz.left_spec W0 _ (f := f) (own := σ.own) (qs := qs) k hq) J (fun _ => iM) (fun _ => Imp.refl _) (fun _ => iM) ?_))
 rintro ⟨⟩ -
 rw [hl]
 refine hZ J (Yield.lss J J) (hZ J (jQ J) (pQ (bZ (lQ J (fun hc => ?_) (fun hc => ?_)))))
 ·try replace hc := odT hc
  exact cZ (aZ (gZ J (fZ (bZ (rZ (nQ (qZ (yZ J J () trivial (by rw [if_pos hc]) iM))))))))
 ·try replace hc := odF hc
  have hfr' := hfr hc
  refine cZ (aZ (eZ J (zZ J (pZ fa166_3 J (dZ (iZ ti114 J) ?_)))))
  refine oZ call189 J (iM) (Fz.free_spec W0 _ (f := f) (own := σ.own) (qs := qs)) J ?_
  rintro ⟨⟩ -
  refine eZ J (dZ eQ ?_)
  exact gZ J (fZ (bZ (vZ J (uZ (tZ (bZ (cZ (aZ (gZ J (fZ (bZ (rZ (yZ J J () trivial (by rw [if_neg hc]) iM)))))))))))))
theorem good_spec (p q : Int) : Ctr prog W0 131 [.int .i64 p, .int .i64 q] Fr (fun _ : Unit => True) (fun _ => .bool (decide ((0 ≤ p ∧ p < 4096) ∧ 1 ≤ q ∧ q ≤ 7))) (fun _ => Fr) := by
 refine Ctr.of_body func131 J ntmps131 J (cZ (aZ (gZ J (fZ (bZ (cZ ?_))))))
 rcases (show p < 0 ∨ (0 ≤ p ∧ ¬ p < 4096) ∨ ((0 ≤ p ∧ p < 4096) ∧ ¬ q ≥ 1) ∨ ((0 ≤ p ∧ p < 4096) ∧ q ≥ 1) by omega) with hh | hh | hh | hh
 ·refine aZ (eZ J (dZ cX ?_))
  refine eZ J (gQ J J J J J (gQ J J J J J (dZ mZ ?_)))
  refine eZ J (gQ J J J J J (gQ J J J J J (dZ mZ ?_)))
  refine eZ J (gQ J J J J J (gQ J J J J J (dZ mZ ?_)))
  exact gZ J (fZ (bZ (rZ (yZ J J () trivial (by rw [decide_eq_false (by omega)]) (Imp.refl _)))))
 ·refine aZ (eZ J (dZ cX ?_))
  refine eZ J (kZ J J (eZ J (kZ J J (dZ eQ ?_))))
  refine dZ mZ ?_
  refine eZ J (gQ J J J J J (gQ J J J J J (dZ mZ ?_)))
  refine eZ J (gQ J J J J J (gQ J J J J J (dZ mZ ?_)))
  exact gZ J (fZ (bZ (rZ (yZ J J () trivial (by rw [decide_eq_false (by omega)]) (Imp.refl _)))))
 ·refine aZ (eZ J (dZ cX ?_))
  refine eZ J (kZ J J (eZ J (kZ J J (dZ eQ ?_))))
  refine dZ mZ ?_
  refine eZ J (kZ J J (eZ J (kZ J J (dZ cX ?_))))
  refine dZ mZ ?_
  refine eZ J (gQ J J J J J (gQ J J J J J (dZ mZ ?_)))
  exact gZ J (fZ (bZ (rZ (yZ J J () trivial (by rw [decide_eq_false (by omega)]) (Imp.refl _)))))
 ·refine aZ (eZ J (dZ cX ?_))
  refine eZ J (kZ J J (eZ J (kZ J J (dZ eQ ?_))))
  refine dZ mZ ?_
  refine eZ J (kZ J J (eZ J (kZ J J (dZ cX ?_))))
  refine dZ mZ ?_
  refine eZ J (kZ J J (eZ J (kZ J J (dZ (Yield.leq J J) (dZ mZ ?_)))))
  exact gZ J (fZ (bZ (rZ (yZ J J () trivial (by rw [show decide ((0 ≤ p ∧ p < 4096) ∧ 1 ≤ q ∧ q ≤ 7) = decide (q ≤ 7) by simp [hh.1]; omega]) (Imp.refl _)))))
theorem take_spec (I : Fz.Inv σ.own qs) (hol : σ.own.length = n) (hq : ∀ q ∈ qs, 0 ≤ q ∧ q ≤ 1024) {qk : Int} (hqk : qs[k]? = some qk) (hc : (cnt σ.own k : Int) < qk) : Ctr prog W0 135 [.pointer (some ⟨s, 0, none⟩)] (WG m f t n qs σ (sb s k r m f t :: Fr)) (fun q : Nat => σ.own[q]? = some (-1)) (fun q => .int .i64 q) (fun q => WG m f t n qs { σ with bs := overB σ.bs (q * 256) (fillB []), own := σ.own.set q k } (sb s k r m f t :: Fr)) := by
 obtain ⟨q, h1, h2⟩ := free_frame I hqk hc
 have hl := left_in (own := σ.own) hqk
 have hqn : q < n := by rw [← hol]; exact (List.getElem?_eq_some_iff.1 h2).1
 have hkl := (List.getElem?_eq_some_iff.1 hqk).1
 refine Ctr.of_body func135 J ntmps135 J (cZ (aZ (gZ J (fZ (bZ (cZ (qQ (.lo 0 1 (.lo 1 1 (.lo 2 1 (.lo 3 1 (.lo 4 1 (.lo 5 1 (.lo 6 1 (.lo 7 1 (.eff1 8 false (.lo 9 1 (.lo 10 1 (.lo 11 1 (.lo 12 1 (.lo 13 1 (.done))))))))))))))) [8] [] ([]) ([]) mixed (by kernel_rfl) (Imp.none _) (Imp.none _) (nZ J J (dQ J J (wZ J fa166_3 J (hZ J (iZ ti114 J) ?_)))))))))))
 refine nZ J J (dQ J J (wZ J fa166_0 J (hZ J (iZ ti3 J) ?_)))
 refine aQ (rQ J J call122 J (iM) (Fz.take_ok W0 _ (f := f) (own := σ.own) (qs := qs) (n := q) k hq ⟨by omega, by omega⟩ (by rw [hl]; omega) h1) J (fun _ => iM) (fun _ => Imp.refl _) (fun _ => iM) ?_)
 rintro ⟨⟩ -
 refine nZ J J (hZ J (xZ J J) (hZ J (xZ J J) (hZ J (jQ J) (hZ J (jQ J) (pQ (bZ (cZ (cZ (aZ (eZ J (dZ vQ ?_)))))))))))
 refine fZ (bZ (vZ J (uZ (bZ (cZ (aZ (eZ J (zZ J (pZ fa166_2 J (dZ (iZ ti111 J) ?_))))))))))
 refine eZ J (oZ call90 J (iM) (fill_ok W0 _ (m := m) (n := n) (k := q) (bs := σ.bs) (ws := []) (a := none) (c2 := 0) (RdB.of_slR SlR.nil (Nat.le_refl _)) hqn (by decide)) J ?_)
 rintro ⟨⟩ -
 exact fZ (bZ (cZ (aZ (eZ J (gZ J (fZ (bZ (rZ (yZ J J q h2 J iM)))))))))
end
def Lk (n : Nat) (qs : List Int) (rt : Nat → Option Nat) (o : Ob) (c : Nat) (σ : St) : Prop := ∃ A, A.rt = rt ∧ A.hs = [] ∧ Good n qs A σ ∧ obs A σ = o ∧ σ.hits + σ.miss ≤ c
theorem Lk.intro {n : Nat} {qs : List Int} {A : Ab} {σ : St} {rt : Nat → Option Nat} {o : Ob} {c : Nat} (G : Good n qs A σ) (h1 : A.rt = rt) (h0 : A.hs = []) (e : obs A σ = o) (hc : σ.hits + σ.miss ≤ c) : Lk n qs rt o c σ := ⟨A, h1, h0, G, e, hc⟩
def used (o : Ob) (k : Nat) : Nat := 1 + cN (o.ts k) 64 + cN (fun p => (o.vw k p).isSome) 4096
theorem used_cnt {n : Nat} {qs : List Int} {A : Ab} {σ : St} {k r : Nat} (G : Good n qs A σ) (h0 : A.hs = []) (hk : A.rt k = some r) : cnt σ.own k = used (obs A σ) k := by
 rw [G.own.cnt k, h0, hk]
 unfold used obs
 simp only [Option.isSome_some, if_true, List.filter_nil, List.length_nil, Nat.add_zero]
 congr 1
 exact cN_congr _ fun q _ => by cases A.pg k q <;> rfl
def vI (o : Ob) (k : Nat) (p : Int) : Option (Nat × List UInt8) := if 0 ≤ p ∧ p < 4096 then o.vw k p.toNat else none
theorem vI_nat {o : Ob} {k q : Nat} (h : q < 4096) : vI o k q = o.vw k q := by unfold vI; rw [if_pos (by omega), Int.toNat_natCast]
def mapO (qk : Int) (o : Ob) (k : Nat) (p pm : Int) : Int × Ob :=
 if ¬((0 ≤ p ∧ p < 4096) ∧ 1 ≤ pm ∧ pm ≤ 7) then (2, o)
 else if (o.vw k p.toNat).isSome then (91, o)
 else if qk - used o k < (if o.ts k (p.toNat / 64) then 1 else 2 : Nat) then (141, o)
 else (0, ⟨up2 o.vw k p.toNat (some (pm.toNat, zs)), up2 o.ts k (p.toNat / 64) true, o.fr - (if o.ts k (p.toNat / 64) then 1 else 2)⟩)
def unmapO (o : Ob) (k : Nat) (p : Int) : Int × Ob :=
 if ¬(0 ≤ p ∧ p < 4096) then (2, o) else if (o.vw k p.toNat).isSome then (0, ⟨up2 o.vw k p.toNat none, o.ts, o.fr + 1⟩) else (90, o)
def protO (o : Ob) (k : Nat) (p pm : Int) : Int × Ob :=
 if ¬((0 ≤ p ∧ p < 4096) ∧ 1 ≤ pm ∧ pm ≤ 7) then (2, o) else match o.vw k p.toNat with
  | some x => (0, ⟨up2 o.vw k p.toNat (some (pm.toNat, x.2)), o.ts, o.fr⟩)
  | none => (90, o)
theorem up2_same {α : Type} {h : Nat → Nat → α} {k p : Nat} : up2 h k p (h k p) = h := by
 funext k' p'; unfold up2; split
 ·rename_i e; rw [e.1, e.2]
 ·rfl
section
variable (W0 : World) (Fr : List HProp)
variable {n : Nat} {qs : List Int} {rt : Nat → Option Nat} {o : Ob} {c : Nat} {σ : St} {k r s m f t : Nat}
theorem vw_obs {A : Ab} {k p : Nat} : (obs A σ).vw k p = (A.pg k p).map fun x => (x.2, frB σ.bs x.1) := rfl
theorem tab_of {A : Ab} (G : Good n qs A σ) (hk : A.rt k = some r) {p : Nat} {x : Nat × Nat} (hp : p < 4096) (hx : A.pg k p = some x) : ∃ q, A.tb k (p / 64) = some q ∧ wk n σ.bs r p = some x ∧ tab n σ.bs r (p / 64) = some q := by
 obtain ⟨t1, t2, t3⟩ := G.rep.tree k r hk
 have hw : wk n σ.bs r p = some x := by rw [t3 p hp, hx]
 obtain ⟨q, hq⟩ := wk_tab hw
 exact ⟨q, by rw [← t2 _ (by omega), hq], hw, hq⟩
theorem map_spec (L : Lk n qs rt o c σ) (hq : ∀ q ∈ qs, 0 ≤ q ∧ q ≤ 1024) {qk : Int} (hqk : qs[k]? = some qk) (hk : rt k = some r) (p pm : Int) : Ctr prog W0 72 [.pointer (some ⟨s, 0, none⟩), .int .i64 p, .int .i64 pm] (WG m f t n qs σ (sb s k r m f t :: Fr)) (fun σ' : St => Lk n qs rt (mapO qk o k p pm).2 c σ') (fun _ => .int .i64 (mapO qk o k p pm).1) (fun σ' => WG m f t n qs σ' (sb s k r m f t :: Fr)) := by
 have L0 := L
 obtain ⟨A, rfl, h0, G, rfl, hcc⟩ := L
 by_cases hg : (0 ≤ p ∧ p < 4096) ∧ 1 ≤ pm ∧ pm ≤ 7
 ·obtain ⟨q, rfl⟩ := Int.eq_ofNat_of_zero_le hg.1.1
  obtain ⟨mm, rfl⟩ := Int.eq_ofNat_of_zero_le (show 0 ≤ pm by omega)
  have hq4 : q < 4096 := by omega
  have hvp : vp A k q = A.pg k q := vp_in hq4
  have huc := used_cnt G h0 hk
  obtain ⟨t1, t2, t3⟩ := G.rep.tree k r hk
  have hn2 := G.n2
  cases hx : A.pg k q with
  | some x =>
   have e : mapO qk (obs A σ) k (q : Int) (mm : Int) = (91, obs A σ) := by
    unfold mapO; rw [if_neg (by omega), Int.toNat_natCast, if_pos (by rw [vw_obs, hx]; rfl)]
   rw [e]
   refine Ctr.of_body func72 J ntmps72 J (cZ (aZ (gZ J (fZ (bZ (cZ (mQ (cZ (aZ (eZ J (eZ J (oZ call131 J (iM) (good_spec W0 _ (q : Int) (mm : Int)) J ?_))))))))))))
   rintro ⟨⟩ -
   rw [decide_eq_true hg]
   refine dZ (iQ J) (gZ J (fZ (bZ (vZ J (cZ (aZ (eZ J (eZ J (oZ call132 J (iM) (there_spec W0 _ (A := A) (σ := σ) (r := r) (k := k) (m := m) (f := f) (t := t) (qs := qs) (s := s) G.rep hk (q : Int)) J ?_)))))))))
   rintro ⟨⟩ -
   rw [hvp, hx]
   exact gZ J (fZ (bZ (fQ J (cZ (aZ (gZ J (fZ (bZ (rZ (nQ (qZ (yZ J J σ L0 J iM))))))))))))
  | none =>
   have hvw : (obs A σ).vw k q = none := by rw [vw_obs, hx]; rfl
   by_cases hts : (A.tb k (q / 64)).isSome = true
   ·have hte : (obs A σ).ts k (q / 64) = true := hts
    by_cases hroom : qk - used (obs A σ) k < (1 : Nat)
    ·have e : mapO qk (obs A σ) k (q : Int) (mm : Int) = (141, obs A σ) := by
      unfold mapO; rw [if_neg (by omega), Int.toNat_natCast, if_neg (by rw [hvw]; simp), hte, if_pos J, if_pos hroom]
     rw [e]
     refine Ctr.of_body func72 J ntmps72 J (cZ (aZ (gZ J (fZ (bZ (cZ (mQ (cZ (aZ (eZ J (eZ J (oZ call131 J (iM) (good_spec W0 _ (q : Int) (mm : Int)) J ?_))))))))))))
     rintro ⟨⟩ -
     rw [decide_eq_true hg]
     refine dZ (iQ J) (gZ J (fZ (bZ (vZ J (cZ (aZ (eZ J (eZ J (oZ call132 J (iM) (there_spec W0 _ (A := A) (σ := σ) (r := r) (k := k) (m := m) (f := f) (t := t) (qs := qs) (s := s) G.rep hk (q : Int)) J ?_)))))))))
     rintro ⟨⟩ -
     rw [hvp, hx]
     refine gZ J (fZ (bZ (vZ J (uZ (tZ (bZ (cZ (aZ (gZ J (fZ (bZ (cZ (cZ (aZ (eZ J (eZ J (oZ call133 J (iM) (table_spec W0 _ (A := A) (σ := σ) (r := r) (k := k) (m := m) (f := f) (t := t) (qs := qs) (s := s) G.rep hn2.2 hk hq4) J ?_)))))))))))))))))
     rintro ⟨⟩ -
     rw [hts]
     refine dZ (iQ J) (fZ (bZ (vZ J (uZ (bZ (cZ (cZ (aZ (eZ J (eZ J (oZ call134 J (iM) (room_spec W0 _ (σ := σ) (r := r) (k := k) (m := m) (f := f) (t := t) (n := n) (s := s) (d := 1) G.inv hq hqk (.inl J)) J ?_)))))))))))
     rintro ⟨⟩ -
     rw [huc, if_pos hroom]
     refine gZ J (fZ (bZ (cZ (aZ (eZ J (dZ vQ ?_))))))
     exact fZ (bZ (fQ J (cZ (aZ (eZ J (gZ J (fZ (bZ (rZ (qZ (yZ J J σ L0 J iM)))))))))))
    ·have e : mapO qk (obs A σ) k (q : Int) (mm : Int) = (0, ⟨up2 (obs A σ).vw k q (some (mm, zs)), (obs A σ).ts, (obs A σ).fr - 1⟩) := by
      unfold mapO; rw [if_neg (by omega), Int.toNat_natCast, if_neg (by rw [hvw]; simp), hte, if_pos J, if_neg hroom, Int.toNat_natCast]
      congr 2
      rw [← hte, up2_same]
     rw [e]
     obtain ⟨tq, htq⟩ := Option.isSome_iff_exists.1 hts
     have hcq : (cnt σ.own k : Int) < qk := by omega
     refine Ctr.of_body func72 J ntmps72 J (cZ (aZ (gZ J (fZ (bZ (cZ (mQ (cZ (aZ (eZ J (eZ J (oZ call131 J (iM) (good_spec W0 _ (q : Int) (mm : Int)) J ?_))))))))))))
     rintro ⟨⟩ -
     rw [decide_eq_true hg]
     refine dZ (iQ J) (gZ J (fZ (bZ (vZ J (cZ (aZ (eZ J (eZ J (oZ call132 J (iM) (there_spec W0 _ (A := A) (σ := σ) (r := r) (k := k) (m := m) (f := f) (t := t) (qs := qs) (s := s) G.rep hk (q : Int)) J ?_)))))))))
     rintro ⟨⟩ -
     rw [hvp, hx]
     refine gZ J (fZ (bZ (vZ J (uZ (tZ (bZ (cZ (aZ (gZ J (fZ (bZ (cZ (cZ (aZ (eZ J (eZ J (oZ call133 J (iM) (table_spec W0 _ (A := A) (σ := σ) (r := r) (k := k) (m := m) (f := f) (t := t) (qs := qs) (s := s) G.rep hn2.2 hk hq4) J ?_)))))))))))))))))
     rintro ⟨⟩ -
     rw [hts]
     refine dZ (iQ J) (fZ (bZ (vZ J (uZ (bZ (cZ (cZ (aZ (eZ J (eZ J (oZ call134 J (iM) (room_spec W0 _ (σ := σ) (r := r) (k := k) (m := m) (f := f) (t := t) (n := n) (s := s) (d := 1) G.inv hq hqk (.inl J)) J ?_)))))))))))
     rintro ⟨⟩ -
     rw [huc, if_neg hroom]
     refine gZ J (fZ (bZ (cZ (aZ (eZ J (dZ vQ ?_))))))
     refine fZ (bZ (vZ J (uZ (bZ (cZ (aZ (gZ J (fZ (bZ (cZ (cZ (aZ (eZ J (dZ zX ?_))))))))))))))
     refine fZ (bZ (vZ J (uZ (bZ (cZ (qQ (.lo 0 0 (.lo 1 0 (.lo 2 0 (.lo 3 0 (.lo 4 0 (.lo 5 0 (.lo 6 0 (.lo 7 0 (.lo 8 0 (.lo 9 1 (.lo 11 0 (.lo 12 0 (.eff1 10 false (.eff1 13 false (.lo 14 1 (.lo 15 1 (.lo 16 1 (.lo 17 1 (.lo 18 1 (.done)))))))))))))))))))) [10, 13] [] ([sb s k r m f t]) ([]) mixed (by kernel_rfl) iM (Imp.none _) ?_))))))
     refine nZ J J (dQ J J (wZ J fa166_2 J (hZ J (iZ ti111 J) ?_)))
     refine nZ J J (dQ J J (wZ J fa166_1 J (hZ J (iZ ti3 J) ?_)))
     refine nZ J J (nZ J J (nZ J J (nZ J J (aQ (rQ J J call135 J (iM) (take_spec W0 _ (σ := σ) (r := r) (k := k) (m := m) (f := f) (t := t) (n := n) (s := s) G.inv G.ol hq hqk hcq) J (fun _ => iM) (fun _ => Imp.refl _) (fun _ => iM) ?_)))))
     rintro fr hfr
     obtain ⟨G2, e2⟩ := G.map1 h0 (m := mm) hk hq4 htq hx hfr (by omega) hqk hcq
     have hfn : fr < n := by rw [← G.ol]; exact (List.getElem?_eq_some_iff.1 hfr).1
     have hent := (sp_entry (f := fr) (p := mm) (by omega) (by omega)).1
     have R1 := G.rep.only (only_fill (bs := σ.bs) (ws := []) G.rep.len hfn (by decide)) (fun k' e => G.own.free hfr (.root k') e) (fun k' g e => G.own.free hfr (.tab k' g) e)
     have hset := setR_tab (n := n) (bs := overB σ.bs (fr * 256) (fillB [])) (root := r) (p := q) (e := (entryOf (fr : Int) mm).toNat) (q := tq) (spare := -1) (by rw [(R1.tree k r hk).2.1 _ (by omega), htq])
     refine aQ (rQ J J call136 J (iM) (Pg.set_spec W0 _ (m := m) (n := n) (root := r) (p := q) (e := (entryOf (fr : Int) mm).toNat) (f := (fr : Int)) (pm := (mm : Int)) (spare := -1) (bs := overB σ.bs (fr * 256) (fillB [])) t1.rt hq4 (by rw [hent]; rfl) (by rw [hent]; omega) (by omega)) J (fun _ => iM) (fun _ => Imp.refl _) (fun _ => iM) ?_)
     rintro ⟨⟩ -
     rw [hset]
     refine nZ J J (hZ J (xZ J J) (hZ J (xZ J J) (hZ J (jQ J) (hZ J (jQ J) (pQ (bZ (cZ (aZ (eZ J (gZ J (fZ (bZ (rZ ?_)))))))))))))
     have L' := Lk.intro G2 J h0 e2 hcc
     exact yZ J J _ L' J iM
   ·have htn : A.tb k (q / 64) = none := by cases h : A.tb k (q / 64) with | none => rfl | some _ => rw [h] at hts; exact absurd J hts
    have hte : (obs A σ).ts k (q / 64) = false := by show (A.tb k (q / 64)).isSome = false; rw [htn]; rfl
    by_cases hroom : qk - used (obs A σ) k < (2 : Nat)
    ·have e : mapO qk (obs A σ) k (q : Int) (mm : Int) = (141, obs A σ) := by
      unfold mapO; rw [if_neg (by omega), Int.toNat_natCast, if_neg (by rw [hvw]; simp), hte, if_neg (show ¬ (false = true) by decide), if_pos hroom]
     rw [e]
     refine Ctr.of_body func72 J ntmps72 J (cZ (aZ (gZ J (fZ (bZ (cZ (mQ (cZ (aZ (eZ J (eZ J (oZ call131 J (iM) (good_spec W0 _ (q : Int) (mm : Int)) J ?_))))))))))))
     rintro ⟨⟩ -
     rw [decide_eq_true hg]
     refine dZ (iQ J) (gZ J (fZ (bZ (vZ J (cZ (aZ (eZ J (eZ J (oZ call132 J (iM) (there_spec W0 _ (A := A) (σ := σ) (r := r) (k := k) (m := m) (f := f) (t := t) (qs := qs) (s := s) G.rep hk (q : Int)) J ?_)))))))))
     rintro ⟨⟩ -
     rw [hvp, hx]
     refine gZ J (fZ (bZ (vZ J (uZ (tZ (bZ (cZ (aZ (gZ J (fZ (bZ (cZ (cZ (aZ (eZ J (eZ J (oZ call133 J (iM) (table_spec W0 _ (A := A) (σ := σ) (r := r) (k := k) (m := m) (f := f) (t := t) (qs := qs) (s := s) G.rep hn2.2 hk hq4) J ?_)))))))))))))))))
     rintro ⟨⟩ -
     rw [htn]
     refine dZ (iQ J) (fZ (bZ (fQ J (aZ (gZ J (fZ (bZ (cZ (cZ (aZ (eZ J (eZ J (oZ call134 J (iM) (room_spec W0 _ (σ := σ) (r := r) (k := k) (m := m) (f := f) (t := t) (n := n) (s := s) (d := 2) G.inv hq hqk (.inr J)) J ?_)))))))))))))
     rintro ⟨⟩ -
     rw [huc, if_pos hroom]
     refine gZ J (fZ (bZ (cZ (aZ (eZ J (dZ vQ ?_))))))
     exact fZ (bZ (fQ J (cZ (aZ (eZ J (gZ J (fZ (bZ (rZ (qZ (yZ J J σ L0 J iM)))))))))))
    ·have e : mapO qk (obs A σ) k (q : Int) (mm : Int) = (0, ⟨up2 (obs A σ).vw k q (some (mm, zs)), up2 (obs A σ).ts k (q / 64) true, (obs A σ).fr - 2⟩) := by
      unfold mapO; rw [if_neg (by omega), Int.toNat_natCast, if_neg (by rw [hvw]; simp), hte, if_neg (show ¬ (false = true) by decide), if_neg hroom, Int.toNat_natCast]
     rw [e]
     have hcq : (cnt σ.own k : Int) + 1 < qk := by omega
     refine Ctr.of_body func72 J ntmps72 J (cZ (aZ (gZ J (fZ (bZ (cZ (mQ (cZ (aZ (eZ J (eZ J (oZ call131 J (iM) (good_spec W0 _ (q : Int) (mm : Int)) J ?_))))))))))))
     rintro ⟨⟩ -
     rw [decide_eq_true hg]
     refine dZ (iQ J) (gZ J (fZ (bZ (vZ J (cZ (aZ (eZ J (eZ J (oZ call132 J (iM) (there_spec W0 _ (A := A) (σ := σ) (r := r) (k := k) (m := m) (f := f) (t := t) (qs := qs) (s := s) G.rep hk (q : Int)) J ?_)))))))))
     rintro ⟨⟩ -
     rw [hvp, hx]
     refine gZ J (fZ (bZ (vZ J (uZ (tZ (bZ (cZ (aZ (gZ J (fZ (bZ (cZ (cZ (aZ (eZ J (eZ J (oZ call133 J (iM) (table_spec W0 _ (A := A) (σ := σ) (r := r) (k := k) (m := m) (f := f) (t := t) (qs := qs) (s := s) G.rep hn2.2 hk hq4) J ?_)))))))))))))))))
     rintro ⟨⟩ -
     rw [htn]
     refine dZ (iQ J) (fZ (bZ (fQ J (aZ (gZ J (fZ (bZ (cZ (cZ (aZ (eZ J (eZ J (oZ call134 J (iM) (room_spec W0 _ (σ := σ) (r := r) (k := k) (m := m) (f := f) (t := t) (n := n) (s := s) (d := 2) G.inv hq hqk (.inr J)) J ?_)))))))))))))
     rintro ⟨⟩ -
     rw [huc, if_neg hroom]
     refine gZ J (fZ (bZ (cZ (aZ (eZ J (dZ vQ ?_))))))
     refine fZ (bZ (vZ J (uZ (bZ (cZ (aZ (gZ J (fZ (bZ (cZ (cZ (aZ (eZ J (dZ zX ?_))))))))))))))
     refine fZ (bZ (fQ J (aZ (eZ J (oZ call135 J (iM) (take_spec W0 _ (σ := σ) (r := r) (k := k) (m := m) (f := f) (t := t) (n := n) (s := s) G.inv G.ol hq hqk (by omega)) J ?_)))))
     rintro tq htq
     have hqn : tq < n := by rw [← G.ol]; exact (List.getElem?_eq_some_iff.1 htq).1
     have I1 := inv_take G.inv hqk (by omega) htq
     have hc1 : (cnt (σ.own.set tq k) k : Int) < qk := by rw [cnt_set htq, if_neg (show ¬ ((-1 : Int) = k) by omega), if_pos J]; omega
     refine gZ J (fZ (bZ (cZ (qQ (.lo 0 0 (.lo 1 0 (.lo 2 0 (.lo 3 0 (.lo 4 0 (.lo 5 0 (.lo 6 0 (.lo 7 0 (.lo 8 0 (.lo 9 1 (.lo 11 0 (.lo 12 0 (.eff1 10 false (.eff1 13 false (.lo 14 1 (.lo 15 1 (.lo 16 1 (.lo 17 1 (.lo 18 1 (.done)))))))))))))))))))) [10, 13] [] ([sb s k r m f t]) ([]) mixed (by kernel_rfl) iM (Imp.none _) ?_))))
     refine nZ J J (dQ J J (wZ J fa166_2 J (hZ J (iZ ti111 J) ?_)))
     refine nZ J J (dQ J J (wZ J fa166_1 J (hZ J (iZ ti3 J) ?_)))
     refine nZ J J (nZ J J (nZ J J (nZ J J (aQ (rQ J J call135 J (iM) (take_spec W0 _ (σ := { σ with bs := overB σ.bs (tq * 256) (fillB []), own := σ.own.set tq k }) (r := r) (k := k) (m := m) (f := f) (t := t) (n := n) (s := s) I1 (by show (σ.own.set tq k).length = n; rw [List.length_set]; exact G.ol) hq hqk hc1) J (fun _ => iM) (fun _ => Imp.refl _) (fun _ => iM) ?_)))))
     rintro fr hfr
     dsimp only at hfr ⊢
     have hfn : fr < n := by have := (List.getElem?_eq_some_iff.1 hfr).1; rw [List.length_set, G.ol] at this; exact this
     have hne : fr ≠ tq := fun e => by subst e; rw [List.getElem?_set_self (by rw [G.ol]; exact hfn)] at hfr; have := Option.some.inj hfr; omega
     have hf0 : σ.own[fr]? = some (-1) := by rw [List.getElem?_set_ne (fun e => hne e.symm)] at hfr; exact hfr
     obtain ⟨G2, e2⟩ := G.map2 h0 (m := mm) hk hq4 htn hx htq hfr (by omega) hqk hcq
     have hent := (sp_entry (f := fr) (p := mm) (by omega) (by omega)).1
     have R1 := G.rep.only (only_fill (bs := σ.bs) (ws := []) G.rep.len hqn (by decide)) (fun k' e => G.own.free htq (.root k') e) (fun k' g e => G.own.free htq (.tab k' g) e)
     have R2 := R1.only (only_fill (bs := overB σ.bs (tq * 256) (fillB [])) (ws := []) R1.len hfn (by decide)) (fun k' e => G.own.free hf0 (.root k') e) (fun k' g e => G.own.free hf0 (.tab k' g) e)
     have hset := setR_new (n := n) (bs := overB (overB σ.bs (tq * 256) (fillB [])) (fr * 256) (fillB [])) (root := r) (p := q) (e := (entryOf (fr : Int) mm).toNat) (q := tq) (by rw [(R2.tree k r hk).2.1 _ (by omega), htn]) hqn
     refine aQ (rQ J J call136 J (iM) (Pg.set_spec W0 _ (m := m) (n := n) (root := r) (p := q) (e := (entryOf (fr : Int) mm).toNat) (f := (fr : Int)) (pm := (mm : Int)) (spare := (tq : Int)) (bs := overB (overB σ.bs (tq * 256) (fillB [])) (fr * 256) (fillB [])) t1.rt hq4 (by rw [hent]; rfl) (by rw [hent]; omega) (by omega)) J (fun _ => iM) (fun _ => Imp.refl _) (fun _ => iM) ?_)
     rintro ⟨⟩ -
     rw [hset]
     refine nZ J J (hZ J (xZ J J) (hZ J (xZ J J) (hZ J (jQ J) (hZ J (jQ J) (pQ (bZ (cZ (aZ (eZ J (gZ J (fZ (bZ (rZ ?_)))))))))))))
     have L' := Lk.intro G2 J h0 e2 hcc
     exact yZ J J _ L' J iM
 ·have e : mapO qk (obs A σ) k p pm = (2, obs A σ) := by unfold mapO; rw [if_pos hg]
  rw [e]
  refine Ctr.of_body func72 J ntmps72 J (cZ (aZ (gZ J (fZ (bZ (cZ (mQ (cZ (aZ (eZ J (eZ J (oZ call131 J (iM) (good_spec W0 _ p pm) J ?_))))))))))))
  rintro ⟨⟩ -
  rw [decide_eq_false hg]
  exact dZ (iQ J) (gZ J (fZ (bZ (fQ J (cZ (aZ (gZ J (fZ (bZ (rZ (nQ (qZ (yZ J J σ L0 J iM)))))))))))))
end
end Go.Proofs.YtphljkplokjonaaGreat.Sp
namespace Go.Proofs.YtphljkplokjonaaGreat.Sp
open Go Go.Sl Go.RowKit Go.Proofs Go.Proofs.YtphljkplokjonaaGreat.T Go.Proofs.YtphljkplokjonaaGreat.Me Go.Proofs.YtphljkplokjonaaGreat.Pe Go.Proofs.YtphljkplokjonaaGreat.Pg Tryz
open Go.Proofs.YtphljkplokjonaaGreat.Fz (cnt cnt_set inv_take inv_give free_frame isP isF left left_in)
open Go.Proofs.YtphljkplokjonaaGreat.Tl (Slot hitB putL flushPL put_cases)
section
variable (W0 : World) (Fr : List HProp)
variable {n : Nat} {qs : List Int} {rt : Nat → Option Nat} {o : Ob} {c : Nat} {σ : St} {k r s m f t : Nat}
theorem wV_some {A : Ab} {k q : Nat} {x : Nat × Nat} (hq : q < 4096) (hx : A.pg k q = some x) : wV A k q = ((x.1 : Int), (x.2 : Int), 0) := by unfold wV; rw [vp_in hq, hx]
theorem wV_none {A : Ab} {k q : Nat} (hq : q < 4096) (hx : A.pg k q = none) : wV A k q = (0, 0, 90) := by unfold wV; rw [vp_in hq, hx]; simp only; rw [if_pos (by omega)]
theorem wV_out {A : Ab} {k : Nat} {p : Int} (h : ¬(0 ≤ p ∧ p < 4096)) : wV A k p = (0, 0, 2) := by unfold wV; rw [vp_out h]; simp only; rw [if_neg h]
theorem unmap_spec (L : Lk n qs rt o c σ) {qk : Int} (hqk : qs[k]? = some qk) (hk : rt k = some r) (p : Int) : Ctr prog W0 211 [.pointer (some ⟨s, 0, none⟩), .int .i64 p] (WG m f t n qs σ (sb s k r m f t :: Fr)) (fun σ' : St => Lk n qs rt (unmapO o k p).2 c σ') (fun _ => .int .i64 (unmapO o k p).1) (fun σ' => WG m f t n qs σ' (sb s k r m f t :: Fr)) := by
 have L0 := L
 obtain ⟨A, rfl, h0, G, rfl, hcc⟩ := L
 have hkl := (List.getElem?_eq_some_iff.1 hqk).1
 rcases vp_cases A k p with ⟨q, x, rfl, hq4, hx, hv⟩ | ⟨q, rfl, hq4, hx, hv⟩ | ⟨hp, hv⟩
 ·have e : unmapO (obs A σ) k (q : Int) = (0, ⟨up2 (obs A σ).vw k q none, (obs A σ).ts, (obs A σ).fr + 1⟩) := by
   unfold unmapO; rw [if_neg (by omega), Int.toNat_natCast, if_pos (by rw [vw_obs, hx]; rfl)]
  rw [e]
  obtain ⟨tq, htq, hw, htb⟩ := tab_of G hk hq4 hx
  obtain ⟨G2, e2⟩ := G.unmap hk hq4 htq hx
  have hcl := clearR_some hw htb
  have hxn := G.plt hx
  have hown := G.own.ow (.page k q) x.1 (Good.pgf hx)
  have hwR := walkR_some hw
  have L' := Lk.intro G2 J h0 e2 hcc
  refine Ctr.of_body func211 J ntmps211 J (cZ (aZ (gZ J (fZ (bZ (cZ (qQ (.lo 0 1 (.lo 1 1 (.lo 2 1 (.lo 3 1 (.lo 4 1 (.lo 5 1 (.lo 6 1 (.lo 7 1 (.lo 8 1 (.eff1 9 false (.lo 10 1 (.lo 11 1 (.lo 12 1 (.lo 13 1 (.lo 14 1 (.lo 15 1 (.lo 16 1 (.done)))))))))))))))))) [9] [] ([]) ([]) mixed (by kernel_rfl) (Imp.none _) (Imp.none _) (nZ J J (dQ J J (wZ J fa166_2 J (hZ J (iZ ti111 J) ?_)))))))))))
  refine nZ J J (dQ J J (wZ J fa166_1 J (hZ J (iZ ti3 J) ?_)))
  refine nZ J J (aQ (rQ J J call84 J (iM) (walk_ab W0 _ (m := m) (n := n) (σ := σ) G.rep hk (q : Int)) J (fun _ => iM) (fun _ => Imp.refl _) (fun _ => iM) ?_))
  rintro ⟨⟩ -
  rw [wV_some hq4 hx]
  refine nZ J J (hZ J (xZ J J) (hZ J (xZ J J) (hZ J (xZ J J) (hZ J (jQ J) (hZ J (jQ J) (hZ J (jQ J) (pQ (bZ (cZ (cZ (aZ (eZ J (dZ vQ ?_)))))))))))))
  refine fZ (bZ (vZ J (uZ (bZ (cZ (qQ (.lo 0 1 (.lo 1 1 (.lo 2 1 (.lo 3 1 (.lo 4 1 (.lo 5 1 (.lo 6 1 (.lo 7 1 (.lo 8 1 (.eff1 9 false (.done))))))))))) [9] [] ([]) ([]) mixed (by kernel_rfl) (Imp.none _) (Imp.none _) (nZ J J (dQ J J (wZ J fa166_2 J (hZ J (iZ ti111 J) ?_))))))))))
  refine nZ J J (dQ J J (wZ J fa166_1 J (hZ J (iZ ti3 J) ?_)))
  refine nZ J J (aQ (rQ J J call226 J (iM) (Pg.clear_spec W0 _ (m := m) (n := n) (root := r) (p := q) (bs := σ.bs) (G.rep.rlt hk) hq4) J (fun _ => iM) (fun _ => Imp.refl _) (fun _ => iM) ?_))
  rintro ⟨⟩ -
  rw [hcl, hwR]
  refine pQ (bZ (cZ (qQ (.lo 0 1 (.lo 1 1 (.lo 2 1 (.lo 3 1 (.lo 4 1 (.lo 5 1 (.lo 6 1 (.lo 7 1 (.lo 8 1 (.eff1 9 false (.done))))))))))) [9] [] ([]) ([]) mixed (by kernel_rfl) (Imp.none _) (Imp.none _) (nZ J J (dQ J J (wZ J fa166_4 J (hZ J (iZ ti117 J) ?_)))))))
  refine nZ J J (dQ J J (wZ J fa166_0 J (hZ J (iZ ti3 J) ?_)))
  refine nZ J J (aQ (rQ J J call227 J (iM) (Tl.flushPage_spec W0 _ (t := t) (hand := σ.hand) (hits := σ.hits) (miss := σ.miss) (l := σ.l) (k : Int) (q : Int) G.tlb.ll) J (fun _ => iM) (fun _ => Imp.refl _) (fun _ => iM) ?_))
  rintro ⟨⟩ -
  refine pQ (bZ (cZ (aZ (eZ J (zZ J (pZ fa166_2 J (dZ (iZ ti111 J) ?_)))))))
  refine eZ J (oZ call90 J (iM) (fill_ok W0 _ (m := m) (n := n) (k := x.1) (bs := stW σ.bs tq (q % 64) 0) (ws := []) (a := none) (c2 := 0) (RdB.of_slR SlR.nil (Nat.le_refl _)) hxn (by decide)) J ?_)
  rintro ⟨⟩ -
  refine fZ (bZ (cZ (qQ (.lo 0 1 (.lo 1 1 (.lo 2 1 (.lo 3 1 (.lo 4 1 (.lo 5 1 (.lo 6 1 (.lo 7 1 (.lo 8 1 (.eff1 9 false (.lo 10 1 (.done)))))))))))) [9] [] ([]) ([]) mixed (by kernel_rfl) (Imp.none _) (Imp.none _) (nZ J J (dQ J J (wZ J fa166_3 J (hZ J (iZ ti114 J) ?_)))))))
  refine nZ J J (dQ J J (wZ J fa166_0 J (hZ J (iZ ti3 J) ?_)))
  refine nZ J J (aQ (rQ J J call228 J (iM) (Fz.give_ok W0 _ (f := f) (own := σ.own) (qs := qs) (k : Int) x.1 ⟨by omega, by omega⟩ hown) J (fun _ => iM) (fun _ => Imp.refl _) (fun _ => iM) ?_))
  rintro ⟨⟩ -
  exact hZ J (jQ J) (pQ (bZ (rZ (yZ J J _ L' J iM))))
 ·have e : unmapO (obs A σ) k (q : Int) = (90, obs A σ) := by
   unfold unmapO; rw [if_neg (by omega), Int.toNat_natCast, if_neg (by rw [vw_obs, hx]; simp)]
  rw [e]
  refine Ctr.of_body func211 J ntmps211 J (cZ (aZ (gZ J (fZ (bZ (cZ (qQ (.lo 0 1 (.lo 1 1 (.lo 2 1 (.lo 3 1 (.lo 4 1 (.lo 5 1 (.lo 6 1 (.lo 7 1 (.lo 8 1 (.eff1 9 false (.lo 10 1 (.lo 11 1 (.lo 12 1 (.lo 13 1 (.lo 14 1 (.lo 15 1 (.lo 16 1 (.done)))))))))))))))))) [9] [] ([]) ([]) mixed (by kernel_rfl) (Imp.none _) (Imp.none _) (nZ J J (dQ J J (wZ J fa166_2 J (hZ J (iZ ti111 J) ?_)))))))))))
  refine nZ J J (dQ J J (wZ J fa166_1 J (hZ J (iZ ti3 J) ?_)))
  refine nZ J J (aQ (rQ J J call84 J (iM) (walk_ab W0 _ (m := m) (n := n) (σ := σ) G.rep hk (q : Int)) J (fun _ => iM) (fun _ => Imp.refl _) (fun _ => iM) ?_))
  rintro ⟨⟩ -
  rw [wV_none hq4 hx]
  refine nZ J J (hZ J (xZ J J) (hZ J (xZ J J) (hZ J (xZ J J) (hZ J (jQ J) (hZ J (jQ J) (hZ J (jQ J) (pQ (bZ (cZ (cZ (aZ (eZ J (dZ vQ ?_)))))))))))))
  exact fZ (bZ (fQ J (cZ (aZ (eZ J (gZ J (fZ (bZ (rZ (qZ (yZ J J σ L0 J iM)))))))))))
 ·have e : unmapO (obs A σ) k p = (2, obs A σ) := by unfold unmapO; rw [if_pos hp]
  rw [e]
  refine Ctr.of_body func211 J ntmps211 J (cZ (aZ (gZ J (fZ (bZ (cZ (qQ (.lo 0 1 (.lo 1 1 (.lo 2 1 (.lo 3 1 (.lo 4 1 (.lo 5 1 (.lo 6 1 (.lo 7 1 (.lo 8 1 (.eff1 9 false (.lo 10 1 (.lo 11 1 (.lo 12 1 (.lo 13 1 (.lo 14 1 (.lo 15 1 (.lo 16 1 (.done)))))))))))))))))) [9] [] ([]) ([]) mixed (by kernel_rfl) (Imp.none _) (Imp.none _) (nZ J J (dQ J J (wZ J fa166_2 J (hZ J (iZ ti111 J) ?_)))))))))))
  refine nZ J J (dQ J J (wZ J fa166_1 J (hZ J (iZ ti3 J) ?_)))
  refine nZ J J (aQ (rQ J J call84 J (iM) (walk_ab W0 _ (m := m) (n := n) (σ := σ) G.rep hk p) J (fun _ => iM) (fun _ => Imp.refl _) (fun _ => iM) ?_))
  rintro ⟨⟩ -
  rw [wV_out hp]
  refine nZ J J (hZ J (xZ J J) (hZ J (xZ J J) (hZ J (xZ J J) (hZ J (jQ J) (hZ J (jQ J) (hZ J (jQ J) (pQ (bZ (cZ (cZ (aZ (eZ J (dZ vQ ?_)))))))))))))
  exact fZ (bZ (fQ J (cZ (aZ (eZ J (gZ J (fZ (bZ (rZ (qZ (yZ J J σ L0 J iM)))))))))))
theorem protect_spec (L : Lk n qs rt o c σ) (hk : rt k = some r) (p pm : Int) : Ctr prog W0 212 [.pointer (some ⟨s, 0, none⟩), .int .i64 p, .int .i64 pm] (WG m f t n qs σ (sb s k r m f t :: Fr)) (fun σ' : St => Lk n qs rt (protO o k p pm).2 c σ') (fun _ => .int .i64 (protO o k p pm).1) (fun σ' => WG m f t n qs σ' (sb s k r m f t :: Fr)) := by
 have L0 := L
 obtain ⟨A, rfl, h0, G, rfl, hcc⟩ := L
 by_cases hg : (0 ≤ p ∧ p < 4096) ∧ 1 ≤ pm ∧ pm ≤ 7
 ·obtain ⟨q, rfl⟩ := Int.eq_ofNat_of_zero_le hg.1.1
  obtain ⟨mm, rfl⟩ := Int.eq_ofNat_of_zero_le (show 0 ≤ pm by omega)
  have hq4 : q < 4096 := by omega
  cases hx : A.pg k q with
  | some x =>
   have e : protO (obs A σ) k (q : Int) (mm : Int) = (0, ⟨up2 (obs A σ).vw k q (some (mm, frB σ.bs x.1)), (obs A σ).ts, (obs A σ).fr⟩) := by
    unfold protO; rw [if_neg (by omega), Int.toNat_natCast, vw_obs, hx]; rfl
   rw [e]
   obtain ⟨tq, htq, hw, htb⟩ := tab_of G hk hq4 hx
   obtain ⟨G2, e2⟩ := G.protect (m := mm) hk hq4 htq hx (by omega)
   have hxn := G.plt hx
   have hn2 := G.n2
   have hent := (sp_entry (f := x.1) (p := mm) (by omega) (by omega)).1
   have hset := setR_tab (n := n) (bs := σ.bs) (root := r) (p := q) (e := (entryOf (x.1 : Int) mm).toNat) (q := tq) (spare := -1) htb
   have L' := Lk.intro G2 J h0 e2 hcc
   refine Ctr.of_body func212 J ntmps212 J (cZ (aZ (gZ J (fZ (bZ (cZ (cZ (aZ (eZ J (eZ J (oZ call131 J (iM) (good_spec W0 _ (q : Int) (mm : Int)) J ?_)))))))))))
   rintro ⟨⟩ -
   rw [decide_eq_true hg]
   refine dZ (iQ J) (fZ (bZ (vZ J (uZ (bZ (cZ (qQ (.lo 0 1 (.lo 1 1 (.lo 2 1 (.lo 3 1 (.lo 4 1 (.lo 5 1 (.lo 6 1 (.lo 7 1 (.lo 8 1 (.eff1 9 false (.lo 10 1 (.lo 11 1 (.lo 12 1 (.lo 13 1 (.lo 14 1 (.lo 15 1 (.lo 16 1 (.done)))))))))))))))))) [9] [] ([]) ([]) mixed (by kernel_rfl) (Imp.none _) (Imp.none _) (nZ J J (dQ J J (wZ J fa166_2 J (hZ J (iZ ti111 J) ?_)))))))))))
   refine nZ J J (dQ J J (wZ J fa166_1 J (hZ J (iZ ti3 J) ?_)))
   refine nZ J J (aQ (rQ J J call84 J (iM) (walk_ab W0 _ (m := m) (n := n) (σ := σ) G.rep hk (q : Int)) J (fun _ => iM) (fun _ => Imp.refl _) (fun _ => iM) ?_))
   rintro ⟨⟩ -
   rw [wV_some hq4 hx]
   refine nZ J J (hZ J (xZ J J) (hZ J (xZ J J) (hZ J (xZ J J) (hZ J (jQ J) (hZ J (jQ J) (hZ J (jQ J) (pQ (bZ (cZ (cZ (aZ (eZ J (dZ vQ ?_)))))))))))))
   refine fZ (bZ (vZ J (uZ (bZ (cZ (qQ (.lo 0 1 (.lo 1 1 (.lo 2 1 (.lo 3 1 (.lo 4 1 (.lo 5 1 (.lo 6 1 (.lo 7 1 (.lo 8 1 (.lo 9 1 (.lo 10 1 (.eff1 11 false (.done))))))))))))) [11] [] ([]) ([]) mixed (by kernel_rfl) (Imp.none _) (Imp.none _) (nZ J J (dQ J J (wZ J fa166_2 J (hZ J (iZ ti111 J) ?_))))))))))
   refine nZ J J (dQ J J (wZ J fa166_1 J (hZ J (iZ ti3 J) ?_)))
   refine nZ J J (nZ J J (nZ J J (aQ (rQ J J call136 J (iM) (Pg.set_spec W0 _ (m := m) (n := n) (root := r) (p := q) (e := (entryOf (x.1 : Int) mm).toNat) (f := (x.1 : Int)) (pm := (mm : Int)) (spare := -1) (bs := σ.bs) (G.rep.rlt hk) hq4 (by rw [hent]; rfl) (by rw [hent]; omega) (by omega)) J (fun _ => iM) (fun _ => Imp.refl _) (fun _ => iM) ?_))))
   rintro ⟨⟩ -
   rw [hset]
   refine pQ (bZ (cZ (qQ (.lo 0 1 (.lo 1 1 (.lo 2 1 (.lo 3 1 (.lo 4 1 (.lo 5 1 (.lo 6 1 (.lo 7 1 (.lo 8 1 (.eff1 9 false (.done))))))))))) [9] [] ([]) ([]) mixed (by kernel_rfl) (Imp.none _) (Imp.none _) (nZ J J (dQ J J (wZ J fa166_4 J (hZ J (iZ ti117 J) ?_)))))))
   refine nZ J J (dQ J J (wZ J fa166_0 J (hZ J (iZ ti3 J) ?_)))
   refine nZ J J (aQ (rQ J J call227 J (iM) (Tl.flushPage_spec W0 _ (t := t) (hand := σ.hand) (hits := σ.hits) (miss := σ.miss) (l := σ.l) (k : Int) (q : Int) G.tlb.ll) J (fun _ => iM) (fun _ => Imp.refl _) (fun _ => iM) ?_))
   rintro ⟨⟩ -
   exact pQ (bZ (cZ (aZ (gZ J (fZ (bZ (rZ (yZ J J _ L' J iM))))))))
  | none =>
   have e : protO (obs A σ) k (q : Int) (mm : Int) = (90, obs A σ) := by
    unfold protO; rw [if_neg (by omega), Int.toNat_natCast, vw_obs, hx]; rfl
   rw [e]
   refine Ctr.of_body func212 J ntmps212 J (cZ (aZ (gZ J (fZ (bZ (cZ (cZ (aZ (eZ J (eZ J (oZ call131 J (iM) (good_spec W0 _ (q : Int) (mm : Int)) J ?_)))))))))))
   rintro ⟨⟩ -
   rw [decide_eq_true hg]
   refine dZ (iQ J) (fZ (bZ (vZ J (uZ (bZ (cZ (qQ (.lo 0 1 (.lo 1 1 (.lo 2 1 (.lo 3 1 (.lo 4 1 (.lo 5 1 (.lo 6 1 (.lo 7 1 (.lo 8 1 (.eff1 9 false (.lo 10 1 (.lo 11 1 (.lo 12 1 (.lo 13 1 (.lo 14 1 (.lo 15 1 (.lo 16 1 (.done)))))))))))))))))) [9] [] ([]) ([]) mixed (by kernel_rfl) (Imp.none _) (Imp.none _) (nZ J J (dQ J J (wZ J fa166_2 J (hZ J (iZ ti111 J) ?_)))))))))))
   refine nZ J J (dQ J J (wZ J fa166_1 J (hZ J (iZ ti3 J) ?_)))
   refine nZ J J (aQ (rQ J J call84 J (iM) (walk_ab W0 _ (m := m) (n := n) (σ := σ) G.rep hk (q : Int)) J (fun _ => iM) (fun _ => Imp.refl _) (fun _ => iM) ?_))
   rintro ⟨⟩ -
   rw [wV_none hq4 hx]
   refine nZ J J (hZ J (xZ J J) (hZ J (xZ J J) (hZ J (xZ J J) (hZ J (jQ J) (hZ J (jQ J) (hZ J (jQ J) (pQ (bZ (cZ (cZ (aZ (eZ J (dZ vQ ?_)))))))))))))
   exact fZ (bZ (fQ J (cZ (aZ (eZ J (gZ J (fZ (bZ (rZ (qZ (yZ J J σ L0 J iM)))))))))))
 ·have e : protO (obs A σ) k p pm = (2, obs A σ) := by unfold protO; rw [if_pos hg]
  rw [e]
  refine Ctr.of_body func212 J ntmps212 J (cZ (aZ (gZ J (fZ (bZ (cZ (cZ (aZ (eZ J (eZ J (oZ call131 J (iM) (good_spec W0 _ p pm) J ?_)))))))))))
  rintro ⟨⟩ -
  rw [decide_eq_false hg]
  exact dZ (iQ J) (fZ (bZ (fQ J (cZ (aZ (gZ J (fZ (bZ (rZ (qZ (yZ J J σ L0 J iM)))))))))))
structure Fnd (n : Nat) (qs : List Int) (A : Ab) (σ σ' : St) : Prop where
 good : Good n qs A σ'
 bs : σ'.bs = σ.bs
 own : σ'.own = σ.own
 cnt : σ'.hits + σ'.miss ≤ σ.hits + σ.miss + 1
theorem find_spec {A : Ab} (G : Good n qs A σ) (hk : A.rt k = some r) (hb : σ.hits + σ.miss < 1000000000000000000) (p : Int) : Ctr prog W0 147 [.pointer (some ⟨s, 0, none⟩), .int .i64 p] (WG m f t n qs σ (sb s k r m f t :: Fr)) (fun σ' : St => Fnd n qs A σ σ') (fun _ => .tuple #[.int .i64 (wV A k p).1, .int .i64 (wV A k p).2.1, .bool (vp A k p).isSome]) (fun σ' => WG m f t n qs σ' (sb s k r m f t :: Fr)) := by
 cases hf : σ.l.findIdx? (hitB k p) with
 | some i =>
  have hi := (List.findIdx?_eq_some_iff_getElem.1 hf).1
  obtain ⟨sl, hs⟩ : ∃ sl, σ.l[i]? = some sl := ⟨_, List.getElem?_eq_getElem hi⟩
  have hpp : ∃ q : Nat, p = q := by
   obtain ⟨_, h4, _⟩ := List.findIdx?_eq_some_iff_getElem.1 hf
   rw [show σ.l[i] = sl by simpa [hi] using hs] at h4
   obtain ⟨a1, a2, a3⟩ := hit_iff.1 h4
   obtain ⟨k', p', x, b1, b2, b3⟩ := G.tlb.tr sl (List.mem_of_getElem? hs) a1
   exact ⟨p', by omega⟩
  obtain ⟨q, rfl⟩ := hpp
  obtain ⟨x, hx, hfr, hpm⟩ := G.tlb.hit hf hs
  have hq4 := (G.rep.pg0 k q x hx).1
  rw [wV_some hq4 hx, vp_in hq4, hx]
  refine Ctr.of_body func147 J ntmps147 J (cZ (aZ (gZ J (gZ J (gZ J (fZ (bZ (cZ (cZ (qQ (.lo 0 1 (.lo 1 1 (.lo 2 1 (.lo 3 1 (.lo 4 1 (.lo 5 1 (.lo 6 1 (.lo 7 1 (.lo 8 1 (.eff1 9 false (.lo 10 1 (.lo 11 1 (.lo 12 1 (.lo 13 1 (.lo 14 1 (.lo 15 1 (.lo 16 1 (.done)))))))))))))))))) [9] [] ([]) ([]) mixed (by kernel_rfl) (Imp.none _) (Imp.none _) (nZ J J (dQ J J (wZ J fa166_4 J (hZ J (iZ ti117 J) ?_))))))))))))))
  refine nZ J J (dQ J J (wZ J fa166_0 J (hZ J (iZ ti3 J) ?_)))
  refine nZ J J (aQ (rQ J J call195 J (iM) (Tl.look_hit W0 _ (t := t) (hand := σ.hand) (hits := σ.hits) (miss := σ.miss) (l := σ.l) (k : Int) (q : Int) G.tlb.ll (by omega) hf hs) J (fun _ => iM) (fun _ => Imp.refl _) (fun _ => iM) ?_))
  rintro ⟨⟩ -
  rw [hfr, hpm]
  refine nZ J J (hZ J (xZ J J) (hZ J (xZ J J) (hZ J (xZ J J) (hZ J (jQ J) (hZ J (jQ J) (hZ J (jQ J) (pQ (bZ (cZ (aZ (eZ J (fZ (bZ (fQ J (cZ (aZ (eZ J (eZ J (gZ J (gZ J (gZ J (fZ (bZ ?_)))))))))))))))))))))))
  refine rZ (qZ ?_)
  exact hX [.int .i64 x.1, .int .i64 x.2, .bool true] J ⟨rfl, rfl, rfl, trivial⟩ { σ with hits := σ.hits + 1, miss := σ.miss } ⟨G.count _ _, rfl, rfl, by simp only; omega⟩ J iM
 | none =>
  rcases vp_cases A k p with ⟨q, x, rfl, hq4, hx, hv⟩ | ⟨q, rfl, hq4, hx, hv⟩ | ⟨hp, hv⟩
  ·rw [wV_some hq4 hx, hv]
   refine Ctr.of_body func147 J ntmps147 J (cZ (aZ (gZ J (gZ J (gZ J (fZ (bZ (cZ (cZ (qQ (.lo 0 1 (.lo 1 1 (.lo 2 1 (.lo 3 1 (.lo 4 1 (.lo 5 1 (.lo 6 1 (.lo 7 1 (.lo 8 1 (.eff1 9 false (.lo 10 1 (.lo 11 1 (.lo 12 1 (.lo 13 1 (.lo 14 1 (.lo 15 1 (.lo 16 1 (.done)))))))))))))))))) [9] [] ([]) ([]) mixed (by kernel_rfl) (Imp.none _) (Imp.none _) (nZ J J (dQ J J (wZ J fa166_4 J (hZ J (iZ ti117 J) ?_))))))))))))))
   refine nZ J J (dQ J J (wZ J fa166_0 J (hZ J (iZ ti3 J) ?_)))
   refine nZ J J (aQ (rQ J J call195 J (iM) (Tl.look_miss W0 _ (t := t) (hand := σ.hand) (hits := σ.hits) (miss := σ.miss) (l := σ.l) (k : Int) (q : Int) G.tlb.ll (by omega) hf) J (fun _ => iM) (fun _ => Imp.refl _) (fun _ => iM) ?_))
   rintro ⟨⟩ -
   refine nZ J J (hZ J (xZ J J) (hZ J (xZ J J) (hZ J (xZ J J) (hZ J (jQ J) (hZ J (jQ J) (hZ J (jQ J) (pQ (bZ (cZ (aZ (eZ J (fZ (bZ (vZ J (uZ (bZ (cZ (qQ (.lo 0 1 (.lo 1 1 (.lo 2 1 (.lo 3 1 (.lo 4 1 (.lo 5 1 (.lo 6 1 (.lo 7 1 (.lo 8 1 (.eff1 9 false (.lo 10 1 (.lo 11 1 (.lo 12 1 (.lo 13 1 (.lo 14 1 (.lo 15 1 (.lo 16 1 (.done)))))))))))))))))) [9] [] ([]) ([]) mixed (by kernel_rfl) (Imp.none _) (Imp.none _) (nZ J J (dQ J J (wZ J fa166_2 J (hZ J (iZ ti111 J) ?_))))))))))))))))))))))
   refine nZ J J (dQ J J (wZ J fa166_1 J (hZ J (iZ ti3 J) ?_)))
   refine nZ J J (aQ (rQ J J call84 J (iM) (walk_ab W0 _ (m := m) (n := n) (σ := σ) G.rep hk (q : Int)) J (fun _ => iM) (fun _ => Imp.refl _) (fun _ => iM) ?_))
   rintro ⟨⟩ -
   rw [wV_some hq4 hx]
   refine nZ J J (hZ J (xZ J J) (hZ J (xZ J J) (hZ J (xZ J J) (hZ J (jQ J) (hZ J (jQ J) (hZ J (jQ J) (pQ (bZ (cZ (cZ (aZ (eZ J (dZ vQ ?_)))))))))))))
   refine fZ (bZ (vZ J (uZ (bZ (cZ (qQ (.lo 0 1 (.lo 1 1 (.lo 2 1 (.lo 3 1 (.lo 4 1 (.lo 5 1 (.lo 6 1 (.lo 7 1 (.lo 8 1 (.lo 9 1 (.lo 10 1 (.eff1 11 false (.done))))))))))))) [11] [] ([]) ([]) mixed (by kernel_rfl) (Imp.none _) (Imp.none _) (nZ J J (dQ J J (wZ J fa166_4 J (hZ J (iZ ti117 J) ?_))))))))))
   refine nZ J J (dQ J J (wZ J fa166_0 J (hZ J (iZ ti3 J) ?_)))
   refine nZ J J (nZ J J (nZ J J (aQ (rQ J J call196 J (iM) (Tl.put_spec W0 _ (t := t) (hand := σ.hand) (hits := σ.hits) (miss := σ.miss + 1) (l := σ.l) (k : Int) (q : Int) (x.1 : Int) (x.2 : Int) G.tlb.ll G.tlb.hh) J (fun _ => iM) (fun _ => Imp.refl _) (fun _ => iM) ?_))))
   rintro ⟨⟩ -
   refine pQ (bZ (cZ (aZ (eZ J (eZ J (gZ J (gZ J (gZ J (fZ (bZ (rZ ?_)))))))))))
   exact hX [.int .i64 x.1, .int .i64 x.2, .bool true] J ⟨rfl, rfl, rfl, trivial⟩ { σ with l := (putL σ.l σ.hand ⟨true, k, q, x.1, x.2⟩).1, hand := (putL σ.l σ.hand ⟨true, k, q, x.1, x.2⟩).2, hits := σ.hits, miss := σ.miss + 1 } ⟨G.find hx _ _, rfl, rfl, by simp only; omega⟩ J iM
  ·rw [wV_none hq4 hx, hv]
   refine Ctr.of_body func147 J ntmps147 J (cZ (aZ (gZ J (gZ J (gZ J (fZ (bZ (cZ (cZ (qQ (.lo 0 1 (.lo 1 1 (.lo 2 1 (.lo 3 1 (.lo 4 1 (.lo 5 1 (.lo 6 1 (.lo 7 1 (.lo 8 1 (.eff1 9 false (.lo 10 1 (.lo 11 1 (.lo 12 1 (.lo 13 1 (.lo 14 1 (.lo 15 1 (.lo 16 1 (.done)))))))))))))))))) [9] [] ([]) ([]) mixed (by kernel_rfl) (Imp.none _) (Imp.none _) (nZ J J (dQ J J (wZ J fa166_4 J (hZ J (iZ ti117 J) ?_))))))))))))))
   refine nZ J J (dQ J J (wZ J fa166_0 J (hZ J (iZ ti3 J) ?_)))
   refine nZ J J (aQ (rQ J J call195 J (iM) (Tl.look_miss W0 _ (t := t) (hand := σ.hand) (hits := σ.hits) (miss := σ.miss) (l := σ.l) (k : Int) (q : Int) G.tlb.ll (by omega) hf) J (fun _ => iM) (fun _ => Imp.refl _) (fun _ => iM) ?_))
   rintro ⟨⟩ -
   refine nZ J J (hZ J (xZ J J) (hZ J (xZ J J) (hZ J (xZ J J) (hZ J (jQ J) (hZ J (jQ J) (hZ J (jQ J) (pQ (bZ (cZ (aZ (eZ J (fZ (bZ (vZ J (uZ (bZ (cZ (qQ (.lo 0 1 (.lo 1 1 (.lo 2 1 (.lo 3 1 (.lo 4 1 (.lo 5 1 (.lo 6 1 (.lo 7 1 (.lo 8 1 (.eff1 9 false (.lo 10 1 (.lo 11 1 (.lo 12 1 (.lo 13 1 (.lo 14 1 (.lo 15 1 (.lo 16 1 (.done)))))))))))))))))) [9] [] ([]) ([]) mixed (by kernel_rfl) (Imp.none _) (Imp.none _) (nZ J J (dQ J J (wZ J fa166_2 J (hZ J (iZ ti111 J) ?_))))))))))))))))))))))
   refine nZ J J (dQ J J (wZ J fa166_1 J (hZ J (iZ ti3 J) ?_)))
   refine nZ J J (aQ (rQ J J call84 J (iM) (walk_ab W0 _ (m := m) (n := n) (σ := σ) G.rep hk (q : Int)) J (fun _ => iM) (fun _ => Imp.refl _) (fun _ => iM) ?_))
   rintro ⟨⟩ -
   rw [wV_none hq4 hx]
   refine nZ J J (hZ J (xZ J J) (hZ J (xZ J J) (hZ J (xZ J J) (hZ J (jQ J) (hZ J (jQ J) (hZ J (jQ J) (pQ (bZ (cZ (cZ (aZ (eZ J (dZ vQ ?_)))))))))))))
   refine fZ (bZ (fQ J (cZ (aZ (gZ J (gZ J (gZ J (fZ (bZ (rZ (qZ ?_)))))))))))
   exact hX [.int .i64 0, .int .i64 0, .bool false] J ⟨rfl, rfl, rfl, trivial⟩ { σ with hits := σ.hits, miss := σ.miss + 1 } ⟨G.count _ _, rfl, rfl, by simp only; omega⟩ J iM
  ·rw [wV_out hp, hv]
   refine Ctr.of_body func147 J ntmps147 J (cZ (aZ (gZ J (gZ J (gZ J (fZ (bZ (cZ (cZ (qQ (.lo 0 1 (.lo 1 1 (.lo 2 1 (.lo 3 1 (.lo 4 1 (.lo 5 1 (.lo 6 1 (.lo 7 1 (.lo 8 1 (.eff1 9 false (.lo 10 1 (.lo 11 1 (.lo 12 1 (.lo 13 1 (.lo 14 1 (.lo 15 1 (.lo 16 1 (.done)))))))))))))))))) [9] [] ([]) ([]) mixed (by kernel_rfl) (Imp.none _) (Imp.none _) (nZ J J (dQ J J (wZ J fa166_4 J (hZ J (iZ ti117 J) ?_))))))))))))))
   refine nZ J J (dQ J J (wZ J fa166_0 J (hZ J (iZ ti3 J) ?_)))
   refine nZ J J (aQ (rQ J J call195 J (iM) (Tl.look_miss W0 _ (t := t) (hand := σ.hand) (hits := σ.hits) (miss := σ.miss) (l := σ.l) (k : Int) p G.tlb.ll (by omega) hf) J (fun _ => iM) (fun _ => Imp.refl _) (fun _ => iM) ?_))
   rintro ⟨⟩ -
   refine nZ J J (hZ J (xZ J J) (hZ J (xZ J J) (hZ J (xZ J J) (hZ J (jQ J) (hZ J (jQ J) (hZ J (jQ J) (pQ (bZ (cZ (aZ (eZ J (fZ (bZ (vZ J (uZ (bZ (cZ (qQ (.lo 0 1 (.lo 1 1 (.lo 2 1 (.lo 3 1 (.lo 4 1 (.lo 5 1 (.lo 6 1 (.lo 7 1 (.lo 8 1 (.eff1 9 false (.lo 10 1 (.lo 11 1 (.lo 12 1 (.lo 13 1 (.lo 14 1 (.lo 15 1 (.lo 16 1 (.done)))))))))))))))))) [9] [] ([]) ([]) mixed (by kernel_rfl) (Imp.none _) (Imp.none _) (nZ J J (dQ J J (wZ J fa166_2 J (hZ J (iZ ti111 J) ?_))))))))))))))))))))))
   refine nZ J J (dQ J J (wZ J fa166_1 J (hZ J (iZ ti3 J) ?_)))
   refine nZ J J (aQ (rQ J J call84 J (iM) (walk_ab W0 _ (m := m) (n := n) (σ := σ) G.rep hk p) J (fun _ => iM) (fun _ => Imp.refl _) (fun _ => iM) ?_))
   rintro ⟨⟩ -
   rw [wV_out hp]
   refine nZ J J (hZ J (xZ J J) (hZ J (xZ J J) (hZ J (xZ J J) (hZ J (jQ J) (hZ J (jQ J) (hZ J (jQ J) (pQ (bZ (cZ (cZ (aZ (eZ J (dZ vQ ?_)))))))))))))
   refine fZ (bZ (fQ J (cZ (aZ (gZ J (gZ J (gZ J (fZ (bZ (rZ (qZ ?_)))))))))))
   exact hX [.int .i64 0, .int .i64 0, .bool false] J ⟨rfl, rfl, rfl, trivial⟩ { σ with hits := σ.hits, miss := σ.miss + 1 } ⟨G.count _ _, rfl, rfl, by simp only; omega⟩ J iM
end
end Go.Proofs.YtphljkplokjonaaGreat.Sp
namespace Go.Proofs.YtphljkplokjonaaGreat.Sp
open Go Go.Sl Go.RowKit Go.Proofs Go.Proofs.YtphljkplokjonaaGreat.T Go.Proofs.YtphljkplokjonaaGreat.Me Go.Proofs.YtphljkplokjonaaGreat.Pe Go.Proofs.YtphljkplokjonaaGreat.Pg
open Go.Proofs.YtphljkplokjonaaGreat.Fz (cnt cnt_set inv_take inv_give free_frame isP isF left left_in)
open Go.Proofs.YtphljkplokjonaaGreat.Tl (Slot hitB putL flushPL put_cases)
abbrev may (pm : Nat) (how : Int) : Prop := Go.bits .and .i64 (pm : Int) how = how
section
variable (W0 : World) (Fr : List HProp)
variable {n : Nat} {qs : List Int} {rt : Nat → Option Nat} {o : Ob} {c : Nat} {σ : St} {k r s m f t : Nat}
end
end Go.Proofs.YtphljkplokjonaaGreat.Sp
namespace Go.Proofs.YtphljkplokjonaaGreat.Ms
open Go Go.Sl Go.RowKit Go.Proofs Go.Proofs.YtphljkplokjonaaGreat.T
abbrev B := List UInt8
structure Msg where
 a : Option Addr
 c : Nat
 b : B
def Msg.cell (m : Msg) : Value := .slice m.a m.b.length m.c
abbrev Msg.own (m : Msg) : HProp := oby 5 m.a m.c m.b
abbrev pool (ms : List Msg) : HProp := Star (ms.map Msg.own)
def Msg.nil : Msg := ⟨none, 0, []⟩
theorem own_nil {G : List HProp} : Imp G (Msg.nil.own :: G) := oby_nil
theorem pool_nil {G : List HProp} : Imp G (pool [] :: G) := star_nil
theorem pool_add {G : List HProp} {m : Msg} {ms : List Msg} : Imp (m.own :: pool ms :: G) (pool (ms ++ [m]) :: G) := by
 have h := star_add (L := ms.map Msg.own) (A := m.own) (G := G)
 unfold pool; rw [List.map_append]; exact h
theorem pool_rd {W0 : World} {G R : List HProp} {ms : List Msg} (x : Ext G (pool ms) R) {m : Msg} (h : m ∈ ms) : RdB W0 G m.a m.c m.b :=
 RdB.of_star (E := 5) x (List.mem_map_of_mem h)
theorem set_self {α : Type} {l : List α} {i : Nat} {x : α} (h : l[i]? = some x) : l.set i x = l := by
 obtain ⟨hi, rfl⟩ := List.getElem?_eq_some_iff.1 h
 exact List.set_getElem_self hi
def intsV (k : IntKind) (l : List Int) : List Value := l.map (Value.int k)
theorem intsV_len (k : IntKind) (l : List Int) : (intsV k l).length = l.length := by simp [intsV]
theorem intsV_ones (k : IntKind) (l : List Int) : ∀ v ∈ intsV k l, one v = true := by intro v hv; unfold intsV at hv; rw [List.mem_map] at hv; obtain ⟨x, _, rfl⟩ := hv; rfl
theorem intsV_get {k : IntKind} {l : List Int} {i : Nat} {x : Int} (h : l[i]? = some x) : (intsV k l)[i]? = some (.int k x) := by unfold intsV; rw [List.getElem?_map, h]; rfl
theorem intsV_app (k : IntKind) (l : List Int) (x : Int) : intsV k (l ++ [x]) = intsV k l ++ [.int k x] := by simp [intsV]
abbrev onum (E : Nat) (k : IntKind) (a : Option Addr) (c : Nat) (l : List Int) : HProp := osl E 1 a c l.length (intsV k l)
theorem onum_app (E : Nat) (k : IntKind) (a : Option Addr) (c : Nat) (l : List Int) (x : Int) : onum E k a c (l ++ [x]) = osl E 1 a c (l.length + 1) (intsV k l ++ [.int k x]) := by unfold onum; rw [List.length_append, intsV_app]; rfl
theorem flat_ones {α : Type} {f : α → List Value} (hf : ∀ x, ∀ v ∈ f x, Sl.one v = true) (l : List α) : ∀ v ∈ (l.map f).flatten, Sl.one v = true := by
 intro v hv
 obtain ⟨x, hx, hvx⟩ := List.mem_flatten.1 hv
 obtain ⟨y, _, rfl⟩ := List.mem_map.1 hx
 exact hf y v hvx
theorem flat_app {α : Type} (f : α → List Value) (l : List α) (x : α) : ((l ++ [x]).map f).flatten = (l.map f).flatten ++ f x := by simp
end Go.Proofs.YtphljkplokjonaaGreat.Ms
namespace Go.Proofs.YtphljkplokjonaaGreat.Sp
open Go Go.Sl Go.RowKit Go.Proofs Go.Proofs.YtphljkplokjonaaGreat.T Go.Proofs.YtphljkplokjonaaGreat.Me Go.Proofs.YtphljkplokjonaaGreat.Pe Go.Proofs.YtphljkplokjonaaGreat.Pg Tryz
open Go.Proofs.YtphljkplokjonaaGreat.Fz (cnt cnt_set inv_take inv_give free_frame isP isF left left_in)
open Go.Proofs.YtphljkplokjonaaGreat.Tl (Slot hitB putL flushPL put_cases)
def pvTo (o : Ob) (k : Nat) : Nat → List (Nat × Nat × List UInt8)
 | 0 => []
 | p + 1 => pvTo o k p ++ match o.vw k p with | some x => [(p, x.1, x.2)] | none => []
abbrev pvs (o : Ob) (k : Nat) : List (Nat × Nat × List UInt8) := pvTo o k 4096
structure PV where
 p : Nat
 pm : Nat
 a : Option Addr
 c : Nat
 b : List UInt8
def PV.v (x : PV) : Nat × Nat × List UInt8 := (x.p, x.pm, x.b)
def PV.cells (x : PV) : List Value := [.int .i64 x.p, .int .i64 x.pm, .slice x.a x.b.length x.c]
theorem PV.len (x : PV) : x.cells.length = 3 := rfl
theorem PV.ones (x : PV) : ∀ v ∈ x.cells, one v = true := by simp [PV.cells, one]
abbrev PVL (a : Option Addr) (c : Nat) (l : List PV) : List HProp := [osl 180 3 a c l.length ((l.map PV.cells).flatten), Star (l.map fun x => oby 261 x.a x.c x.b)]
abbrev PLO (b : Nat) (z : Option Addr × Nat × List PV) : List HProp := [blk b [.slice z.1 z.2.2.length z.2.1] 36, osl 180 3 z.1 z.2.1 z.2.2.length ((z.2.2.map PV.cells).flatten), Star (z.2.2.map fun x => oby 261 x.a x.c x.b)]
def PL (b : Nat) (l : List (Nat × Nat × List UInt8)) : HProp := fun h => ∃ z : Option Addr × Nat × List PV, z.2.2.map PV.v = l ∧ Star (PLO b z) h
theorem pl_open {b : Nat} {l : List (Nat × Nat × List UInt8)} (y : Heaplet) (h : PL b l y) : ∃ z, z.2.2.map PV.v = l ∧ Star (PLO b z) y := h
theorem pl_close {b : Nat} {l : List (Nat × Nat × List UInt8)} {G : List HProp} (z : Option Addr × Nat × List PV) (hl : z.2.2.map PV.v = l) : Imp (PLO b z ++ G) (PL b l :: G) :=
 Imp.trans star_close (Imp.head fun y hy => ⟨z, hl, hy⟩)
theorem pvTo_len (o : Ob) (k : Nat) : ∀ p, (pvTo o k p).length = cN (fun q => (o.vw k q).isSome) p
 | 0 => rfl
 | p + 1 => by unfold pvTo cN; rw [List.length_append, pvTo_len o k p]; cases o.vw k p <;> rfl
theorem pages_pv {n : Nat} {qs : List Int} {A : Ab} {σ : St} {k r : Nat} (G : Good n qs A σ) (hk : A.rt k = some r) : ∀ p, p ≤ 4096 → (pagesTo n σ.bs r p).map (·.1) = (pvTo (obs A σ) k p).map (·.1) ∧ (pagesTo n σ.bs r p).length = (pvTo (obs A σ) k p).length ∧ ∀ (j q : Nat) (f : Int), (pagesTo n σ.bs r p)[j]? = some (q, f) → ∃ x, A.pg k q = some x ∧ f = (x.1 : Int) ∧ q < 4096 ∧ (pvTo (obs A σ) k p)[j]? = some (q, x.2, frB σ.bs x.1)
 | 0, _ => ⟨rfl, rfl, fun j q f h => by cases h⟩
 | p + 1, hp => by
  obtain ⟨h1, h2, h3⟩ := pages_pv G hk p (by omega)
  have e := (G.rep.tree k r hk).2.2 p (by omega)
  rw [pagesTo, pl_wk, e]
  unfold pvTo
  rw [vw_obs]
  cases hx : A.pg k p with
  | none => simp only [Option.map_none, List.append_nil]; exact ⟨h1, h2, h3⟩
  | some x =>
   simp only [Option.map_some]
   refine ⟨by simp [h1], by simp [h2], fun j q f hj => ?_⟩
   rcases Nat.lt_or_ge j (pagesTo n σ.bs r p).length with hlt | hge
   ·rw [List.getElem?_append_left hlt] at hj
    obtain ⟨y, y1, y2, y3, y4⟩ := h3 j q f hj
    exact ⟨y, y1, y2, y3, by rw [List.getElem?_append_left (by omega)]; exact y4⟩
   ·rw [List.getElem?_append_right hge] at hj
    have hj0 : j - (pagesTo n σ.bs r p).length = 0 := by
     cases hd : j - (pagesTo n σ.bs r p).length with
     | zero => rfl
     | succ i => rw [hd] at hj; cases hj
    rw [hj0] at hj
    simp only [List.getElem?_cons_zero, Option.some.injEq, Prod.mk.injEq] at hj
    obtain ⟨rfl, rfl⟩ := hj
    exact ⟨x, hx, rfl, by omega, by rw [List.getElem?_append_right (by omega), show j - (pvTo (obs A σ) k p).length = 0 by omega]; rfl⟩
section
variable (W0 : World) (Fr : List HProp)
variable {n : Nat} {qs : List Int} {rt : Nat → Option Nat} {o : Ob} {c : Nat} {σ : St} {k r s m f t : Nat}
theorem cnt_new {A : Ab} (G : Good n qs A σ) (h0 : A.hs = []) (hk : A.rt k = none) : cnt σ.own k = 0 := by
 have hz : ∀ (g : Nat → Bool) m, (∀ q, g q = false) → cN g m = 0 := fun g m hg => by
  induction m with
  | zero => rfl
  | succ m ih => simp [cN, ih, hg]
 have ht : ∀ q, (A.tb k q).isSome = false := fun q => by
  cases h : A.tb k q with
  | none => rfl
  | some y => obtain ⟨_, r, hr⟩ := G.rep.tb0 k q y h; rw [hk] at hr; cases hr
 have hp : ∀ q, (A.pg k q).isSome = false := fun q => by
  cases h : A.pg k q with
  | none => rfl
  | some y => obtain ⟨_, r, hr⟩ := G.rep.pg0 k q y h; rw [hk] at hr; cases hr
 rw [G.own.cnt k, hk, h0, hz _ 64 ht, hz _ 4096 hp]
 rfl
theorem new_ok (L : Lk n qs rt o c σ) (hq : ∀ q ∈ qs, 0 ≤ q ∧ q ≤ 1024) {qk : Int} (hqk : qs[k]? = some qk) (hk : rt k = none) (h0 : 0 < qk) : Ctr prog W0 53 [.int .i64 k, .pointer (some ⟨m, 0, none⟩), .pointer (some ⟨f, 0, none⟩), .pointer (some ⟨t, 0, none⟩)] (WG m f t n qs σ Fr) (fun x : Nat × Nat × St => Lk n qs (fun k' => if k' = k then some x.2.1 else rt k') ⟨o.vw, o.ts, o.fr - 1⟩ c x.2.2) (fun x => .tuple #[.pointer (some ⟨x.1, 0, none⟩), .int .i64 0]) (fun x => WG m f t n qs x.2.2 (sb x.1 k x.2.1 m f t :: Fr)) := by
 obtain ⟨A, rfl, hh, G, rfl, hcc⟩ := L
 have hl := left_in (own := σ.own) hqk
 have hkl := (List.getElem?_eq_some_iff.1 hqk).1
 have hc0 := cnt_new G hh hk
 obtain ⟨q, h1, h2⟩ := free_frame G.inv hqk (by omega)
 have hqn : q < n := by rw [← G.ol]; exact (List.getElem?_eq_some_iff.1 h2).1
 obtain ⟨G2, e2⟩ := G.new hh hk h2 hqk (by omega)
 have L' := Lk.intro (c := c) G2 J hh e2 hcc
 refine Ctr.of_body func53 J ntmps53 J (cZ (aZ (gZ J (gZ J (fZ (bZ (cZ (aZ (eZ J (eZ J (oZ call122 J (iM) (Fz.take_ok W0 _ (f := f) (own := σ.own) (qs := qs) (n := q) (k : Int) hq ⟨by omega, by omega⟩ (by rw [hl]; omega) h1) J ?_)))))))))))
 rintro ⟨⟩ -
 refine eZ J (dZ (xZ J J) (dZ (xZ J J) (gZ J (gZ J (fZ (bZ (cZ (cZ (aZ (eZ J (dZ vQ ?_)))))))))))
 refine fZ (bZ (vZ J (uZ (bZ (cZ (aZ (eZ J (eZ J (oZ call90 J (iM) (fill_ok W0 _ (m := m) (n := n) (k := q) (bs := σ.bs) (ws := []) (a := none) (c2 := 0) (RdB.of_slR SlR.nil (Nat.le_refl _)) hqn (by decide)) J ?_)))))))))
 rintro ⟨⟩ -
 refine fZ (bZ (cZ (aZ (eZ J (eZ J (eZ J (eZ J (eZ J (dZ (aX bu166 ti166 J (cells := [.int .i64 k, .int .i64 q, .pointer (some ⟨m, 0, none⟩), .pointer (some ⟨f, 0, none⟩), .pointer (some ⟨t, 0, none⟩)]) J) (kQ (uX J) J ?_))))))))))
 rintro b30 -
 exact gZ J (gZ J (fZ (bZ (rZ (oX J J J (b30, q, _) L' J iM)))))
set_option maxHeartbeats 4000000 in
theorem pages_of (L : Lk n qs rt o c σ) (hk : rt k = some r) : Ctr prog W0 41 [.pointer (some ⟨s, 0, none⟩)] (WG m f t n qs σ (sb s k r m f t :: Fr)) (fun z : Option Addr × Nat × List PV => z.2.2.map PV.v = pvs o k) (fun z => .slice z.1 z.2.2.length z.2.1) (fun z => PVL z.1 z.2.1 z.2.2 ++ WG m f t n qs σ (sb s k r m f t :: Fr)) := by
 obtain ⟨A, rfl, hh, G, rfl, hcc⟩ := L
 obtain ⟨q1, q2, q3⟩ := pages_pv G hk 4096 (Nat.le_refl _)
 have hrn := G.rep.rlt hk
 have hle : (pages n σ.bs r).length ≤ 4096 := by
  have : (pagesTo n σ.bs r 4096).length ≤ 4096 := by rw [q2, pvTo_len]; exact cN_le _ _
  exact this
 refine Ctr.of_bodyM func41 J ntmps41 J (cZ (aZ (kQ (uX J) J ?_)))
 rintro b1 -
 refine gZ J (fZ (bZ (cZ (aZ (kQ (pX ti36) J ?_)))))
 rintro b3 -
 refine fZ (bZ (cZ (cZ (qQ (.lo 0 1 (.lo 1 1 (.lo 2 1 (.lo 3 1 (.lo 4 1 (.lo 5 1 (.lo 6 1 (.lo 7 1 (.eff1 8 false (.done)))))))))) [8] [] ([]) ([]) mixed (by kernel_rfl) (Imp.none _) (Imp.none _) (hZ J (iZ ti53 J) ?_)))))
 refine dQ J J (wZ J fa166_2 J (hZ J (iZ ti111 J) ?_))
 refine hZ J (iZ ti53 J) ?_
 refine dQ J J (wZ J fa166_1 J (hZ J (iZ ti3 J) ?_))
 refine aQ (rQ J J call93 J (iM) (Pg.pages_spec W0 _ (m := m) (root := (r : Int))) J (fun _ => iM) (fun _ => Imp.refl _) (fun _ => iM) ?_)
 rintro ⟨bm, br⟩ -
 dsimp only
 refine pQ (bZ (mQ (CG.range (ι := Empty) (pages n σ.bs r).length (pgEnc (pages n σ.bs r)) (fun _ => True) (fun i => i.elim) (fun j => PL b3 ((pvs (obs A σ) k).take j) :: blk br [.int .i64 r] 3 :: blk bm [.pointer (some ⟨m, 0, none⟩)] 111 :: blk b1 [.pointer (some ⟨s, 0, none⟩)] 53 :: WG m f t n qs σ (sb s k r m f t :: Fr)) (fun i => i.elim) J call148 J (fun _ => rfl) ?_ ?_ ?_ ?_ ?_)))
 ·exact Imp.trans (B := PLO b3 (none, 0, []) ++ (blk br [.int .i64 r] 3 :: blk bm [.pointer (some ⟨m, 0, none⟩)] 111 :: blk b1 [.pointer (some ⟨s, 0, none⟩)] 53 :: WG m f t n qs σ (sb s k r m f t :: Fr))) (Imp.trans (B := blk b3 [.slice none 0 0] 36 :: blk br [.int .i64 r] 3 :: blk bm [.pointer (some ⟨m, 0, none⟩)] 111 :: blk b1 [.pointer (some ⟨s, 0, none⟩)] 53 :: WG m f t n qs σ (sb s k r m f t :: Fr)) iM (Imp.cons (Imp.trans star_nil osl_nil))) (pl_close (none, 0, []) J)
 ·intro D l q
  exact (pages_hit0 W0 (root := r) (m := m) (bm := bm) (br := br) hrn (Y := fun j => lrec l q .ready none :: dblk D :: PL b3 ((pvs (obs A σ) k).take j) :: blk b1 [.pointer (some ⟨s, 0, none⟩)] 53 :: Fz.F f σ.own qs :: Tl.T t σ.l σ.hand σ.hits σ.miss :: sb s k r m f t :: Fr) (Z := fun i : Empty => i.elim)).conv (fun _ => iM) (fun _ => iM) (fun i => i.elim) (fun i => i.elim)
 ·intro D l q j hk'
  obtain ⟨⟨p, fr⟩, hpk⟩ : ∃ y, (pages n σ.bs r)[j]? = some y := ⟨_, List.getElem?_eq_getElem hk'⟩
  obtain ⟨x, hx, rfl, hp4, hpv⟩ := q3 j p fr hpk
  rw [pgEnc_at hpk]
  have hxn := G.plt hx
  have htk : (pvs (obs A σ) k).take (j + 1) = (pvs (obs A σ) k).take j ++ [(p, x.2, frB σ.bs x.1)] := by
   obtain ⟨hjl, hje⟩ := List.getElem?_eq_some_iff.1 hpv
   rw [List.take_succ_eq_append_getElem hjl, hje]
  refine kV (A := PL b3 ((pvs (obs A σ) k).take j)) eX pl_open ?_
  rintro ⟨pa, pc, pl⟩ hpl
  refine rX star_open ?_
  dsimp only [PLO, List.cons_append, List.nil_append] at hpl ⊢
  have hll : pl.length ≤ 4096 := by have := congrArg List.length hpl; rw [List.length_map, List.length_take] at this; omega
  refine cZ (aZ (gZ J (fZ (bZ (aZ (gZ J (fZ (QG.begin eX ?_))))))))
  refine mQ (cZ (aZ (dZ (iZ ti53 J) ?_)))
  refine zZ J (pZ fa166_2 J (dZ (iZ ti111 J) ?_))
  refine eZ J (oZ call87 J (iM) (frame_ok W0 _ (m := m) (n := n) (k := x.1) (bs := σ.bs) hxn) J ?_)
  rintro bf -
  refine eZ J (dZ (xZ J J) (dZ (xZ J J) (gZ J (gZ J (fZ (bZ (qQ (.lo 0 2 (.lo 1 0 (.lo 2 1 (.lo 3 1 (.lo 5 0 (.eff1 4 false (.lo 6 1 (.eff1 7 false (.eff1 8 true (.eff1 9 false (.done))))))))))) [4, 7, 8, 9] [0] ([]) ([blk b3 [.slice pa pl.length pc] 36]) mixed (by kernel_rfl) (Imp.none _) iM ?_)))))))
  refine hZ J (iZ ti36 J) ?_
  refine nZ J J (hZ J (iZ ti53 J) ?_)
  refine nZ J J (nZ J J (aQ (rQ J J call29 J (iM) (perm_spec W0 _ (s := s) (m := m) (f := f) (t := t) (qs := qs) (σ := σ) G.rep hk (p : Int)) J (fun _ => iM) (fun _ => Imp.refl _) (fun _ => iM) ?_)))
  rintro ⟨⟩ -
  rw [vp_in hp4, hx]
  dsimp only
  refine hZ J (aX (pvs := [(0, .int .i64 p), (1, .int .i64 x.2), (2, .slice (some ⟨bf, 0, none⟩) (frB σ.bs x.1).length 256)]) bu180 ti180 J (cells := PV.cells ⟨p, x.2, some ⟨bf, 0, none⟩, 256, frB σ.bs x.1⟩) J) (aQ (wQ J J (aV [.tmp 34] (vs := [.agg (PV.cells ⟨p, x.2, some ⟨bf, 0, none⟩, 256, frB σ.bs x.1⟩).toArray]) (cells := PV.cells ⟨p, x.2, some ⟨bf, 0, none⟩, 256, frB σ.bs x.1⟩) underlying36 ti180 J J J J (by decide) (by simp [Value.cells, PV.cells]) (by simp [Value.cells])) J (fun _ => iM) (fun _ => Imp.refl _) (fun _ => iM) ?_))
  rintro b35 -
  refine aQ (wQ J J (fX (a := pa) (c := pc) (m := pl.length) (xs := (pl.map PV.cells).flatten) (k := 1) (ys := PV.cells ⟨p, x.2, some ⟨bf, 0, none⟩, 256, frB σ.bs x.1⟩) J J J underlying36 underlying36 ti180 J (by decide) fC (SlR.of_osl (a := some ⟨b35, 0, none⟩) eX) (PV.ones _) (by omega)) J (fun _ => iM) (fun _ => Imp.refl _) (fun _ => iM) ?_)
  rintro ⟨pa2, pc2⟩ -
  refine aQ (wQ J J (uQ ti36 J J fC J (by first | (simp; done) | decide)) J (fun _ => iM) (fun _ => Imp.refl _) (fun _ => iM) ?_)
  rintro ⟨⟩ -
  refine pQ (tZ (QG.round_next eX ?_))
  refine Imp.trans (B := PLO b3 (pa2, pc2, pl ++ [⟨p, x.2, some ⟨bf, 0, none⟩, 256, frB σ.bs x.1⟩]) ++ (lrec l q .ready none :: dblk D :: blk br [.int .i64 r] 3 :: blk bm [.pointer (some ⟨m, 0, none⟩)] 111 :: blk b1 [.pointer (some ⟨s, 0, none⟩)] 53 :: WG m f t n qs σ (sb s k r m f t :: Fr))) ?_ (Imp.trans (pl_close (l := (pvs (obs A σ) k).take (j + 1)) _ (by rw [htk, ← hpl]; simp [PV.v])) iM)
  rw [show PLO b3 (pa2, pc2, pl ++ [⟨p, x.2, some ⟨bf, 0, none⟩, 256, frB σ.bs x.1⟩]) = [blk b3 [.slice pa2 (pl.length + 1) pc2] 36, osl 180 3 pa2 pc2 (pl.length + 1) ((pl.map PV.cells).flatten ++ PV.cells ⟨p, x.2, some ⟨bf, 0, none⟩, 256, frB σ.bs x.1⟩), Star ((pl.map fun x => oby 261 x.a x.c x.b) ++ [oby 261 (some ⟨bf, 0, none⟩) 256 (frB σ.bs x.1)])] by simp [PLO]]
  refine Imp.trans (B := oby 261 (some ⟨bf, 0, none⟩) 256 (frB σ.bs x.1) :: Star (pl.map fun x => oby 261 x.a x.c x.b) :: blk b3 [.slice pa2 (pl.length + 1) pc2] 36 :: osl 180 3 pa2 pc2 (pl.length + 1) ((pl.map PV.cells).flatten ++ PV.cells ⟨p, x.2, some ⟨bf, 0, none⟩, 256, frB σ.bs x.1⟩) :: lrec l q .ready none :: dblk D :: blk br [.int .i64 r] 3 :: blk bm [.pointer (some ⟨m, 0, none⟩)] 111 :: blk b1 [.pointer (some ⟨s, 0, none⟩)] 53 :: WG m f t n qs σ (sb s k r m f t :: Fr)) iM (Imp.trans star_add iM)
 ·intro D
  rw [show (pvs (obs A σ) k).take (pages n σ.bs r).length = pvs (obs A σ) k from List.take_of_length_le (by show (pvTo (obs A σ) k 4096).length ≤ (pagesTo n σ.bs r 4096).length; omega)]
  refine tZ (bZ (cZ (kV (A := PL b3 (pvs (obs A σ) k)) eX pl_open ?_)))
  rintro ⟨pa, pc, pl⟩ hpl
  refine rX star_open ?_
  dsimp only [PLO, List.cons_append, List.nil_append] at hpl ⊢
  refine aZ (dZ (iZ ti36 J) ?_)
  refine gZ J (fZ (bZ (rZ (QG.mark1 (.inl J) eX ?_))))
  exact yZ J J (pa, pc, pl) hpl J iM
 ·intro D i
  exact i.elim
end
end Go.Proofs.YtphljkplokjonaaGreat.Sp
namespace Go.Proofs.YtphljkplokjonaaGreat.Sp
open Go Go.Sl Go.RowKit Go.Proofs Go.Proofs.YtphljkplokjonaaGreat.T Go.Proofs.YtphljkplokjonaaGreat.Me Go.Proofs.YtphljkplokjonaaGreat.Pe Go.Proofs.YtphljkplokjonaaGreat.Pg Tryz
open Go.Proofs.YtphljkplokjonaaGreat.Fz (cnt cnt_set inv_take inv_give free_frame isP isF left left_in iv iv_len iv_get iv_set iv_ones oiv nerr nerr_ok inv_new)
open Go.Proofs.YtphljkplokjonaaGreat.Tl (Slot hitB putL flushPL put_cases)
abbrev RWO (b : Nat) (fr : Int) (l : List Int) (z : Option Addr × Nat) : List HProp := [blk b [.int .i64 fr, .slice z.1 l.length z.2] 199, oiv z.1 z.2 l]
def RW (b : Nat) (fr : Int) (l : List Int) : HProp := fun h => ∃ z : Option Addr × Nat, True ∧ Star (RWO b fr l z) h
theorem rw_open {b : Nat} {fr : Int} {l : List Int} (y : Heaplet) (h : RW b fr l y) : ∃ z, True ∧ Star (RWO b fr l z) y := h
theorem rw_close {b : Nat} {fr : Int} {l : List Int} {G : List HProp} (z : Option Addr × Nat) : Imp (RWO b fr l z ++ G) (RW b fr l :: G) := Imp.trans star_close (Imp.head fun y hy => ⟨z, trivial, hy⟩)
theorem iv_shape {W0 : World} {G : List HProp} {a : Option Addr} {l : List Int} (h : SlR W0 G 1 a l.length (iv l)) (h0 : 0 < l.length) (w : World) (hw : Sat W0 G w) : ∃ b o, a = some ⟨b, o, none⟩ :=
 SlR.shape h (by intro q; have := iv_len l; rw [q] at this; simp only [List.length_nil] at this; omega) w hw
theorem storeInt {P : Program} {W0 : World} {e : Env} {G : List HProp} {ty E c : Nat} {t : TypeId} {x y : Operand} {b o o' i : Nat} {z : Int} {bs : List Int} {put : HProp → List HProp} {by' zv ag} (ht : TI P t 1 by' zv ag) (ho : o' = o + i) (hx : e.ev x = some (.pointer (some ⟨b, o', none⟩))) (hy : e.ev y = some (.int .i64 z))
 (fc : Foc G (osl E 1 (some ⟨b, o, none⟩) c bs.length (iv bs)) put) (hi : i < bs.length) : Eff P W0 (.store t x y) ty e G (fun _ : Unit => True) (fun _ => undef) (fun _ => put (osl E 1 (some ⟨b, o, none⟩) c bs.length (iv (bs.set i z)))) := by
 subst ho
 have := iV (P := P) (W0 := W0) (ty := ty) ht hx hy fc J (by omega)
 rw [iv_set] at this
 exact this
section
variable (W0 : World) (Fr : List HProp)
theorem rtake_spec {b : Nat} {fr q : Int} {l : List Int} {k d : Nat} (hk : l[k]? = some q) (hl : l.length ≤ 1024) (hq : -1000000 ≤ q ∧ q ≤ 1000000) (hf : -1000000 ≤ fr ∧ fr ≤ 1000000) (hd : d ≤ 1000000) : Ctr prog W0 149 [.pointer (some ⟨b, 0, none⟩), .int .i64 k, .int .i64 d] (RW b fr l :: Fr) (fun _ : Unit => True) (fun _ => .int .i64 (if q < d then 141 else if fr < d then 4 else 0))
 (fun _ => (if q < d ∨ fr < d then RW b fr l else RW b (fr - d) (l.set k (q - d))) :: Fr) := by
 have hkl := (List.getElem?_eq_some_iff.1 hk).1
 refine Ctr.ex Ext.here rw_open ?_
 rintro ⟨aw, c2⟩ -
 refine Ctr.imp star_open ?_
 dsimp only [RWO, List.cons_append, List.nil_append]
 refine Ctr.pure (fun w hw => iv_shape (SlR.of_osl (a := aw) eX) (by omega) w hw) ?_
 rintro ⟨b2, o2, rfl⟩
 refine Ctr.of_body func149 J ntmps149 J (cZ (aZ (gZ J (fZ (bZ (cZ (cZ (aZ (eZ J (dZ eQ ?_))))))))))
 refine eZ J (kZ J J (eZ J (kZ J J (eZ J (kZ J J (zZ J (kZ J J (pZ fa199_1 J (kZ J J (dZ (iZ ti80 J) ?_))))))))))
 refine kZ J J (dZ (sZ underlying80 J J) (kZ J J (dZ cX ?_)))
 refine dZ mZ ?_
 refine fZ (bZ (vZ J (uZ (bZ (cZ (cZ ?_))))))
 rcases (show q < d ∨ (¬ q < d ∧ fr < d) ∨ (¬ q < d ∧ ¬ fr < d) by omega) with hh | hh | hh
 ·refine aZ (eZ J (zZ J (pZ fa199_1 J (dZ (iZ ti80 J) ?_))))
  refine eZ J (dZ (lZ underlying80 ti3 J J (by omega) (by omega)) ?_)
  refine dZ (jZ (v := .int .i64 q) ti3 J (by rw [show o2 + (k : Int).toNat * 1 = o2 + k by omega]; exact (SlR.of_osl (a := some ⟨b2, o2, none⟩) eX).cel (iv_get hk))) ?_
  refine eZ J (dZ eQ ?_)
  refine fZ (bZ (fQ J (cZ (aZ (gZ J (fZ (bZ (rZ (qZ ?_)))))))))
  rw [if_pos hh, if_pos (.inl hh)]
  exact yZ J J () trivial J (rw_close (some ⟨b2, o2, none⟩, c2))
 ·refine aZ (eZ J (zZ J (pZ fa199_1 J (dZ (iZ ti80 J) ?_))))
  refine eZ J (dZ (lZ underlying80 ti3 J J (by omega) (by omega)) ?_)
  refine dZ (jZ (v := .int .i64 q) ti3 J (by rw [show o2 + (k : Int).toNat * 1 = o2 + k by omega]; exact (SlR.of_osl (a := some ⟨b2, o2, none⟩) eX).cel (iv_get hk))) ?_
  refine eZ J (dZ eQ ?_)
  refine fZ (bZ (vZ J (uZ (bZ (cZ (cZ (aZ (eZ J (zZ J (pZ fa199_0 J (dZ (iZ ti3 J) ?_)))))))))))
  refine eZ J (dZ eQ ?_)
  refine fZ (bZ (fQ J (cZ (aZ (gZ J (fZ (bZ (rZ (qZ ?_)))))))))
  rw [if_neg hh.1, if_pos hh.2, if_pos (.inr hh.2)]
  exact yZ J J () trivial J (rw_close (some ⟨b2, o2, none⟩, c2))
 ·refine aZ (eZ J (zZ J (pZ fa199_1 J (dZ (iZ ti80 J) ?_))))
  refine eZ J (dZ (lZ underlying80 ti3 J J (by omega) (by omega)) ?_)
  refine dZ (jZ (v := .int .i64 q) ti3 J (by rw [show o2 + (k : Int).toNat * 1 = o2 + k by omega]; exact (SlR.of_osl (a := some ⟨b2, o2, none⟩) eX).cel (iv_get hk))) ?_
  refine eZ J (dZ eQ ?_)
  refine fZ (bZ (vZ J (uZ (bZ (cZ (cZ (aZ (eZ J (zZ J (pZ fa199_0 J (dZ (iZ ti3 J) ?_)))))))))))
  refine eZ J (dZ eQ ?_)
  refine fZ (bZ (vZ J (uZ (bZ (cZ (qQ (.lo 0 1 (.lo 1 1 (.lo 2 1 (.lo 3 1 (.lo 4 1 (.lo 5 1 (.lo 6 1 (.lo 7 1 (.lo 8 1 (.lo 9 1 (.lo 10 1 (.lo 11 1 (.lo 12 1 (.lo 13 1 (.lo 14 1 (.eff1 15 false (.done))))))))))))))))) [15] [] ([blk b [.int .i64 fr, .slice (some ⟨b2, o2, none⟩) l.length c2] 199]) ([]) mixed (by kernel_rfl) iM (Imp.none _) ?_))))))
  refine nZ J J (dQ J J (wZ J fa199_1 J (hZ J (iZ ti80 J) ?_)))
  refine nZ J J (nZ J J (dQ J J (wZ J fa199_1 J (hZ J (iZ ti80 J) ?_))))
  refine nZ J J (hZ J (lZ underlying80 ti3 J J (by omega) (by omega)) ?_)
  refine hZ J (jZ (v := .int .i64 q) ti3 J (by rw [show o2 + (k : Int).toNat * 1 = o2 + k by omega]; exact (SlR.of_osl (a := some ⟨b2, o2, none⟩) eX).cel (iv_get hk))) ?_
  refine nZ J J (hZ J (yX J J wO) (hZ J (lZ underlying80 ti3 J J (by omega) (by omega)) ?_))
  refine aQ (wQ J J (storeInt (i := k) (z := q - d) ti3 (show o2 + (k : Int).toNat * 1 = o2 + k by omega) J J fC hkl) J (fun _ => iM) (fun _ => Imp.refl _) (fun _ => iM) ?_)
  rintro ⟨⟩ -
  refine pQ (bZ (cZ (aZ (eZ J (eZ J (zZ J (pZ fa199_0 J (dZ (iZ ti3 J) ?_))))))))
  refine eZ J (dZ (yX J J wO) (zZ J (pZ fa199_0 J (sQ (uQ ti3 J J fC J (by first | (simp; done) | decide)) J ?_))))
  rintro ⟨⟩ -
  refine fZ (bZ (cZ (aZ (gZ J (fZ (bZ (rZ ?_)))))))
  rw [if_neg hh.1, if_neg hh.2, if_neg (by omega)]
  refine yZ J J () trivial J (Imp.trans iM (Imp.trans (B := RWO b (fr - d) (l.set k (q - d)) (some ⟨b2, o2, none⟩, c2) ++ Fr) ?_ (rw_close (some ⟨b2, o2, none⟩, c2))))
  dsimp only [RWO, oiv]
  rw [List.length_set]
  exact iM
abbrev rsb0 (b bw k : Nat) : HProp := blk b [.pointer (some ⟨bw, 0, none⟩), .int .i64 k, .slice none 0 0, .slice none 0 0] 264
theorem rnew_ok {b : Nat} {fr q : Int} {l : List Int} {k : Nat} (hk : l[k]? = some q) (hl : l.length ≤ 1024) (hq : 1 ≤ q ∧ q ≤ 1000000) (hf : 1 ≤ fr ∧ fr ≤ 1000000) : Ctr prog W0 100 [.pointer (some ⟨b, 0, none⟩), .int .i64 k] (RW b fr l :: Fr) (fun _ : Nat => True) (fun u => .tuple #[.pointer (some ⟨u, 0, none⟩), .int .i64 0])
 (fun u => rsb0 u b k :: RW b (fr - 1) (l.set k (q - 1)) :: Fr) := by
 have ht := rtake_spec W0 Fr (b := b) (fr := fr) (d := 1) hk hl (by omega) (by omega) (by decide)
 rw [if_neg (show ¬ q < ((1 : Nat) : Int) by omega), if_neg (show ¬ fr < ((1 : Nat) : Int) by omega)] at ht
 simp only [show ¬(q < ((1 : Nat) : Int) ∨ fr < ((1 : Nat) : Int)) by omega, if_false] at ht
 refine Ctr.of_body func100 J ntmps100 J (cZ (aZ (gZ J (gZ J (fZ (bZ (cZ (aZ (eZ J (eZ J (oZ call149 J (iM) (ht) J ?_)))))))))))
 rintro ⟨⟩ -
 refine gZ J (fZ (bZ (cZ (cZ (aZ (eZ J (dZ vQ ?_)))))))
 refine fZ (bZ (vZ J (uZ (bZ (cZ (aZ (eZ J (eZ J (dZ (aX bu264 ti264 J (cells := [.pointer (some ⟨b, 0, none⟩), .int .i64 k, .slice none 0 0, .slice none 0 0]) J) (kQ (uX J) J ?_))))))))))
 rintro b16 -
 exact gZ J (gZ J (fZ (bZ (rZ (oX J J J b16 trivial J iM)))))
end
end Go.Proofs.YtphljkplokjonaaGreat.Sp
namespace Go.Proofs.YtphljkplokjonaaGreat.Sp
open Go Go.Sl Go.RowKit Go.Proofs Go.Proofs.YtphljkplokjonaaGreat.T Go.Proofs.YtphljkplokjonaaGreat.Me Go.Proofs.YtphljkplokjonaaGreat.Pe Go.Proofs.YtphljkplokjonaaGreat.Pg
open Go.Proofs.YtphljkplokjonaaGreat.Fz (cnt cnt_set inv_take inv_give free_frame isP isF left left_in iv iv_len iv_get iv_set iv_ones oiv nerr nerr_ok inv_new)
open Go.Proofs.YtphljkplokjonaaGreat.Tl (Slot hitB putL flushPL put_cases)
theorem Lk.mono {n : Nat} {qs : List Int} {rt : Nat → Option Nat} {o : Ob} {c d : Nat} {σ : St} (L : Lk n qs rt o c σ) (h : c ≤ d) : Lk n qs rt o d σ := by
 obtain ⟨A, h1, h2, h3, h4, h5⟩ := L; exact ⟨A, h1, h2, h3, h4, Nat.le_trans h5 h⟩
theorem cN_zero (m : Nat) : cN (fun _ => false) m = 0 := by
 induction m with
 | zero => rfl
 | succ m ih => simp [cN, ih]
theorem cN_ts {h : Nat → Nat → Bool} {k g k' m : Nat} (hg : g < m) : cN (up2 h k g true k') m = cN (h k') m + (if k = k' ∧ h k g = false then 1 else 0) := by
 by_cases hk : k = k'
 ·subst hk
  have := cN_upd (f := h k) (g := up2 h k g true k) (i := g) (fun q hq => up2_ne (by omega)) m hg
  rw [up2_at] at this
  cases hh : h k g <;> simp [hh] at this ⊢ <;> omega
 ·rw [cN_congr (f := up2 h k g true k') (g := h k') m fun q _ => up2_ne (by omega)]
  simp [hk]
theorem used_vw {o : Ob} {k p k' : Nat} {v : Option (Nat × List UInt8)} {fr : Nat} (hp : p < 4096) : used ⟨up2 o.vw k p v, o.ts, fr⟩ k' + (if k = k' ∧ (o.vw k p).isSome then 1 else 0) = used o k' + (if k = k' ∧ v.isSome then 1 else 0) := by
 have := cN_up2 (h := o.vw) (k := k) (p := p) (k' := k') (v := v) hp
 unfold used
 dsimp only
 omega
theorem map_cases (qk : Int) (o : Ob) (k : Nat) (p pm : Int) : mapO qk o k p pm = (2, o) ∨ mapO qk o k p pm = (91, o) ∨ mapO qk o k p pm = (141, o) ∨
 (((0 ≤ p ∧ p < 4096) ∧ 1 ≤ pm ∧ pm ≤ 7) ∧ o.vw k p.toNat = none ∧ ((if o.ts k (p.toNat / 64) then 1 else 2 : Nat) : Int) ≤ qk - used o k ∧ mapO qk o k p pm = (0, ⟨up2 o.vw k p.toNat (some (pm.toNat, zs)), up2 o.ts k (p.toNat / 64) true, o.fr - (if o.ts k (p.toNat / 64) then 1 else 2)⟩)) := by
 unfold mapO
 by_cases h1 : (0 ≤ p ∧ p < 4096) ∧ 1 ≤ pm ∧ pm ≤ 7
 ·rw [if_neg (fun q => q h1)]
  cases h2 : o.vw k p.toNat with
  | some x => exact .inr (.inl (if_pos J))
  | none =>
   rw [if_neg (by simp)]
   by_cases h3 : qk - used o k < (if o.ts k (p.toNat / 64) then 1 else 2 : Nat)
   ·rw [if_pos h3]; exact .inr (.inr (.inl J))
   ·rw [if_neg h3]; exact .inr (.inr (.inr ⟨h1, rfl, by omega, rfl⟩))
 ·rw [if_pos h1]; exact .inl J
theorem used_map {qk : Int} {o : Ob} {k k' : Nat} {p pm : Int} (h : (mapO qk o k p pm).1 = 0) : used (mapO qk o k p pm).2 k' = used o k' + (if k = k' then (if o.ts k (p.toNat / 64) then 1 else 2) else 0) := by
 rcases map_cases qk o k p pm with e | e | e | ⟨h1, h2, h3, e⟩
 ·rw [e] at h; cases h
 ·rw [e] at h; cases h
 ·rw [e] at h; cases h
 ·rw [e]
  have a1 := used_vw (o := ⟨o.vw, up2 o.ts k (p.toNat / 64) true, 0⟩) (k := k) (p := p.toNat) (k' := k') (v := some (pm.toNat, zs)) (fr := o.fr - (if o.ts k (p.toNat / 64) then 1 else 2)) (by omega)
  have a2 := cN_ts (h := o.ts) (k := k) (g := p.toNat / 64) (k' := k') (m := 64) (by omega)
  have a3 : used ⟨o.vw, up2 o.ts k (p.toNat / 64) true, 0⟩ k' = used o k' + (if k = k' ∧ o.ts k (p.toNat / 64) = false then 1 else 0) := by unfold used; dsimp only; omega
  dsimp only at a1 ⊢
  rw [h2] at a1
  generalize used ⟨up2 o.vw k p.toNat (some (pm.toNat, zs)), up2 o.ts k (p.toNat / 64) true, o.fr - (if o.ts k (p.toNat / 64) then 1 else 2)⟩ k' = u1 at a1 ⊢
  generalize used ⟨o.vw, up2 o.ts k (p.toNat / 64) true, 0⟩ k' = u2 at a1 a3
  by_cases hk : k = k'
  ·subst hk
   cases ht : o.ts k (p.toNat / 64) <;> simp [ht] at a1 a3 ⊢ <;> omega
  ·simp [hk] at a1 a3 ⊢; omega
theorem map_same {qk : Int} {o : Ob} {k : Nat} {p pm : Int} (h : (mapO qk o k p pm).1 ≠ 0) : (mapO qk o k p pm).2 = o := by
 rcases map_cases qk o k p pm with e | e | e | ⟨h1, h2, h3, e⟩
 ·rw [e]
 ·rw [e]
 ·rw [e]
 ·rw [e] at h; exact absurd J h
theorem used_unmap {o : Ob} {k k' : Nat} {p : Int} : used (unmapO o k p).2 k' + (if k = k' ∧ (unmapO o k p).1 = 0 then 1 else 0) = used o k' := by
 unfold unmapO
 split
 ·simp
 ·rename_i h1
  split
  ·rename_i h2
   have := used_vw (o := o) (k := k) (p := p.toNat) (k' := k') (v := none) (fr := o.fr + 1) (by omega)
   simp only [h2, and_true, Option.isSome_none, Bool.false_eq_true, and_false, if_false] at this ⊢
   omega
  ·simp
section
variable (W0 : World) (Fr : List HProp)
variable {n : Nat} {qs : List Int} {rt : Nat → Option Nat} {o : Ob} {c : Nat} {σ : St} {k r s m f t : Nat}
end
end Go.Proofs.YtphljkplokjonaaGreat.Sp
namespace Go.Proofs.YtphljkplokjonaaGreat.Sp
open Go Go.Sl Go.RowKit Go.Proofs Go.Proofs.YtphljkplokjonaaGreat.T Go.Proofs.YtphljkplokjonaaGreat.Me Go.Proofs.YtphljkplokjonaaGreat.Pe Go.Proofs.YtphljkplokjonaaGreat.Pg
end Go.Proofs.YtphljkplokjonaaGreat.Sp
namespace Go.Proofs.YtphljkplokjonaaGreat.Sp
open Go Go.Sl Go.RowKit Go.Proofs Go.Proofs.YtphljkplokjonaaGreat.T
end Go.Proofs.YtphljkplokjonaaGreat.Sp
namespace Go.Proofs.YtphljkplokjonaaGreat.Sp
open Go Go.Sl Go.RowKit Go.Proofs Go.Proofs.YtphljkplokjonaaGreat.T Go.Proofs.YtphljkplokjonaaGreat.Me Go.Proofs.YtphljkplokjonaaGreat.Pe Go.Proofs.YtphljkplokjonaaGreat.Pg Tryz
def pmO (o : Ob) (k q : Nat) : Option Nat := (o.vw k q).map (·.1)
def mayP (pm : Nat → Option Nat) (right : Int) (a : Nat) : Bool := decide (a < 1048576) && match pm (a / 256) with | some p => decide (Go.bits .and .i64 (p : Int) right ≠ 0) | none => false
theorem mayP_far {pm : Nat → Option Nat} {right : Int} {a : Nat} (h : 1048576 ≤ a) : mayP pm right a = false := by unfold mayP; rw [decide_eq_false (by omega)]; rfl
theorem mayP_none {pm : Nat → Option Nat} {right : Int} {a : Nat} (h : pm (a / 256) = none) : mayP pm right a = false := by unfold mayP; rw [h]; simp
theorem mayP_some {pm : Nat → Option Nat} {right : Int} {a p : Nat} (ha : a < 1048576) (h : pm (a / 256) = some p) : mayP pm right a = decide (Go.bits .and .i64 (p : Int) right ≠ 0) := by unfold mayP; rw [h, decide_eq_true ha]; rfl
def ends (ad nn j : Nat) : Nat := min nn (j + 256 - (ad + j) % 256)
theorem ends_gt {ad nn j : Nat} (h : j < nn) : j < ends ad nn j := by unfold ends; have := Nat.mod_lt (ad + j) (show 0 < 256 by decide); omega
theorem ends_le {ad nn j : Nat} : ends ad nn j ≤ nn := Nat.min_le_left _ _
theorem ends_page {ad nn j i : Nat} (h1 : j ≤ i) (h2 : i < ends ad nn j) : (ad + i) / 256 = (ad + j) / 256 := by unfold ends at h2; omega
theorem Ctr.re {P : Program} {W0 : World} {f : FuncId} {vs : List Value} {G : List HProp} {α β : Type} {φ : α → Prop} {v : α → Value} {G' : α → List HProp} {ψ : β → Prop} {u : β → Value} {H : β → List HProp} (h : Ctr P W0 f vs G φ v G') (g : α → β) (hφ : ∀ x, φ x → ψ (g x)) (hv : ∀ x, φ x → v x = u (g x)) (hG : ∀ x, φ x → Imp (G' x) (H (g x))) : Ctr P W0 f vs G ψ u H := fun w hw => (h w hw).mono (by
 rintro r w' ⟨x, hx, rfl, hs⟩
 exact ⟨g x, hφ x hx, by rw [hv x hx], hs.imp (hG x hx)⟩)
theorem overB_get {bs ys : List UInt8} {a i : Nat} (ha : a + ys.length ≤ bs.length) : (overB bs a ys)[i]? = if a ≤ i ∧ i < a + ys.length then ys[i - a]? else bs[i]? := by
 by_cases h1 : i < a
 ·rw [overB_lo h1 ha, if_neg (by omega)]
 ·by_cases h2 : a + ys.length ≤ i
  ·rw [overB_hi h2 ha, if_neg (by omega)]
  ·rw [if_pos (by omega)]
   have e : (bs.take a).length = a := by rw [List.length_take]; omega
   unfold overB
   rw [List.append_assoc, List.getElem?_append_right (by omega), e, List.getElem?_append_left (by omega)]
def byteO (o : Ob) (k a : Nat) : UInt8 := match o.vw k (a / 256) with | some x => (x.2[a % 256]?).getD 0 | none => 0
def bufI (o : Ob) (k ad nn j : Nat) : List UInt8 := (List.range nn).map fun i => if i < j then byteO o k (ad + i) else 0
theorem bufI_len {o : Ob} {k ad nn j : Nat} : (bufI o k ad nn j).length = nn := by simp [bufI]
theorem bufI_get {o : Ob} {k ad nn j i : Nat} (h : i < nn) : (bufI o k ad nn j)[i]? = some (if i < j then byteO o k (ad + i) else 0) := by unfold bufI; rw [List.getElem?_map, List.getElem?_range h]; rfl
theorem bufI_zero {o : Ob} {k ad nn : Nat} : bufI o k ad nn 0 = List.replicate nn 0 := by
 apply List.ext_getElem?; intro i
 by_cases h : i < nn
 ·rw [bufI_get h]; simp [h]
 ·rw [List.getElem?_eq_none (by rw [bufI_len]; omega), List.getElem?_eq_none (by simp; omega)]
theorem ends_len {ad nn j : Nat} {pg : List UInt8} (hp : pg.length = 256) (hj : j < nn) : ((pg.drop ((ad + j) % 256)).take (ends ad nn j - j)).length = ends ad nn j - j := by
 rw [List.length_take, List.length_drop, hp]; unfold ends; omega
theorem bufI_step {o : Ob} {k ad nn j p : Nat} {pg : List UInt8} (hx : o.vw k ((ad + j) / 256) = some (p, pg)) (hp : pg.length = 256) (hj : j < nn) :
 overB (bufI o k ad nn j) j ((pg.drop ((ad + j) % 256)).take (ends ad nn j - j)) = bufI o k ad nn (ends ad nn j) := by
 have hl := ends_len (ad := ad) hp hj
 have h1 := ends_gt (ad := ad) hj
 have h2 := ends_le (ad := ad) (nn := nn) (j := j)
 apply List.ext_getElem?; intro i
 rw [overB_get (by rw [hl, bufI_len]; omega), hl]
 by_cases hi : i < nn
 ·rw [bufI_get hi, bufI_get hi]
  by_cases h : j ≤ i ∧ i < j + (ends ad nn j - j)
  ·have hpg := ends_page (ad := ad) (nn := nn) h.1 (by omega)
   rw [if_pos h, if_pos (by omega), List.getElem?_take, if_pos (by omega), List.getElem?_drop]
   have hb : (ad + j) % 256 + (i - j) = (ad + i) % 256 := by omega
   rw [hb]
   unfold byteO; rw [hpg, hx]
   have : (ad + i) % 256 < pg.length := by omega
   simp [this]
  ·rw [if_neg h]
   by_cases hij : i < j
   ·rw [if_pos hij, if_pos (by omega)]
   ·rw [if_neg hij, if_neg (by omega)]
 ·rw [if_neg (by omega), List.getElem?_eq_none (by rw [bufI_len]; omega), List.getElem?_eq_none (by rw [bufI_len]; omega)]
def mayA (o : Ob) (k : Nat) (right : Int) (ad nn : Nat) : Bool := (List.range nn).all fun i => mayP (pmO o k) right (ad + i)
theorem mayA_t {o : Ob} {k ad nn : Nat} {right : Int} (h : ∀ i, i < nn → mayP (pmO o k) right (ad + i) = true) : mayA o k right ad nn = true := by
 unfold mayA; rw [List.all_eq_true]; intro i hi; exact h i (List.mem_range.1 hi)
theorem mayA_f {o : Ob} {k ad nn j : Nat} {right : Int} (hj : j < nn) (h : mayP (pmO o k) right (ad + j) = false) : mayA o k right ad nn = false := by
 rw [Bool.eq_false_iff]; intro q; unfold mayA at q
 have := List.all_eq_true.1 q j (List.mem_range.2 hj)
 rw [h] at this; cases this
def inO (o : Ob) (k ad : Nat) (nI : Int) : List UInt8 × Int := if nI < 0 ∨ 4096 < nI then ([], 2) else if mayA o k 1 ad nI.toNat then (bufI o k ad nI.toNat nI.toNat, 0) else ([], 90)
theorem overB_frame {bs ys : List UInt8} {n q o : Nat} (hl : bs.length = n * 256) (hq : q < n) (ho : o + ys.length ≤ 256) : overB bs (q * 256) (fillB (overB (frB bs q) o ys)) = overB bs (q * 256 + o) ys := by
 have hf := frB_len hl hq
 have ho2 : (overB (frB bs q) o ys).length = 256 := by rw [overB_len (by omega), hf]
 have e : fillB (overB (frB bs q) o ys) = overB (frB bs q) o ys := by unfold fillB; rw [ho2]; simp
 rw [e]
 have hqn : q * 256 + 256 ≤ n * 256 := by omega
 apply List.ext_getElem?; intro i
 rw [overB_get (by rw [ho2]; omega), overB_get (bs := bs) (a := q * 256 + o) (ys := ys) (by omega), ho2]
 by_cases h : q * 256 ≤ i ∧ i < q * 256 + 256
 ·rw [if_pos h, overB_get (by omega)]
  by_cases h2 : o ≤ i - q * 256 ∧ i - q * 256 < o + ys.length
  ·rw [if_pos h2, if_pos (by omega)]; congr 1; omega
  ·rw [if_neg h2, if_neg (by omega), frB_get (by omega)]; congr 1; omega
 ·rw [if_neg h, if_neg (by omega)]
def putP (ad : Nat) (b : List UInt8) (j q : Nat) (pg : List UInt8) : List UInt8 := (List.range pg.length).map fun i => if i < 256 ∧ ad ≤ q * 256 + i ∧ q * 256 + i < ad + j then (b[q * 256 + i - ad]?).getD 0 else (pg[i]?).getD 0
def outO (o : Ob) (k ad : Nat) (b : List UInt8) (j : Nat) : Ob := ⟨fun k' q => (o.vw k' q).map fun x => (x.1, if k' = k then putP ad b j q x.2 else x.2), o.ts, o.fr⟩
theorem putP_len {ad j q : Nat} {b pg : List UInt8} : (putP ad b j q pg).length = pg.length := by simp [putP]
theorem putP_get {ad j q i : Nat} {b pg : List UInt8} (h : i < pg.length) : (putP ad b j q pg)[i]? = some (if i < 256 ∧ ad ≤ q * 256 + i ∧ q * 256 + i < ad + j then (b[q * 256 + i - ad]?).getD 0 else (pg[i]?).getD 0) := by unfold putP; rw [List.getElem?_map, List.getElem?_range h]; rfl
theorem putP_out {ad j q i : Nat} {b pg : List UInt8} (h : pg.length ≤ i) : (putP ad b j q pg)[i]? = none := List.getElem?_eq_none (by rw [putP_len]; exact h)
theorem outO_zero {o : Ob} {k ad : Nat} {b : List UInt8} : outO o k ad b 0 = o := by
 have e : ∀ (q : Nat) (pg : List UInt8), putP ad b 0 q pg = pg := by
  intro q pg; apply List.ext_getElem?; intro i
  by_cases h : i < pg.length
  ·rw [putP_get h, if_neg (by omega)]; simp [h]
  ·rw [putP_out (by omega), List.getElem?_eq_none (by omega)]
 unfold outO
 obtain ⟨vw, ts, fr⟩ := o
 congr 1
 funext k' q
 simp only [e, ite_self]
 cases vw k' q <;> rfl
theorem outO_pm {o : Ob} {k ad : Nat} {b : List UInt8} (j k' q : Nat) : pmO (outO o k ad b j) k' q = pmO o k' q := by
 unfold pmO outO; simp only [Option.map_map]; rfl
theorem out_step {o : Ob} {k ad j p : Nat} {b pg : List UInt8} (hx : (outO o k ad b j).vw k ((ad + j) / 256) = some (p, pg)) (hp : pg.length = 256) (hj : j < b.length) :
 (⟨up2 (outO o k ad b j).vw k ((ad + j) / 256) (some (p, overB pg ((ad + j) % 256) ((b.drop j).take (ends ad b.length j - j)))), o.ts, o.fr⟩ : Ob) = outO o k ad b (ends ad b.length j) := by
 have h1 := ends_gt (ad := ad) hj
 have h2 := ends_le (ad := ad) (nn := b.length) (j := j)
 have hl : ((b.drop j).take (ends ad b.length j - j)).length = ends ad b.length j - j := by rw [List.length_take, List.length_drop]; omega
 have h3 : (ad + j) % 256 + (ends ad b.length j - j) ≤ 256 := by unfold ends; omega
 have hdm := Nat.div_add_mod (ad + j) 256
 unfold outO
 congr 1
 funext k' q
 by_cases h : k' = k ∧ q = (ad + j) / 256
 ·obtain ⟨rfl, rfl⟩ := h
  rw [up2_at]
  unfold outO at hx
  dsimp only at hx
  cases hv : o.vw k' ((ad + j) / 256) with
  | none => rw [hv] at hx; cases hx
  | some y =>
   rw [hv] at hx
   simp only [Option.map_some, if_true, Option.some.injEq, Prod.mk.injEq] at hx
   obtain ⟨rfl, rfl⟩ := hx
   rw [putP_len] at hp
   simp only [Option.map_some, if_true, Option.some.injEq, Prod.mk.injEq, true_and]
   apply List.ext_getElem?; intro i
   rw [overB_get (by rw [hl, putP_len]; omega), hl]
   by_cases hi : i < y.2.length
   ·rw [putP_get hi, putP_get hi]
    by_cases hc : (ad + j) % 256 ≤ i ∧ i < (ad + j) % 256 + (ends ad b.length j - j)
    ·rw [if_pos hc, if_pos (by omega), List.getElem?_take, if_pos (by omega), List.getElem?_drop]
     have hb : j + (i - (ad + j) % 256) = (ad + j) / 256 * 256 + i - ad := by omega
     rw [hb]
     have : (ad + j) / 256 * 256 + i - ad < b.length := by omega
     simp [this]
    ·rw [if_neg hc]
     by_cases hq : i < 256 ∧ ad ≤ (ad + j) / 256 * 256 + i ∧ (ad + j) / 256 * 256 + i < ad + j
     ·rw [if_pos hq, if_pos (by omega)]
     ·rw [if_neg hq, if_neg (by omega)]
   ·rw [if_neg (by omega), putP_out (by omega), putP_out (by omega)]
 ·rw [up2_ne (by omega)]
  show (o.vw k' q).map _ = _
  cases hv : o.vw k' q with
  | none => rfl
  | some y =>
   simp only [Option.map_some, Option.some.injEq, Prod.mk.injEq, true_and]
   by_cases hk : k' = k
   ·rw [if_pos hk, if_pos hk]
    apply List.ext_getElem?; intro i
    by_cases hi : i < y.2.length
    ·rw [putP_get hi, putP_get hi]
     by_cases hq : i < 256 ∧ ad ≤ q * 256 + i ∧ q * 256 + i < ad + j
     ·rw [if_pos hq, if_pos (by omega)]
     ·rw [if_neg hq]
      by_cases hq2 : i < 256 ∧ ad ≤ q * 256 + i ∧ q * 256 + i < ad + ends ad b.length j
      ·exfalso
       have := ends_page (ad := ad) (nn := b.length) (j := j) (i := q * 256 + i - ad) (by omega) (by omega)
       rw [show ad + (q * 256 + i - ad) = q * 256 + i by omega] at this
       exact h ⟨hk, by omega⟩
      ·rw [if_neg hq2]
    ·rw [putP_out (by omega), putP_out (by omega)]
   ·rw [if_neg hk, if_neg hk]
def outR (o : Ob) (k ad : Nat) (b : List UInt8) : Int × Ob := if 4096 < b.length then (2, o) else if mayA o k 2 ad b.length then (0, outO o k ad b b.length) else (90, o)
section
variable (W0 : World) (Fr : List HProp)
variable {n : Nat} {qs : List Int} {rt : Nat → Option Nat} {c : Nat} {σ : St} {k r s m f t : Nat}
set_option maxHeartbeats 2000000 in
theorem pieces_spec {F : FuncId} {ca : List Value} (hF : CallOK prog F) {ob : Nat → Ob} {X : Nat → HProp} {pm : Nat → Option Nat} {right : Int} {nn ad : Nat} (hnn : nn ≤ 4096) (had : ad < 4294967296) (hpm : ∀ j q, pmO (ob j) k q = pm q) (L : Lk n qs rt (ob 0) c σ) (hk : rt k = some r) (hb : c < 1000000000000000000 - 4096)
 (hdo : ∀ (j : Nat) (A : Ab) (σ' : St) (c' : Nat) (x : Nat × Nat), j < nn → ad + j < 1048576 → A.rt = rt → A.hs = [] → Good n qs A σ' → obs A σ' = ob j → σ'.hits + σ'.miss ≤ c' → A.pg k ((ad + j) / 256) = some x →
  Ctr prog W0 F ([.int .i64 x.1, .int .i64 ((ad + j) % 256 : Nat), .int .i64 j, .int .i64 (ends ad nn j : Nat)] ++ ca) (WG m f t n qs σ' (sb s k r m f t :: X j :: Fr)) (fun σ2 : St => Lk n qs rt (ob (ends ad nn j)) c' σ2) (fun _ => .tuple #[]) (fun σ2 => WG m f t n qs σ2 (sb s k r m f t :: X (ends ad nn j) :: Fr))) :
 Ctr prog W0 85 [.pointer (some ⟨s, 0, none⟩), .int .u32 ad, .int .i64 nn, .int .i64 right, .func (.func F) #[] ca.toArray] (WG m f t n qs σ (sb s k r m f t :: X 0 :: Fr))
  (fun z : Nat × St => z.1 ≤ nn ∧ (∀ i, i < z.1 → mayP pm right (ad + i) = true) ∧ (z.1 < nn → mayP pm right (ad + z.1) = false) ∧ Lk n qs rt (ob z.1) (c + 4096) z.2) (fun z => .int .i64 (if z.1 < nn then 90 else 0)) (fun z => WG m f t n qs z.2 (sb s k r m f t :: X z.1 :: Fr)) := by
 refine Ctr.of_body func85 J ntmps85 J (cZ (aZ (gZ J (fZ (bZ (cZ (cZ (aZ (gZ J (fZ (bZ (mQ (mX (fun z : Nat × St => z.1 ≤ nn ∧ (∀ i, i < z.1 → mayP pm right (ad + i) = true) ∧ Lk n qs rt (ob z.1) (c + z.1) z.2) (fun z => [(0, .pointer (some ⟨s, 0, none⟩)), (1, .int .u32 ad), (2, .int .i64 nn), (3, .int .i64 right), (4, .func (.func F) #[] ca.toArray), (11, .int .i64 z.1)]) (fun z => WG m f t n qs z.2 (sb s k r m f t :: X z.1 :: Fr)) (fun z => nn - z.1) (0, σ) ⟨Nat.zero_le _, fun i h => absurd h (Nat.not_lt_zero _), L⟩ eS iM ?_)))))))))))))
 rintro ⟨j, σj⟩ ⟨hj, hal, Lj⟩
 dsimp only at hj hal Lj ⊢
 refine cZ (cZ (aZ (eZ J (eZ J (dZ eQ ?_)))))
 refine fZ (bZ (lQ J (fun hc => ?_) (fun hc => ?_)))
 ·try replace hc := odT hc
  have hjn : j < nn := by omega
  obtain ⟨A, hrt, h0, G, ho, hcc⟩ := Lj
  have hkA : A.rt k = some r := by rw [hrt]; exact hk
  have hpA : ∀ q, pm q = (A.pg k q).map (·.2) := fun q => by rw [← hpm j q, ← ho]; unfold pmO; rw [vw_obs]; cases A.pg k q <;> rfl
  refine uZ (bZ (mQ (cZ (aZ (eZ J (dZ (cQ (c := ((ad : Nat) : Int)) underlying3 J J wO) (eZ J (dZ (hQ (c := ((ad + j : Nat) : Int)) J J (by rw [w64 (by omega) (by omega)]; omega)) ?_))))))))
  refine gZ J (fZ (bZ (cZ (cZ (aZ (eZ J (dZ cX ?_)))))))
  refine fZ (bZ (lQ J (fun hc => ?_) (fun hc => ?_)))
  ·try replace hc := odT hc
   exact cZ (aZ (gZ J (fZ (bZ (rZ (qZ (nQ (qZ (nQ (qZ (yZ J J (j, σj) ⟨hj, hal, fun _ => mayP_far (by omega), Lk.intro G hrt h0 ho (by simp only; omega)⟩ (by simp [hjn]) iM)))))))))))
  ·try replace hc := odF hc
   refine uZ (bZ (cZ (aZ (eZ J (eZ J (dZ (oQ (dV J J (by omega) (tdiv_pos (by omega) (by omega) (by omega))) (v' := .int .i64 (((ad + j) / 256 : Nat) : Int)) (by congr 1)) ?_))))))
   refine oZ call147 J (iM) (find_spec W0 _ (s := s) (m := m) (f := f) (t := t) G hkA (by omega) (((ad + j) / 256 : Nat) : Int)) J ?_
   rintro σ' hF'
   rw [vp_in (show (ad + j) / 256 < 4096 by omega)]
   refine eZ J (dZ (xZ J J) (dZ (xZ J J) (dZ (xZ J J) (gZ J (gZ J (gZ J (fZ (bZ (cZ (cZ ?_))))))))))
   rcases (show (A.pg k ((ad + j) / 256) = none) ∨ (∃ x, A.pg k ((ad + j) / 256) = some x ∧ Go.bits .and .i64 (x.2 : Int) right ≠ 0) ∨ (∃ x, A.pg k ((ad + j) / 256) = some x ∧ Go.bits .and .i64 (x.2 : Int) right = 0) by cases A.pg k ((ad + j) / 256) with | none => exact .inl rfl | some x => exact .inr ((Decidable.em (Go.bits .and .i64 (x.2 : Int) right = 0)).elim (fun h => .inr ⟨x, rfl, h⟩) (fun h => .inl ⟨x, rfl, h⟩))) with hx | ⟨x, hx, hm⟩ | ⟨x, hx, hm⟩
   ·rw [wV_none (by omega) hx, hx]
    refine aZ (eZ J (dZ (iQ J) (eZ J (gQ J J J J J (gQ J J J J J (gQ J J J J J (gQ J J J J J (dZ mZ ?_))))))))
    exact fZ (bZ (fQ J (cZ (aZ (gZ J (fZ (bZ (rZ (qZ (nQ (qZ (nQ (qZ (yZ J J (j, σ') ⟨hj, hal, fun _ => mayP_none (by rw [hpA, hx]; rfl), Lk.intro hF'.good hrt h0 (by rw [← ho]; unfold obs; rw [hF'.bs, hF'.own]) (by have := hF'.cnt; simp only; omega)⟩ (by simp [hjn]) iM))))))))))))))
   ·rw [wV_some (by omega) hx, hx]
    refine aZ (eZ J (dZ (iQ J) (eZ J (kZ J J (eZ J (kZ J J (eZ J (kZ J J (dZ (cV J J J J) (kZ J J (dZ (oQ (yQ J J) (v' := .bool false) (bF hm)) (dZ mZ ?_))))))))))))
    refine fZ (bZ (vZ J (uZ (bZ (cZ (aZ (eZ J (dZ (oQ (xX J J (by omega) (tmod_pos (by omega) (by omega))) (v' := .int .i64 (((ad + j) % 256 : Nat) : Int)) (by congr 1)) ?_))))))))
    refine gZ J (fZ (bZ (cZ (aZ (eZ J (eZ J (dZ (hQ J J wO) (eZ J (dZ (yX J J wO) (dZ (oQ (mV J J) (v' := .int .i64 (ends ad nn j : Nat)) (by congr 1; unfold ends; omega)) ?_))))))))))
    refine gZ J (fZ (bZ (cZ (aZ (eZ J (eZ J (eZ J (eZ J (eZ J (OG.callv hF J J iM (hdo j A σ' (c + j + 1) x hjn (by omega) hrt h0 hF'.good (by rw [← ho]; unfold obs; rw [hF'.bs, hF'.own]) (by have := hF'.cnt; omega) hx) J ?_))))))))))
    rintro σ2 L2
    refine fZ (bZ (aZ (eZ J (gZ J (fZ (tZ ?_))))))
    have hgt := ends_gt (ad := ad) hjn
    refine gX (ends ad nn j, σ2) ⟨ends_le, fun i hi => ?_, Lk.mono L2 (by simp only; omega)⟩ (by simp only; omega) eS iM
    by_cases hij : i < j
    ·exact hal i hij
    ·have hpg := ends_page (ad := ad) (show j ≤ i by omega) hi
     rw [mayP_some (p := x.2) (by omega) (by rw [hpg, hpA, hx]; rfl)]
     exact decide_eq_true hm
   ·rw [wV_some (by omega) hx, hx]
    refine aZ (eZ J (dZ (iQ J) (eZ J (kZ J J (eZ J (kZ J J (eZ J (kZ J J (dZ (cV J J J J) (kZ J J (dZ (oQ (yQ J J) (v' := .bool true) (bT hm)) (dZ mZ ?_))))))))))))
    exact fZ (bZ (fQ J (cZ (aZ (gZ J (fZ (bZ (rZ (qZ (nQ (qZ (nQ (qZ (yZ J J (j, σ') ⟨hj, hal, fun _ => by rw [mayP_some (p := x.2) (by omega) (by rw [hpA, hx]; rfl)]; exact decide_eq_false (fun q => q hm), Lk.intro hF'.good hrt h0 (by rw [← ho]; unfold obs; rw [hF'.bs, hF'.own]) (by have := hF'.cnt; simp only; omega)⟩ (by simp [hjn]) iM))))))))))))))
 ·try replace hc := odF hc
  exact iX (bQ (bQ (tQ (bZ (cZ (aZ (gZ J (fZ (bZ (rZ (yZ J J (j, σj) ⟨hj, hal, fun h => absurd h (by simp only; omega), Lk.mono Lj (by omega)⟩ (by rw [if_neg (by simp only; omega)]) iM)))))))))))
abbrev XI (b3 b8 s bb nn : Nat) (buf : List UInt8) : List HProp := [blk b3 [.pointer (some ⟨s, 0, none⟩)] 53, blk b8 [.slice (some ⟨bb, 0, none⟩) nn nn] 32, osl 5 1 (some ⟨bb, 0, none⟩) nn nn (bytesV buf)]
theorem in1_spec {b3 b8 bb nn j to fx : Nat} {at' : Nat} {buf : List UInt8} (hnn : nn ≤ 4096) (hbuf : buf.length = nn) (hfx : fx < n) (ha : at' < 256) (hj : j < to) (hto : to ≤ nn) (h256 : to - j ≤ 256 - at') (hbs : σ.bs.length = n * 256) :
 Ctr prog W0 86 [.int .i64 fx, .int .i64 at', .int .i64 j, .int .i64 to, .pointer (some ⟨b3, 0, none⟩), .pointer (some ⟨b8, 0, none⟩)] (WG m f t n qs σ (sb s k r m f t :: Star (XI b3 b8 s bb nn buf) :: Fr)) (fun _ : Unit => True) (fun _ => .tuple #[])
  (fun _ => WG m f t n qs σ (sb s k r m f t :: Star (XI b3 b8 s bb nn (overB buf j (((frB σ.bs fx).drop at').take (to - j)))) :: Fr)) := by
 have hfl := frB_len hbs hfx
 refine Ctr.imp (Imp.trans (B := Star (XI b3 b8 s bb nn buf) :: WG m f t n qs σ (sb s k r m f t :: Fr)) iM star_open) ?_
 dsimp only [XI, List.cons_append, List.nil_append]
 refine Ctr.of_body func86 J ntmps86 J (cZ (aZ (dZ (iZ ti53 J) ?_)))
 refine zZ J (pZ fa166_2 J (dZ (iZ ti111 J) ?_))
 refine eZ J (oZ call87 J (iM) (frame_ok W0 _ (m := m) (n := n) (k := fx) (bs := σ.bs) hfx) J ?_)
 rintro bf -
 rw [hfl]
 refine eZ J (dZ (xZ J J) (dZ (xZ J J) (gZ J (gZ J (fZ (bZ (qQ (.lo 0 1 (.lo 1 1 (.lo 2 1 (.lo 3 1 (.lo 4 1 (.lo 5 1 (.lo 6 1 (.eff1 7 false (.done))))))))) [7] [] ([]) ([]) mixed (by kernel_rfl) (Imp.none _) (Imp.none _) (hZ J (iZ ti32 J) ?_))))))))
 refine nZ J J (nZ J J (hZ J (oQ (Yield.slice_in underlying32 ti5 J (Bound.some J) (Bound.some J) (by omega) (by omega) (by omega) (by omega)) (v' := .slice (some ⟨bb, 0 + j, none⟩) (to - j : Nat) (nn - j)) (by simp)) ?_))
 refine nZ J J (nZ J J (hZ J (oQ (Yield.slice_in underlying32 ti5 J (Bound.some J) Bound.none (by omega) (by omega) (by omega) (by omega)) (v' := .slice (some ⟨bf, 0 + at', none⟩) (256 - at' : Nat) (256 - at')) (by simp)) ?_))
 refine aQ (wQ J J (Eff.copyIn (b := bb) (o := 0) (j := j) (n := to - j) (cn := nn - j) (k := 256 - at') (ys := bytesV ((frB σ.bs fx).drop at')) J J J underlying32 ti5 fC (by omega) (SlR.part (SlR.of_osl (E := 261) (a := some ⟨bf, 0, none⟩) eX) (by rw [bytesV_drop, List.take_of_length_le (Nat.le_of_eq (by rw [bytesV_length, List.length_drop, hfl]))]) (by omega)) bytesV_one) J (fun _ => iM) (fun _ => Imp.refl _) (fun _ => iM) ?_)
 rintro ⟨⟩ -
 rw [show min (256 - at') (to - j) = to - j by omega, bytesV_take, over_bytes]
 exact pQ (qX J () trivial J (Imp.trans (B := XI b3 b8 s bb nn (overB buf j (((frB σ.bs fx).drop at').take (to - j))) ++ WG m f t n qs σ (sb s k r m f t :: Fr)) iM (Imp.trans star_close iM)))
structure BA where
 a : Option Addr
 c : Nat
 b : List UInt8
 σ : St
set_option maxHeartbeats 2000000 in
theorem in_spec {o : Ob} (L : Lk n qs rt o c σ) (hk : rt k = some r) (hb : c < 1000000000000000000 - 4096) {ad : Nat} (had : ad < 4294967296) (nI : Int) : Ctr prog W0 30 [.pointer (some ⟨s, 0, none⟩), .int .u32 ad, .int .i64 nI] (WG m f t n qs σ (sb s k r m f t :: Fr))
 (fun z : BA => z.b = (inO o k ad nI).1 ∧ Lk n qs rt o (c + 4096) z.σ) (fun z => .tuple #[.slice z.a z.b.length z.c, .int .i64 (inO o k ad nI).2]) (fun z => oby 5 z.a z.c z.b :: WG m f t n qs z.σ (sb s k r m f t :: Fr)) := by
 by_cases hg : nI < 0 ∨ 4096 < nI
 ·have e : inO o k ad nI = ([], 2) := by unfold inO; rw [if_pos hg]
  rw [e]
  refine Ctr.of_body func30 J ntmps30 J (cZ (aZ (kQ (uX J) J ?_)))
  rintro b3 -
  refine gZ J (gZ J (fZ (bZ (cZ (cZ ?_)))))
  rcases (show nI < 0 ∨ (0 ≤ nI ∧ 4096 < nI) by omega) with hg1 | hg1
  ·refine aZ (eZ J (dZ eQ ?_))
   refine eZ J (gQ J J J J J (gQ J J J J J (dZ mZ ?_)))
   exact fZ (bZ (fQ J (cZ (aZ (gZ J (gZ J (fZ (bZ (rZ (qZ (hX [.slice none 0 0, .int .i64 2] J ⟨rfl, rfl, trivial⟩ (⟨none, 0, [], σ⟩ : BA) ⟨rfl, Lk.mono L (by omega)⟩ J (Imp.trans (osl_nil (E := 5) (sz := 1)) iM))))))))))))
  ·refine aZ (eZ J (dZ eQ ?_))
   refine eZ J (kZ J J (eZ J (kZ J J (dZ kX ?_))))
   refine dZ mZ ?_
   exact fZ (bZ (fQ J (cZ (aZ (gZ J (gZ J (fZ (bZ (rZ (qZ (hX [.slice none 0 0, .int .i64 2] J ⟨rfl, rfl, trivial⟩ (⟨none, 0, [], σ⟩ : BA) ⟨rfl, Lk.mono L (by omega)⟩ J (Imp.trans (osl_nil (E := 5) (sz := 1)) iM))))))))))))
 ·obtain ⟨nn, rfl⟩ := Int.eq_ofNat_of_zero_le (show 0 ≤ nI by omega)
  have hnn : nn ≤ 4096 := by omega
  have hdo : ∀ (b3 b8 bb : Nat) (j : Nat) (A : Ab) (σ' : St) (c' : Nat) (x : Nat × Nat), j < nn → ad + j < 1048576 → A.rt = rt → A.hs = [] → Good n qs A σ' → obs A σ' = o → σ'.hits + σ'.miss ≤ c' → A.pg k ((ad + j) / 256) = some x →
   Ctr prog W0 86 ([.int .i64 x.1, .int .i64 ((ad + j) % 256 : Nat), .int .i64 j, .int .i64 (ends ad nn j : Nat)] ++ [.pointer (some ⟨b3, 0, none⟩), .pointer (some ⟨b8, 0, none⟩)]) (WG m f t n qs σ' (sb s k r m f t :: Star (XI b3 b8 s bb nn (bufI o k ad nn j)) :: Fr)) (fun σ2 : St => Lk n qs rt o c' σ2) (fun _ => .tuple #[]) (fun σ2 => WG m f t n qs σ2 (sb s k r m f t :: Star (XI b3 b8 s bb nn (bufI o k ad nn (ends ad nn j))) :: Fr)) := by
   intro b3 b8 bb j A σ' c' x hjn hlt hrt h0 G ho hcc hx
   have hv : o.vw k ((ad + j) / 256) = some (x.2, frB σ'.bs x.1) := by rw [← ho, vw_obs, hx]; rfl
   have hpl := frB_len G.rep.len (G.plt hx)
   have h := in1_spec W0 Fr (n := n) (qs := qs) (k := k) (s := s) (m := m) (f := f) (t := t) (r := r) (σ := σ') (b3 := b3) (b8 := b8) (bb := bb) (buf := bufI o k ad nn j) hnn bufI_len (G.plt hx) (Nat.mod_lt (ad + j) (show 0 < 256 by decide)) (ends_gt (ad := ad) hjn) ends_le (by unfold ends; omega) G.rep.len
   refine Ctr.re h (fun _ => σ') (fun _ _ => Lk.intro G hrt h0 ho hcc) (fun _ _ => rfl) (fun _ _ => ?_)
   rw [bufI_step hv hpl hjn]; exact Imp.refl _
  refine Ctr.of_body func30 J ntmps30 J (cZ (aZ (kQ (uX J) J ?_)))
  rintro b3 -
  refine gZ J (gZ J (fZ (bZ (cZ (cZ (aZ (eZ J (dZ eQ ?_))))))))
  refine eZ J (kZ J J (eZ J (kZ J J (dZ kX ?_))))
  refine dZ mZ ?_
  refine fZ (bZ (vZ J (uZ (bZ (cZ (aZ (eZ J (kQ (Eff.makeB (k := nn) underlying32 ti5 J J (by omega)) J ?_))))))))
  rintro bb -
  rw [List.length_replicate]
  refine kQ (pX ti32) J ?_
  rintro b8 -
  refine sQ (uQ ti32 J J fC J (by first | (simp; done) | decide)) J ?_
  rintro ⟨⟩ -
  refine fZ (bZ (cZ (aZ (dZ (iZ ti53 J) ?_))))
  refine eZ J (eZ J (dZ (tX (first := []) (cap := [.tmp 3, .tmp 8]) J J) (oZ call85 J (Imp.trans (B := XI b3 b8 s bb nn (bufI o k ad nn 0) ++ WG m f t n qs σ (sb s k r m f t :: Fr)) (by rw [bufI_zero]; unfold oby; rw [List.length_replicate]; exact iM) (Imp.trans star_close iM)) (pieces_spec W0 Fr (n := n) (qs := qs) (k := k) (s := s) (m := m) (f := f) (t := t) (r := r) (F := 86) (ca := [.pointer (some ⟨b3, 0, none⟩), .pointer (some ⟨b8, 0, none⟩)]) call86 (ob := fun _ => o) (X := fun j => Star (XI b3 b8 s bb nn (bufI o k ad nn j))) (pm := pmO o k) (right := 1) (nn := nn) (ad := ad) hnn had (fun _ _ => rfl) L hk hb (hdo b3 b8 bb)) J ?_)))
  rintro ⟨jz, σ2⟩ ⟨h1, h2, h3, L2⟩
  dsimp only at h1 h2 h3 L2 ⊢
  refine gZ J (fZ (bZ (cZ (cZ ?_))))
  rcases Nat.lt_or_ge jz nn with hz | hz
  ·rw [if_pos hz]
   refine aZ (eZ J (dZ (oQ (nX J J) (v' := .bool true) J) (fZ (bZ (fQ J (cZ (aZ (eZ J (gZ J (gZ J (fZ (bZ (rZ (qZ ?_))))))))))))))
   rw [show inO o k ad (nn : Int) = ([], 90) by unfold inO; rw [if_neg hg, Int.toNat_natCast, if_neg (by rw [mayA_f hz (h3 hz)]; decide)]]
   exact hX [.slice none 0 0, .int .i64 90] J ⟨rfl, rfl, trivial⟩ (⟨none, 0, [], σ2⟩ : BA) ⟨rfl, L2⟩ J (Imp.trans (osl_nil (E := 5) (sz := 1)) iM)
  ·rw [if_neg (by omega)]
   refine aZ (eZ J (dZ (oQ (nX J J) (v' := .bool false) J) (fZ (bZ (vZ J (uZ (bZ (cZ (rX (Imp.trans (B := Star (XI b3 b8 s bb nn (bufI o k ad nn jz)) :: WG m f t n qs σ2 (sb s k r m f t :: Fr)) iM star_open) ?_)))))))))
   dsimp only [XI, List.cons_append, List.nil_append]
   obtain rfl : jz = nn := by omega
   refine aZ (dZ (iZ ti32 J) ?_)
   refine gZ J (gZ J (fZ (bZ (rZ ?_))))
   rw [show inO o k ad (jz : Int) = (bufI o k ad jz jz, 0) by unfold inO; rw [if_neg hg, Int.toNat_natCast, if_pos (mayA_t h2)]]
   refine hX [.slice (some ⟨bb, 0, none⟩) jz jz, .int .i64 0] J ⟨rfl, rfl, trivial⟩ (⟨some ⟨bb, 0, none⟩, jz, bufI o k ad jz jz, σ2⟩ : BA) ⟨rfl, L2⟩ (by simp only [bufI_len]; rfl) (by unfold oby; simp only [bufI_len]; exact iM)
theorem out1_spec {a b c d : Int} {G : List HProp} : Ctr prog W0 88 [.int .i64 a, .int .i64 b, .int .i64 c, .int .i64 d] G (fun _ : Unit => True) (fun _ => .tuple #[]) (fun _ => G) := by
 exact Ctr.of_body func88 J ntmps88 J (uZ (qX J () trivial J (Imp.refl _)))
theorem fill_256 {fx : Nat} {bs ws : List UInt8} {a : Option Addr} {c2 : Nat} (hr : RdB W0 Fr a c2 ws) (hk : fx < n) (hw : ws.length = 256) : Ctr prog W0 90 [.pointer (some ⟨m, 0, none⟩), .int .i64 fx, .slice a 256 c2] (M m n bs :: Fr) (fun _ : Unit => True)
 (fun _ => .int .i64 0) (fun _ => M m n (overB bs (fx * 256) (fillB ws)) :: Fr) := by
 have := fill_ok W0 Fr (m := m) (n := n) (k := fx) (bs := bs) hr hk (Nat.le_of_eq hw)
 rw [hw] at this; exact this
abbrev XO (b3 b5 s : Nat) (ba : Option Addr) (bc nn : Nat) : List HProp := [blk b3 [.pointer (some ⟨s, 0, none⟩)] 53, blk b5 [.slice ba nn bc] 32]
theorem out2_spec {b3 b5 j to fx bc : Nat} {at' : Nat} {ba : Option Addr} {b : List UInt8} (hr : RdB W0 Fr ba bc b) (hcap : b.length ≤ bc) (hnn : b.length ≤ 4096) (hfx : fx < n) (ha : at' < 256) (hj : j < to) (hto : to ≤ b.length) (h256 : to - j ≤ 256 - at') (hbs : σ.bs.length = n * 256) :
 Ctr prog W0 89 [.int .i64 fx, .int .i64 at', .int .i64 j, .int .i64 to, .pointer (some ⟨b3, 0, none⟩), .pointer (some ⟨b5, 0, none⟩)] (WG m f t n qs σ (sb s k r m f t :: Star (XO b3 b5 s ba bc b.length) :: Fr)) (fun _ : Unit => True) (fun _ => .tuple #[])
  (fun _ => WG m f t n qs { σ with bs := overB σ.bs (fx * 256 + at') ((b.drop j).take (to - j)) } (sb s k r m f t :: Star (XO b3 b5 s ba bc b.length) :: Fr)) := by
 have hfl := frB_len hbs hfx
 have hyl : ((b.drop j).take (to - j)).length = to - j := by rw [List.length_take, List.length_drop]; omega
 have hwl : (overB (frB σ.bs fx) at' ((b.drop j).take (to - j))).length = 256 := by rw [overB_len (by omega), hfl]
 refine Ctr.imp (Imp.trans (B := Star (XO b3 b5 s ba bc b.length) :: WG m f t n qs σ (sb s k r m f t :: Fr)) iM star_open) ?_
 dsimp only [XO, List.cons_append, List.nil_append]
 refine Ctr.of_body func89 J ntmps89 J (cZ (aZ (dZ (iZ ti53 J) ?_)))
 refine zZ J (pZ fa166_2 J (dZ (iZ ti111 J) ?_))
 refine eZ J (oZ call87 J (iM) (frame_ok W0 _ (m := m) (n := n) (k := fx) (bs := σ.bs) hfx) J ?_)
 rintro bf -
 rw [hfl]
 refine eZ J (dZ (xZ J J) (dZ (xZ J J) (gZ J (gZ J (fZ (bZ (cZ (qQ (.lo 0 1 (.lo 1 1 (.lo 2 1 (.lo 3 1 (.lo 4 1 (.lo 5 1 (.lo 6 1 (.eff1 7 false (.done))))))))) [7] [] ([]) ([]) mixed (by kernel_rfl) (Imp.none _) (Imp.none _) (nZ J J (nZ J J (hZ J (oQ (Yield.slice_in underlying32 ti5 J (Bound.some J) Bound.none (by omega) (by omega) (by omega) (by omega)) (v' := .slice (some ⟨bf, 0 + at', none⟩) (256 - at' : Nat) (256 - at')) (by simp)) ?_)))))))))))
 refine hZ J (iZ ti32 J) ?_
 refine nZ J J (nZ J J (hZ J (oQ (Yield.slice underlying32 ti5 J (Bound.some J) (Bound.some J) (by omega) (by omega) (by omega)) (v' := .slice (ba.map fun a => cutAt a j bc 1) (to - j : Nat) (bc - j)) (by simp)) ?_))
 refine aQ (wQ J J (Eff.copyIn (b := bf) (o := 0) (j := at') (n := 256 - at') (cn := 256 - at') (k := to - j) (ys := bytesV ((b.drop j).take (to - j))) J J J underlying32 ti5 fC (by omega) (by have := SlR.midB (hr.imp (G := XO b3 b5 s ba bc b.length ++ WG m f t n qs σ (sb s k r m f t :: Fr)) iM).slR (l := j) (k := to - j) hcap (by omega); rw [hyl] at this; exact this.imp iM) bytesV_one) J (fun _ => iM) (fun _ => Imp.refl _) (fun _ => iM) ?_)
 rintro ⟨⟩ -
 rw [show min (to - j) (256 - at') = to - j by omega, bytesV_take, List.take_of_length_le (Nat.le_of_eq hyl), over_bytes]
 refine pQ (bZ (aZ (dZ (iZ ti53 J) ?_)))
 refine zZ J (pZ fa166_2 J (dZ (iZ ti111 J) ?_))
 refine eZ J (eZ J (oZ call90 J (iM) (fill_256 W0 _ (m := m) (n := n) (fx := fx) (bs := σ.bs) (ws := overB (frB σ.bs fx) at' ((b.drop j).take (to - j))) (a := some ⟨bf, 0, none⟩) (c2 := 256) (by exact RdB.of_osl (E := 261) eX (by rw [hwl]; first | exact hfl | rfl) J) hfx hwl) J ?_))
 rintro ⟨⟩ -
 rw [overB_frame hbs hfx (by omega)]
 exact fZ (qX J () trivial J (Imp.trans (B := XO b3 b5 s ba bc b.length ++ WG m f t n qs { σ with bs := overB σ.bs (fx * 256 + at') ((b.drop j).take (to - j)) } (sb s k r m f t :: Fr)) iM (Imp.trans star_close iM)))
set_option maxHeartbeats 2000000 in
theorem out_spec {o : Ob} {ba : Option Addr} {bc : Nat} {b : List UInt8} (hr : RdB W0 Fr ba bc b) (hcap : b.length ≤ bc) (L : Lk n qs rt o c σ) (hk : rt k = some r) (hb : c < 1000000000000000000 - 8192) {ad : Nat} (had : ad < 4294967296) : Ctr prog W0 32 [.pointer (some ⟨s, 0, none⟩), .int .u32 ad, .slice ba b.length bc] (WG m f t n qs σ (sb s k r m f t :: Fr))
 (fun σ' : St => Lk n qs rt (outR o k ad b).2 (c + 8192) σ') (fun _ => .int .i64 (outR o k ad b).1) (fun σ' => WG m f t n qs σ' (sb s k r m f t :: Fr)) := by
 have hdo1 : ∀ (Fr' : List HProp) (j : Nat) (A : Ab) (σ' : St) (c' : Nat) (x : Nat × Nat), j < b.length → ad + j < 1048576 → A.rt = rt → A.hs = [] → Good n qs A σ' → obs A σ' = o → σ'.hits + σ'.miss ≤ c' → A.pg k ((ad + j) / 256) = some x →
  Ctr prog W0 88 ([.int .i64 x.1, .int .i64 ((ad + j) % 256 : Nat), .int .i64 j, .int .i64 (ends ad b.length j : Nat)] ++ []) (WG m f t n qs σ' (sb s k r m f t :: Star [] :: Fr')) (fun σ2 : St => Lk n qs rt o c' σ2) (fun _ => .tuple #[]) (fun σ2 => WG m f t n qs σ2 (sb s k r m f t :: Star [] :: Fr')) :=
  fun Fr' j A σ' c' x hjn hlt hrt h0 G ho hcc hx => Ctr.re (out1_spec W0) (fun _ => σ') (fun _ _ => Lk.intro G hrt h0 ho hcc) (fun _ _ => rfl) (fun _ _ => Imp.refl _)
 by_cases hg : 4096 < b.length
 ·have e : outR o k ad b = (2, o) := by unfold outR; rw [if_pos hg]
  rw [e]
  refine Ctr.of_body func32 J ntmps32 J (cZ (aZ (kQ (uX J) J ?_)))
  rintro b3 -
  refine kQ (uX J) J ?_
  rintro b5 -
  refine gZ J (fZ (bZ (cZ (cZ (aZ (dZ (iZ ti32 J) ?_))))))
  refine dZ (sZ underlying32 J J) (dZ kX ?_)
  exact fZ (bZ (fQ J (cZ (aZ (gZ J (fZ (bZ (rZ (qZ (yZ J J σ (Lk.mono L (by omega)) J iM))))))))))
 ·have hnn : b.length ≤ 4096 := by omega
  have hdo2 : ∀ (b3 b5 : Nat) (j : Nat) (A : Ab) (σ' : St) (c' : Nat) (x : Nat × Nat), j < b.length → ad + j < 1048576 → A.rt = rt → A.hs = [] → Good n qs A σ' → obs A σ' = outO o k ad b j → σ'.hits + σ'.miss ≤ c' → A.pg k ((ad + j) / 256) = some x →
   Ctr prog W0 89 ([.int .i64 x.1, .int .i64 ((ad + j) % 256 : Nat), .int .i64 j, .int .i64 (ends ad b.length j : Nat)] ++ [.pointer (some ⟨b3, 0, none⟩), .pointer (some ⟨b5, 0, none⟩)]) (WG m f t n qs σ' (sb s k r m f t :: Star (XO b3 b5 s ba bc b.length) :: Fr)) (fun σ2 : St => Lk n qs rt (outO o k ad b (ends ad b.length j)) c' σ2) (fun _ => .tuple #[]) (fun σ2 => WG m f t n qs σ2 (sb s k r m f t :: Star (XO b3 b5 s ba bc b.length) :: Fr)) := by
   intro b3 b5 j A σ' c' x hjn hlt hrt h0 G ho hcc hx
   have hv : (outO o k ad b j).vw k ((ad + j) / 256) = some (x.2, frB σ'.bs x.1) := by rw [← ho, vw_obs, hx]; rfl
   have hpl := frB_len G.rep.len (G.plt hx)
   have hyl : ((b.drop j).take (ends ad b.length j - j)).length = ends ad b.length j - j := by have := ends_le (ad := ad) (nn := b.length) (j := j); rw [List.length_take, List.length_drop]; omega
   obtain ⟨G2, e2⟩ := G.write (o := (ad + j) % 256) (ys := (b.drop j).take (ends ad b.length j - j)) hx (by rw [hyl]; unfold ends; omega)
   have hst := out_step hv hpl hjn
   have h := out2_spec W0 Fr (n := n) (qs := qs) (k := k) (s := s) (m := m) (f := f) (t := t) (r := r) (σ := σ') (b3 := b3) (b5 := b5) hr hcap hnn (G.plt hx) (Nat.mod_lt (ad + j) (show 0 < 256 by decide)) (ends_gt (ad := ad) hjn) ends_le (by unfold ends; omega) G.rep.len
   refine Ctr.re h (fun _ => { σ' with bs := overB σ'.bs (x.1 * 256 + (ad + j) % 256) ((b.drop j).take (ends ad b.length j - j)) }) (fun _ _ => Lk.intro G2 hrt h0 ?_ hcc) (fun _ _ => rfl) (fun _ _ => Imp.refl _)
   rw [e2, ho, ← hst]; rfl
  refine Ctr.of_body func32 J ntmps32 J (cZ (aZ (kQ (uX J) J ?_)))
  rintro b3 -
  refine kQ (uX J) J ?_
  rintro b5 -
  refine gZ J (fZ (bZ (cZ (cZ (aZ (dZ (iZ ti32 J) ?_))))))
  refine dZ (sZ underlying32 J J) (dZ kX ?_)
  refine fZ (bZ (vZ J (uZ (bZ (cZ (cZ (aZ (dZ (iZ ti53 J) ?_))))))))
  refine eZ J (dZ (iZ ti32 J) ?_)
  refine dZ (sZ underlying32 J J) (oZ call85 J (Imp.trans star_nil iM) (pieces_spec W0 _ (n := n) (qs := qs) (k := k) (s := s) (m := m) (f := f) (t := t) (r := r) (F := 88) (ca := []) call88 (ob := fun _ => o) (X := fun _ => Star []) (pm := pmO o k) (right := 2) (nn := b.length) (ad := ad) hnn had (fun _ _ => rfl) L hk (by omega) (hdo1 (blk b5 [.slice ba b.length bc] 32 :: blk b3 [.pointer (some ⟨s, 0, none⟩)] 53 :: Fr))) J ?_)
  rintro ⟨jz, σ2⟩ ⟨h1, h2, h3, L2⟩
  dsimp only at h1 h2 h3 L2 ⊢
  refine gZ J (fZ (bZ (cZ ?_)))
  rcases Nat.lt_or_ge jz b.length with hz | hz
  ·rw [if_pos hz]
   refine aZ (eZ J (dZ (oQ (nX J J) (v' := .bool true) J) (fZ (bZ (fQ J (cZ (aZ (eZ J (gZ J (fZ (bZ (rZ (qZ ?_)))))))))))))
   rw [show outR o k ad b = (90, o) by unfold outR; rw [if_neg hg, if_neg (by rw [mayA_f hz (h3 hz)]; decide)]]
   exact yZ J J σ2 (Lk.mono L2 (by omega)) J iM
  ·rw [if_neg (by omega)]
   refine aZ (eZ J (dZ (oQ (nX J J) (v' := .bool false) J) (fZ (bZ (vZ J (uZ (bZ (cZ ?_))))))))
   obtain rfl : jz = b.length := by omega
   refine aZ (dZ (iZ ti53 J) ?_)
   refine eZ J (dZ (iZ ti32 J) ?_)
   refine dZ (sZ underlying32 J J) (dZ (tX (first := []) (cap := [.tmp 3, .tmp 5]) J J) (oZ call85 J (Imp.trans (B := XO b3 b5 s ba bc b.length ++ WG m f t n qs σ2 (sb s k r m f t :: Fr)) iM (Imp.trans star_close iM)) (pieces_spec W0 Fr (n := n) (qs := qs) (k := k) (s := s) (m := m) (f := f) (t := t) (r := r) (F := 89) (ca := [.pointer (some ⟨b3, 0, none⟩), .pointer (some ⟨b5, 0, none⟩)]) call89 (ob := outO o k ad b) (X := fun _ => Star (XO b3 b5 s ba bc b.length)) (pm := pmO o k) (right := 2) (nn := b.length) (ad := ad) hnn had (fun j q => outO_pm j k q) (by rw [outO_zero]; exact L2) hk (by omega) (hdo2 b3 b5)) J ?_))
   rintro ⟨jy, σ3⟩ ⟨h4, h5, h6, L3⟩
   dsimp only at h4 h5 h6 L3 ⊢
   have hjy : jy = b.length := by
    rcases Nat.lt_or_ge jy b.length with hy | hy
    ·have q1 := h6 hy
     rw [h2 jy hy] at q1; cases q1
    ·omega
   subst hjy
   rw [if_neg (by omega)]
   refine gZ J (fZ (bZ (rZ ?_)))
   rw [show outR o k ad b = (0, outO o k ad b b.length) by unfold outR; rw [if_neg hg, if_pos (mayA_t h2)]]
   exact yZ J J σ3 (Lk.mono L3 (by omega)) J iM
theorem out_of {o : Ob} {ba : Option Addr} {bc : Nat} {b : List UInt8} (hr : RdB W0 Fr ba bc b) (L : Lk n qs rt o c σ) (hk : rt k = some r) (hb : c < 1000000000000000000 - 8192) {ad : Nat} (had : ad < 4294967296) : Ctr prog W0 32 [.pointer (some ⟨s, 0, none⟩), .int .u32 ad, .slice ba b.length bc] (WG m f t n qs σ (sb s k r m f t :: Fr))
 (fun σ' : St => Lk n qs rt (outR o k ad b).2 (c + 8192) σ') (fun _ => .int .i64 (outR o k ad b).1) (fun σ' => WG m f t n qs σ' (sb s k r m f t :: Fr)) := fun w hw =>
 out_spec W0 Fr hr ((hr w (hw.imp (Imp.trans Imp.drop (Imp.trans Imp.drop (Imp.trans Imp.drop Imp.drop))))).2) L hk hb had w hw
end
end Go.Proofs.YtphljkplokjonaaGreat.Sp
namespace Go.Proofs.YtphljkplokjonaaGreat.Sp
open Go Go.Sl Go.RowKit Go.Proofs Go.Proofs.YtphljkplokjonaaGreat.T Go.Proofs.YtphljkplokjonaaGreat.Me Go.Proofs.YtphljkplokjonaaGreat.Pe Go.Proofs.YtphljkplokjonaaGreat.Pg
structure PVr (W0 : World) (G : List HProp) (a : Option Addr) (l : List PV) : Prop where
 cells : SlR W0 G 3 a l.length ((l.map PV.cells).flatten)
 bytes : ∀ x ∈ l, SlR W0 G 1 x.a x.b.length (bytesV x.b)
theorem PVr.imp {W0 : World} {G G' : List HProp} {a : Option Addr} {l : List PV} (h : PVr W0 G' a l) (i : Imp G G') : PVr W0 G a l := ⟨h.cells.imp i, fun x hx => (h.bytes x hx).imp i⟩
theorem PVr.of {W0 : World} {G : List HProp} {a : Option Addr} {c : Nat} {l : List PV} : PVr W0 (PVL a c l ++ G) a l := by
 refine ⟨SlR.of_osl (E := 180) (c := c) Ext.here, fun x hx => ?_⟩
 obtain ⟨j, hj⟩ := List.mem_iff_getElem?.1 hx
 have hy : (l.map fun x => oby 261 x.a x.c x.b)[j]? = some (oby 261 x.a x.c x.b) := by rw [List.getElem?_map, hj]; rfl
 refine SlR.imp (G' := [oby 261 x.a x.c x.b, Star ((l.map fun x => oby 261 x.a x.c x.b).eraseIdx j)]) (SlR.of_osl (E := 261) (c := x.c) Ext.here) (Imp.trans (B := [Star (l.map fun x => oby 261 x.a x.c x.b)]) ?_ (star_take hy))
 dsimp only [PVL, List.cons_append, List.nil_append]
 exact iM
theorem PVr.at {W0 : World} {G : List HProp} {a : Option Addr} {c : Nat} {l : List PV} (h : Imp G [osl 180 3 a c l.length ((l.map PV.cells).flatten), Star (l.map fun x => oby 261 x.a x.c x.b)]) : PVr W0 G a l := PVr.imp (PVr.of (c := c) (G := [])) h
section
variable (W0 : World) (Fr : List HProp)
theorem take_eq {α : Type} {l m : List α} {i : Nat} {x y : α} (h : l.take i = m.take i) (hx : l[i]? = some x) (hy : m[i]? = some y) (e : x = y) : l.take (i + 1) = m.take (i + 1) := by
 rw [List.take_add_one, List.take_add_one, h, hx, hy, e]
end
abbrev PLU (a : Option Addr) (c : Nat) (l : List PV) : List HProp := [osl 180 3 a c l.length ((l.map PV.cells).flatten), Star (l.map fun x => oby 5 x.a x.c x.b)]
structure PZ where
 a : Option Addr
 c : Nat
 l : List PV
end Go.Proofs.YtphljkplokjonaaGreat.Sp
namespace Go.Proofs.YtphljkplokjonaaGreat.Sp
open Go Go.Sl Go.RowKit Go.Proofs Go.Proofs.YtphljkplokjonaaGreat.T Go.Proofs.YtphljkplokjonaaGreat.Me Go.Proofs.YtphljkplokjonaaGreat.Pe Go.Proofs.YtphljkplokjonaaGreat.Pg
open Go.Proofs.YtphljkplokjonaaGreat.Fz (cnt cnt_set inv_take inv_give free_frame isP left left_in)
abbrev PGv := Nat × Nat × List UInt8
def cost1 (o : Ob) (k p : Nat) : Nat := if o.ts k (p / 64) then 1 else 2
def lay1 (o : Ob) (k : Nat) (x : PGv) : Ob := ⟨up2 o.vw k x.1 (some (x.2.1, x.2.2)), up2 o.ts k (x.1 / 64) true, o.fr - cost1 o k x.1⟩
def layL (o : Ob) (k : Nat) : List PGv → Ob
 | [] => o
 | x :: l => layL (lay1 o k x) k l
def needL (o : Ob) (k : Nat) : List PGv → Nat
 | [] => 0
 | x :: l => cost1 o k x.1 + needL (lay1 o k x) k l
inductive Asc : Int → List PGv → Prop
 | nil {e : Int} : Asc e []
 | cons {e : Int} {x : PGv} {l : List PGv} (h1 : e < x.1) (h2 : x.1 < 4096) (h3 : 1 ≤ x.2.1 ∧ x.2.1 ≤ 7) (h4 : x.2.2.length = 256) (h : Asc x.1 l) : Asc e (x :: l)
theorem Asc.mem {e : Int} {l : List PGv} (h : Asc e l) : ∀ x ∈ l, e < x.1 ∧ x.1 < 4096 ∧ (1 ≤ x.2.1 ∧ x.2.1 ≤ 7) ∧ x.2.2.length = 256 := by
 induction h with
 | nil => intro x h; cases h
 | cons h1 h2 h3 h4 h ih =>
  intro y hy
  rcases List.mem_cons.1 hy with rfl | hy
  ·exact ⟨h1, h2, h3, h4⟩
  ·have := ih y hy; exact ⟨by omega, this.2⟩
theorem layL_snoc {k : Nat} {x : PGv} : ∀ {l : List PGv} {o : Ob}, layL o k (l ++ [x]) = lay1 (layL o k l) k x
 | [], _ => rfl
 | y :: l, o => by show layL (lay1 o k y) k (l ++ [x]) = _; rw [layL_snoc]; rfl
theorem needL_snoc {k : Nat} {x : PGv} : ∀ {l : List PGv} {o : Ob}, needL o k (l ++ [x]) = needL o k l + cost1 (layL o k l) k x.1
 | [], _ => by simp [needL, layL]
 | y :: l, o => by show cost1 o k y.1 + needL (lay1 o k y) k (l ++ [x]) = _; rw [needL_snoc]; simp only [needL, layL]; omega
theorem layL_vw {k : Nat} : ∀ {l : List PGv} {o : Ob} {p : Nat}, (∀ x ∈ l, x.1 ≠ p) → (layL o k l).vw k p = o.vw k p
 | [], _, _, _ => rfl
 | y :: l, o, p, h => by
  show (layL (lay1 o k y) k l).vw k p = _
  rw [layL_vw (fun x hx => h x (List.mem_cons_of_mem _ hx))]
  show up2 o.vw k y.1 _ k p = _
  rw [up2_ne (by have := h y (List.mem_cons_self ..); omega)]
theorem Asc.len {e : Int} {l : List PGv} (h : Asc e l) (he : -1 ≤ e) (he2 : e < 4096) : (l.length : Int) ≤ 4095 - e := by
 induction h with
 | nil => simp; omega
 | cons h1 h2 h3 h4 h ih => have := ih (by omega) (by omega); rw [List.length_cons]; omega
theorem used_lay1 {o : Ob} {k : Nat} {x : PGv} (h1 : o.vw k x.1 = none) (h2 : x.1 < 4096) : used (lay1 o k x) k = used o k + cost1 o k x.1 := by
 have e : mapO (used o k + 2) o k (x.1 : Int) 1 = (0, ⟨up2 o.vw k x.1 (some (1, zs)), up2 o.ts k (x.1 / 64) true, o.fr - cost1 o k x.1⟩) := by
  unfold mapO
  rw [if_neg (by omega), Int.toNat_natCast, if_neg (by rw [h1]; simp), if_neg (by split <;> omega)]
  rfl
 have := used_map (k' := k) (show (mapO (used o k + 2) o k (x.1 : Int) 1).1 = 0 by rw [e])
 rw [e, if_pos J, Int.toNat_natCast] at this
 unfold cost1
 rw [← this]
 unfold used lay1
 dsimp only
 congr 1
 refine cN_congr _ fun p _ => ?_
 by_cases hp : p = x.1
 ·subst hp; rw [up2_at, up2_at]; rfl
 ·rw [up2_ne (by omega), up2_ne (by omega)]
theorem used_lay {k : Nat} : ∀ {l : List PGv} {o : Ob} {e : Int}, Asc e l → (∀ x ∈ l, o.vw k x.1 = none) → used (layL o k l) k = used o k + needL o k l
 | [], _, _, _, _ => rfl
 | x :: l, o, e, ha, h => by
  cases ha with
  | cons a1 a2 a3 a4 a5 =>
   show used (layL (lay1 o k x) k l) k = used o k + (cost1 o k x.1 + needL (lay1 o k x) k l)
   rw [used_lay a5 (fun y hy => by
    have hm := a5.mem y hy
    show up2 o.vw k x.1 _ k y.1 = none
    rw [up2_ne (by omega)]; exact h y (List.mem_cons_of_mem _ hy)), used_lay1 (h x (List.mem_cons_self ..)) a2]
   omega
theorem Asc.before {e : Int} {l : List PGv} (h : Asc e l) : ∀ {i : Nat} {y : PGv}, l[i]? = some y → ∀ x ∈ l.take i, x.1 < y.1 := by
 induction h with
 | nil => intro i y hy; cases hy
 | cons h1 h2 h3 h4 h ih =>
  intro i y hy x hx
  cases i with
  | zero => cases hx
  | succ i =>
   rw [List.getElem?_cons_succ] at hy
   rcases List.mem_cons.1 hx with rfl | hx
   ·have := (h.mem y (List.mem_of_getElem? hy)).1; omega
   ·exact ih hy x hx
end Go.Proofs.YtphljkplokjonaaGreat.Sp
namespace Go.Proofs.YtphljkplokjonaaGreat.Sp
open Go Go.Sl Go.RowKit Go.Proofs Go.Proofs.YtphljkplokjonaaGreat.T Go.Proofs.YtphljkplokjonaaGreat.Me Go.Proofs.YtphljkplokjonaaGreat.Pe Go.Proofs.YtphljkplokjonaaGreat.Pg Tryz
open Go.Proofs.YtphljkplokjonaaGreat.Fz (iv oiv)
structure RZ where
 a : Option Addr
 c : Nat
 l : List PV
 ta : Option Addr
 tc : Nat
abbrev RSO (b w k : Nat) (ts : List Int) (z : RZ) : List HProp := [blk b [.pointer (some ⟨w, 0, none⟩), .int .i64 k, .slice z.a z.l.length z.c, .slice z.ta ts.length z.tc] 264, osl 180 3 z.a z.c z.l.length ((z.l.map PV.cells).flatten), Star (z.l.map fun x => oby 5 x.a x.c x.b), oiv z.ta z.tc ts]
def RS (b w k : Nat) (L : List PGv) (ts : List Int) : HProp := fun h => ∃ z : RZ, z.l.map PV.v = L ∧ Star (RSO b w k ts z) h
theorem rs_open {b w k : Nat} {L : List PGv} {ts : List Int} (y : Heaplet) (h : RS b w k L ts y) : ∃ z : RZ, z.l.map PV.v = L ∧ Star (RSO b w k ts z) y := h
theorem rs_close {b w k : Nat} {L : List PGv} {ts : List Int} {G : List HProp} (z : RZ) (hl : z.l.map PV.v = L) : Imp (RSO b w k ts z ++ G) (RS b w k L ts :: G) := Imp.trans star_close (Imp.head fun y hy => ⟨z, hl, hy⟩)
def fndL (L : List PGv) (p : Int) : Int := match L.findIdx? (fun x => decide ((x.1 : Int) = p)) with | some i => i | none => -1
theorem fndL_at {L : List PGv} {p : Int} {i : Nat} {x : PGv} (hx : L[i]? = some x) (h : (x.1 : Int) = p) (hno : ∀ y ∈ L.take i, (y.1 : Int) ≠ p) : fndL L p = i := by
 obtain ⟨hi, rfl⟩ := List.getElem?_eq_some_iff.1 hx
 have : L.findIdx? (fun x => decide ((x.1 : Int) = p)) = some i := by
  rw [List.findIdx?_eq_some_iff_getElem]
  refine ⟨hi, decide_eq_true h, fun j hj => ?_⟩
  have hm : L[j] ∈ L.take i := by
   rw [List.mem_take_iff_getElem]; exact ⟨j, by omega, rfl⟩
  simpa using hno _ hm
 unfold fndL; rw [this]
theorem fndL_no {L : List PGv} {p : Int} (hno : ∀ y ∈ L, (y.1 : Int) ≠ p) : fndL L p = -1 := by
 have : L.findIdx? (fun x => decide ((x.1 : Int) = p)) = none := by
  rw [List.findIdx?_eq_none_iff]; intro x hx; exact decide_eq_false (hno x hx)
 unfold fndL; rw [this]
theorem take_all {α : Type} {P : α → Prop} {l : List α} {i : Nat} {x : α} (hx : l[i]? = some x) (h : ∀ y ∈ l.take i, P y) (hp : P x) : ∀ y ∈ l.take (i + 1), P y := by
 obtain ⟨q1, q2⟩ := List.getElem?_eq_some_iff.1 hx
 intro y hy
 rw [List.take_succ_eq_append_getElem q1, q2] at hy
 rcases List.mem_append.1 hy with hy | hy
 ·exact h y hy
 ·obtain rfl := List.mem_singleton.1 hy; exact hp
section
variable (W0 : World) (Fr : List HProp)
set_option maxHeartbeats 1000000 in
theorem rfind_at {b w k : Nat} {L : List PGv} {ts : List Int} {z : RZ} (hz : z.l.map PV.v = L) (hL : L.length ≤ 1000000) (p : Int) : Ctr prog W0 198 [.pointer (some ⟨b, 0, none⟩), .int .i64 p] (RSO b w k ts z ++ Fr) (fun _ : Unit => True) (fun _ => .int .i64 (fndL L p)) (fun _ => RSO b w k ts z ++ Fr) := by
 have hzl : z.l.length = L.length := by rw [← hz, List.length_map]
 dsimp only [RSO, List.cons_append, List.nil_append]
 refine Ctr.of_body func198 J ntmps198 J (cZ (aZ (gZ J (fZ (bZ (cZ (cZ (aZ (gZ J (fZ (bZ (mQ ?_))))))))))))
 refine mX (fun i : Nat => i ≤ L.length ∧ ∀ y ∈ L.take i, (y.1 : Int) ≠ p) (fun i => [(0, .pointer (some ⟨b, 0, none⟩)), (1, .int .i64 p), (5, .int .i64 i)]) (fun _ => RSO b w k ts z ++ Fr) (fun i => L.length - i) 0 ⟨Nat.zero_le _, fun y h => by cases h⟩ eS iM ?_
 rintro i ⟨hi, hno⟩
 dsimp only [RSO, List.cons_append, List.nil_append]
 refine cZ (cZ (aZ (eZ J (eZ J (zZ J (pZ fa264_2 J (dZ (iZ ti36 J) ?_)))))))
 refine dZ (sZ underlying36 J J) (dZ eQ ?_)
 refine fZ (bZ (lQ J (fun hc => ?_) (fun hc => ?_)))
 ·try replace hc := odT hc
  obtain ⟨y, hy⟩ : ∃ y, z.l[i]? = some y := ⟨_, List.getElem?_eq_getElem (by omega)⟩
  have hyv : L[i]? = some y.v := by rw [← hz, List.getElem?_map, hy]; rfl
  obtain ⟨za, zc, zl, zta, ztc⟩ := z
  dsimp only at hz hzl hy hc ⊢
  refine lX (fun w hw => SlR.elem_shape (W0 := W0) (f := PV.cells) (xs := zl) (i := i) (SlR.of_osl (E := 180) (a := za) (c := zc) eX) PV.len (by decide) (by omega) w hw) ?_
  rintro ⟨ol, oo, rfl⟩
  refine uZ (bZ (cZ (mQ (cZ (aZ (eZ J (zZ J (pZ fa264_2 J (dZ (iZ ti36 J) ?_)))))))))
  refine eZ J (dZ (lZ underlying36 ti180 J J (by omega) (by omega)) ?_)
  refine pZ fa180_0 J (dZ (jZ (v := .int .i64 y.p) ti3 J (by rw [show oo + (i : Int).toNat * 3 = oo + i * 3 by omega]; exact (SlR.elem (f := PV.cells) (xs := zl) (i := i) (SlR.of_osl (W0 := W0) (E := 180) (c := zc) eX) PV.len hy) 0 _ J)) ?_)
  refine eZ J (dZ (yQ J J) (fZ (bZ (lQ J (fun hc => ?_) (fun hc => ?_)))))
  ·try replace hc := odT hc
   refine cZ (aZ (eZ J (gZ J (fZ (bZ (rZ (nQ (qZ (qZ (nQ (qZ ?_)))))))))))
   rw [fndL_at hyv hc hno]
   exact yZ J J () trivial J iM
  ·try replace hc := odF hc
   exact uZ (tZ (bZ (aZ (eZ J (dZ (hQ J J wO) (gZ J (fZ (gX (i + 1) ⟨by omega, take_all hyv hno hc⟩ (by first | omega | (simp only; omega)) eS iM))))))))
 ·try replace hc := odF hc
  refine iX (bQ (bQ (tQ (bZ (cZ (aZ (gZ J (fZ (bZ (rZ ?_))))))))))
  rw [fndL_no (by rw [List.take_of_length_le (by omega)] at hno; exact hno)]
  exact yZ J J () trivial J iM
theorem rfind_spec {b w k : Nat} {L : List PGv} {ts : List Int} (hL : L.length ≤ 1000000) (p : Int) : Ctr prog W0 198 [.pointer (some ⟨b, 0, none⟩), .int .i64 p] (RS b w k L ts :: Fr) (fun _ : Unit => True) (fun _ => .int .i64 (fndL L p)) (fun _ => RS b w k L ts :: Fr) := by
 refine Ctr.ex Ext.here rs_open ?_
 intro z hz
 exact Ctr.imp star_open ((rfind_at W0 Fr hz hL p).to id (fun _ h => h) (fun _ => rfl) (fun _ => rs_close z hz))
set_option maxHeartbeats 1000000 in
theorem rtable_spec {b w k : Nat} {L : List PGv} {ts : List Int} (hL : ts.length ≤ 1000000) (g : Int) : Ctr prog W0 224 [.pointer (some ⟨b, 0, none⟩), .int .i64 g] (RS b w k L ts :: Fr) (fun _ : Unit => True) (fun _ => .bool (decide (g ∈ ts))) (fun _ => RS b w k L ts :: Fr) := by
 refine Ctr.ex Ext.here rs_open ?_
 intro z hz
 refine Ctr.imp star_open ?_
 dsimp only [RSO, List.cons_append, List.nil_append]
 refine Ctr.of_body func224 J ntmps224 J (cZ (aZ (gZ J (fZ (bZ (cZ (cZ (aZ (gZ J (fZ (bZ (mQ ?_))))))))))))
 refine mX (fun i : Nat => i ≤ ts.length ∧ ∀ y ∈ ts.take i, y ≠ g) (fun i => [(0, .pointer (some ⟨b, 0, none⟩)), (1, .int .i64 g), (5, .int .i64 i)]) (fun _ => RSO b w k ts z ++ Fr) (fun i => ts.length - i) 0 ⟨Nat.zero_le _, fun y h => by cases h⟩ eS iM ?_
 rintro i ⟨hi, hno⟩
 dsimp only [RSO, List.cons_append, List.nil_append]
 refine cZ (cZ (aZ (eZ J (eZ J (zZ J (pZ fa264_3 J (dZ (iZ ti80 J) ?_)))))))
 refine dZ (sZ underlying80 J J) (dZ eQ ?_)
 refine fZ (bZ (lQ J (fun hc => ?_) (fun hc => ?_)))
 ·try replace hc := odT hc
  obtain ⟨y, hy⟩ : ∃ y, ts[i]? = some y := ⟨_, List.getElem?_eq_getElem (by omega)⟩
  obtain ⟨za, zc, zl, zta, ztc⟩ := z
  dsimp only at hz hc ⊢
  have hyi : (iv ts)[i]? = some (.int .i64 y) := by simp [iv, hy]
  refine lX (fun w hw => SlR.shape (SlR.of_osl (W0 := W0) (E := 3) (a := zta) (c := ztc) eX) (fun q => by rw [q] at hyi; cases hyi) w hw) ?_
  rintro ⟨ol, oo, rfl⟩
  refine uZ (bZ (cZ (mQ (cZ (aZ (eZ J (zZ J (pZ fa264_3 J (dZ (iZ ti80 J) ?_)))))))))
  refine eZ J (dZ (lZ underlying80 ti3 J J (by omega) (by omega)) ?_)
  refine dZ (jZ (v := .int .i64 y) ti3 J (by rw [show oo + (i : Int).toNat * 1 = oo + i by omega]; exact (SlR.of_osl (W0 := W0) (E := 3) (c := ztc) eX).cel (i := i) hyi)) ?_
  refine eZ J (dZ (yQ J J) (fZ (bZ (lQ J (fun hc => ?_) (fun hc => ?_)))))
  ·try replace hc := odT hc
   refine cZ (aZ (gZ J (fZ (bZ (rZ (nQ (qZ (qZ (nQ (qZ ?_))))))))))
   subst hc
   rw [decide_eq_true (List.mem_of_getElem? hy)]
   exact yZ J J () trivial J (rs_close ⟨za, zc, zl, some ⟨ol, oo, none⟩, ztc⟩ hz)
  ·try replace hc := odF hc
   exact uZ (tZ (bZ (aZ (eZ J (dZ (hQ J J wO) (gZ J (fZ (gX (i + 1) ⟨by omega, take_all hy hno hc⟩ (by first | omega | (simp only; omega)) eS iM))))))))
 ·try replace hc := odF hc
  refine iX (bQ (bQ (tQ (bZ (cZ (aZ (gZ J (fZ (bZ (rZ ?_))))))))))
  rw [List.take_of_length_le (by omega)] at hno
  rw [decide_eq_false (fun q => hno g q J)]
  exact yZ J J () trivial J (rs_close z hz)
end
theorem pvTo_in {o : Ob} {k : Nat} {x : PGv} : ∀ {p : Nat}, x ∈ pvTo o k p → x.1 < p ∧ o.vw k x.1 = some (x.2.1, x.2.2)
 | 0, h => by cases h
 | p + 1, h => by
  unfold pvTo at h
  rcases List.mem_append.1 h with h | h
  ·have := pvTo_in h
   exact ⟨by omega, this.2⟩
  ·revert h
   cases hv : o.vw k p with
   | none => intro h; cases h
   | some y =>
    intro h
    obtain rfl := List.mem_singleton.1 h
    exact ⟨by simp, hv⟩
def optP (p : Nat) (v : Option (Nat × List UInt8)) : List PGv := match v with | some x => [(p, x.1, x.2)] | none => []
def pvR (o : Ob) (k a : Nat) : Nat → List PGv
 | 0 => []
 | d + 1 => pvR o k a d ++ optP (a + d) (o.vw k (a + d))
theorem pvTo_succ {o : Ob} {k p : Nat} : pvTo o k (p + 1) = pvTo o k p ++ optP p (o.vw k p) := by
 show pvTo o k p ++ _ = _
 unfold optP; cases o.vw k p <;> rfl
theorem pvTo_cut {o : Ob} {k p : Nat} : ∀ d, pvTo o k (p + 1 + d) = pvTo o k p ++ optP p (o.vw k p) ++ pvR o k (p + 1) d
 | 0 => by rw [pvTo_succ]; simp [pvR]
 | d + 1 => by
  show pvTo o k (p + 1 + d + 1) = _
  rw [pvTo_succ, pvTo_cut d, show pvR o k (p + 1) (d + 1) = pvR o k (p + 1) d ++ optP (p + 1 + d) (o.vw k (p + 1 + d)) from J, List.append_assoc]
theorem pvs_cut (o : Ob) (k : Nat) {p : Nat} (hp : p < 4096) : pvs o k = pvTo o k p ++ optP p (o.vw k p) ++ pvR o k (p + 1) (4095 - p) := by
 have := pvTo_cut (o := o) (k := k) (p := p) (4095 - p)
 rw [show p + 1 + (4095 - p) = 4096 by omega] at this
 exact this
theorem pvTo_congr {o o' : Ob} {k : Nat} : ∀ {p : Nat}, (∀ q, q < p → o.vw k q = o'.vw k q) → pvTo o k p = pvTo o' k p
 | 0, _ => rfl
 | p + 1, h => by rw [pvTo_succ, pvTo_succ, pvTo_congr (fun q hq => h q (by omega)), h p (by omega)]
theorem pvR_congr {o o' : Ob} {k a : Nat} : ∀ {d : Nat}, (∀ q, a ≤ q → o.vw k q = o'.vw k q) → pvR o k a d = pvR o' k a d
 | 0, _ => rfl
 | d + 1, h => by unfold pvR; rw [pvR_congr h, h (a + d) (by omega)]
theorem pvR_in {o : Ob} {k a : Nat} {x : PGv} : ∀ {d : Nat}, x ∈ pvR o k a d → a ≤ x.1
 | 0, h => by cases h
 | d + 1, h => by
  unfold pvR at h
  rcases List.mem_append.1 h with h | h
  ·exact pvR_in h
  ·revert h; unfold optP
   cases o.vw k (a + d) with
   | none => intro h; cases h
   | some y => intro h; obtain rfl := List.mem_singleton.1 h; simp
theorem pvs_upd {o : Ob} {k p fr : Nat} {v : Option (Nat × List UInt8)} {ts : Nat → Nat → Bool} (hp : p < 4096) : pvs ⟨up2 o.vw k p v, ts, fr⟩ k = pvTo o k p ++ optP p v ++ pvR o k (p + 1) (4095 - p) := by
 rw [pvs_cut _ k hp]
 congr 1
 ·congr 1
  ·exact pvTo_congr fun q hq => up2_ne (by omega)
  ·congr 1; exact up2_at
 ·exact pvR_congr fun q hq => up2_ne (by omega)
theorem fnd_some {o : Ob} {k p : Nat} {x : Nat × List UInt8} (hp : p < 4096) (hx : o.vw k p = some x) : fndL (pvs o k) (p : Int) = ((pvTo o k p).length : Int) ∧ (pvs o k)[(pvTo o k p).length]? = some (p, x.1, x.2) := by
 have e := pvs_cut o k hp
 rw [hx] at e
 have h1 : (pvs o k)[(pvTo o k p).length]? = some (p, x.1, x.2) := by
  rw [e, List.append_assoc, List.getElem?_append_right (Nat.le_refl _), Nat.sub_self]; rfl
 refine ⟨fndL_at h1 J fun y hy => ?_, h1⟩
 rw [e, List.append_assoc, List.take_left'] at hy
 ·have := (pvTo_in hy).1; omega
 ·rfl
theorem fnd_none {o : Ob} {k : Nat} {p : Int} (hx : vI o k p = none) : fndL (pvs o k) p = -1 := by
 refine fndL_no fun y hy e => ?_
 obtain ⟨h1, h2⟩ := pvTo_in hy
 unfold vI at hx
 rw [if_pos (by omega), ← e, Int.toNat_natCast, h2] at hx
 cases hx
theorem pvs_len (o : Ob) (k : Nat) : (pvs o k).length ≤ 4096 := by rw [pvTo_len]; exact cN_le _ _
section
variable (W0 : World) (Fr : List HProp)
theorem rpages_ok (p : Int) : Ctr prog W0 200 [.int .i64 p] Fr (fun _ : Unit => True) (fun _ => .bool (decide (0 ≤ p ∧ p < 4096))) (fun _ => Fr) := by
 refine Ctr.of_body func200 J ntmps200 J (cZ (aZ (gZ J (fZ (bZ (cZ ?_))))))
 rcases (show p < 0 ∨ 0 ≤ p by omega) with hh | hh
 ·refine aZ (eZ J (dZ cX ?_))
  refine eZ J (gQ J J J J J (gQ J J J J J (dZ mZ ?_)))
  exact gZ J (fZ (bZ (rZ (yZ J J () trivial (by first | (rw [decide_eq_false (by omega)]; done) | (congr 1; simp [hh])) iM))))
 ·refine aZ (eZ J (dZ cX ?_))
  refine eZ J (kZ J J (eZ J (kZ J J (dZ eQ ?_))))
  refine dZ mZ ?_
  exact gZ J (fZ (bZ (rZ (yZ J J () trivial (by first | (rw [decide_eq_false (by omega)]; done) | (congr 1; simp [hh])) iM))))
theorem rperms_ok (p : Int) : Ctr prog W0 201 [.int .i64 p] Fr (fun _ : Unit => True) (fun _ => .bool (decide (1 ≤ p ∧ p ≤ 7))) (fun _ => Fr) := by
 refine Ctr.of_body func201 J ntmps201 J (cZ (aZ (gZ J (fZ (bZ (cZ ?_))))))
 rcases (show p < 1 ∨ 1 ≤ p by omega) with hh | hh
 ·refine aZ (eZ J (dZ cX ?_))
  refine eZ J (gQ J J J J J (gQ J J J J J (dZ mZ ?_)))
  exact gZ J (fZ (bZ (rZ (yZ J J () trivial (by first | (rw [decide_eq_false (by omega)]; done) | (congr 1; simp [hh])) iM))))
 ·refine aZ (eZ J (dZ cX ?_))
  refine eZ J (kZ J J (eZ J (kZ J J (dZ Yield.leqA ?_))))
  refine dZ mZ ?_
  exact gZ J (fZ (bZ (rZ (yZ J J () trivial (by first | (rw [decide_eq_false (by omega)]; done) | (congr 1; simp [hh])) iM))))
end
def prmO (o : Ob) (k : Nat) (p : Int) : Int := match vI o k p with | some x => x.1 | none => 0
theorem vI_some {o : Ob} {k : Nat} {p : Int} {x : Nat × List UInt8} (h : vI o k p = some x) : ∃ q : Nat, p = q ∧ q < 4096 ∧ o.vw k q = some x := by
 unfold vI at h
 by_cases hp : 0 ≤ p ∧ p < 4096
 ·rw [if_pos hp] at h; exact ⟨p.toNat, by omega, by omega, h⟩
 ·rw [if_neg hp] at h; cases h
theorem pv_at {o : Ob} {k q : Nat} {x : Nat × List UInt8} {z : RZ} (hz : z.l.map PV.v = pvs o k) (hq : q < 4096) (hx : o.vw k q = some x) : ∃ y, z.l[(pvTo o k q).length]? = some y ∧ y.p = q ∧ y.pm = x.1 ∧ y.b = x.2 := by
 have h := (fnd_some hq hx).2
 rw [← hz, List.getElem?_map] at h
 obtain ⟨y, h1, h2⟩ := Option.map_eq_some_iff.1 h
 exact ⟨y, h1, congrArg (·.1) h2, congrArg (·.2.1) h2, congrArg (·.2.2) h2⟩
section
variable (W0 : World) (Fr : List HProp)
variable {o : Ob} {b w k : Nat} {ts : List Int}
theorem rperm_spec (p : Int) : Ctr prog W0 197 [.pointer (some ⟨b, 0, none⟩), .int .i64 p] (RS b w k (pvs o k) ts :: Fr) (fun _ : Unit => True) (fun _ => .int .i64 (prmO o k p)) (fun _ => RS b w k (pvs o k) ts :: Fr) := by
 have hpl := pvs_len o k
 cases hv : vI o k p with
 | none =>
  have e := fnd_none hv
  rw [show prmO o k p = 0 by unfold prmO; rw [hv]]
  refine Ctr.of_body func197 J ntmps197 J (cZ (aZ (gZ J (fZ (bZ (cZ (aZ (eZ J (eZ J (oZ call198 J (iM) (rfind_spec W0 _ (b := b) (w := w) (k := k) (L := pvs o k) (ts := ts) (by omega) p) J ?_))))))))))
  rintro ⟨⟩ -
  rw [e]
  refine gZ J (fZ (bZ (cZ (cZ (aZ (eZ J (dZ eQ ?_)))))))
  exact fZ (bZ (fQ J (cZ (aZ (gZ J (fZ (bZ (rZ (qZ (yZ J J () trivial J iM))))))))))
 | some x =>
  obtain ⟨q, rfl, hq, hx⟩ := vI_some hv
  obtain ⟨e, -⟩ := fnd_some hq hx
  rw [show prmO o k (q : Int) = x.1 by unfold prmO; rw [hv]]
  refine Ctr.of_body func197 J ntmps197 J (cZ (aZ (gZ J (fZ (bZ (cZ (aZ (eZ J (eZ J (oZ call198 J (iM) (rfind_spec W0 _ (b := b) (w := w) (k := k) (L := pvs o k) (ts := ts) (by omega) (q : Int)) J ?_))))))))))
  rintro ⟨⟩ -
  rw [e]
  refine gZ J (fZ (bZ (cZ (cZ (aZ (eZ J (dZ eQ ?_)))))))
  refine fZ (bZ (vZ J (uZ (bZ (cZ (kV (A := RS b w k (pvs o k) ts) eX rs_open ?_))))))
  rintro ⟨za, zc, zl, zta, ztc⟩ hz
  refine rX star_open ?_
  dsimp only [RSO, List.cons_append, List.nil_append] at hz ⊢
  obtain ⟨y, hy, y1, y2, y3⟩ := pv_at (z := ⟨za, zc, zl, zta, ztc⟩) hz hq hx
  dsimp only at hy
  have hil := (List.getElem?_eq_some_iff.1 hy).1
  refine lX (fun w hw => SlR.elem_shape (W0 := W0) (f := PV.cells) (xs := zl) (i := (pvTo o k q).length) (SlR.of_osl (E := 180) (a := za) (c := zc) eX) PV.len (by decide) hil w hw) ?_
  rintro ⟨ol, oo, rfl⟩
  generalize (pvTo o k q).length = ii at *
  refine aZ (eZ J (zZ J (pZ fa264_2 J (dZ (iZ ti36 J) ?_))))
  refine eZ J (dZ (lZ underlying36 ti180 J J (by omega) (by omega)) ?_)
  refine pZ fa180_1 J (dZ (jZ (v := .int .i64 y.pm) ti3 J (by rw [show oo + (ii : Int).toNat * 3 + 1 = oo + ii * 3 + 1 by omega]; exact (SlR.elem (f := PV.cells) (xs := zl) (i := ii) (SlR.of_osl (W0 := W0) (E := 180) (c := zc) eX) PV.len hy) 1 _ J)) ?_)
  exact gZ J (fZ (bZ (rZ (yZ J J () trivial (by rw [y2]) (rs_close ⟨some ⟨ol, oo, none⟩, zc, zl, zta, ztc⟩ hz)))))
def rmay (o : Ob) (k : Nat) (a how : Int) : Bool := decide (0 ≤ a ∧ a < 1048576 ∧ how ≠ 0 ∧ prmO o k (a / 256) ≠ 0 ∧ Go.bits .and .i64 (prmO o k (a / 256)) how = how)
theorem rmay_spec {a how : Int} (hh : 0 ≤ how ∧ how ≤ 7) : Ctr prog W0 155 [.pointer (some ⟨b, 0, none⟩), .int .i64 a, .int .i64 how] (RS b w k (pvs o k) ts :: Fr) (fun _ : Unit => True) (fun _ => .bool (rmay o k a how)) (fun _ => RS b w k (pvs o k) ts :: Fr) := by
 have hmod : Int.tmod how 8 = how := by rw [Int.tmod_eq_emod_of_nonneg hh.1]; omega
 refine Ctr.of_body func155 J ntmps155 J (cZ (aZ (gZ J (fZ (bZ (cZ (cZ ?_)))))))
 rcases (show a < 0 ∨ (0 ≤ a ∧ 1048576 ≤ a) ∨ ((0 ≤ a ∧ a < 1048576) ∧ how = 0) ∨ ((0 ≤ a ∧ a < 1048576) ∧ how ≠ 0) by omega) with hr | hr | hr | hr
 ·rw [show rmay o k a how = false from decide_eq_false (by omega)]
  refine aZ (eZ J (dZ eQ ?_))
  refine eZ J (gQ J J J J J (gQ J J J J J (dZ mZ ?_)))
  refine eZ J (gQ J J J J J (gQ J J J J J (gQ J J J J J (dZ mZ ?_))))
  exact fZ (bZ (fQ J (cZ (aZ (gZ J (fZ (bZ (rZ (qZ (yZ J J () trivial J iM))))))))))
 ·rw [show rmay o k a how = false from decide_eq_false (by omega)]
  refine aZ (eZ J (dZ eQ ?_))
  refine eZ J (kZ J J (eZ J (kZ J J (dZ cX ?_))))
  refine dZ mZ ?_
  refine eZ J (gQ J J J J J (gQ J J J J J (gQ J J J J J (dZ mZ ?_))))
  refine fZ (bZ (fQ J (cZ (aZ (gZ J (fZ (bZ (rZ (qZ ?_)))))))))
  first | exact yZ J J () trivial J iM | exact yZ J J () trivial (congrArg Value.bool (decide_eq_decide.2 ⟨fun q => ⟨hr.1.1, hr.1.2, hr.2, hp, q⟩, fun q => q.2.2.2.2⟩)) iM
 ·rw [show rmay o k a how = false from decide_eq_false (by omega)]
  refine aZ (eZ J (dZ eQ ?_))
  refine eZ J (kZ J J (eZ J (kZ J J (dZ cX ?_))))
  refine dZ mZ ?_
  refine eZ J (kZ J J (eZ J (kZ J J (dZ (xX (c := how) J J (by decide) hmod) (kZ J J (dZ zX ?_))))))
  refine dZ mZ ?_
  exact fZ (bZ (fQ J (cZ (aZ (gZ J (fZ (bZ (rZ (qZ (yZ J J () trivial J iM))))))))))
 ·refine aZ (eZ J (dZ eQ ?_))
  refine eZ J (kZ J J (eZ J (kZ J J (dZ cX ?_))))
  refine dZ mZ ?_
  refine eZ J (kZ J J (eZ J (kZ J J (dZ (xX (c := how) J J (by decide) hmod) (kZ J J (dZ zX ?_))))))
  refine dZ mZ ?_
  refine fZ (bZ (vZ J (uZ (bZ (cZ (aZ (eZ J (eZ J (dZ (dV J J (by omega) (tdiv_pos (by omega) (by omega) (by omega))) ?_)))))))))
  refine oZ call197 J (iM) (rperm_spec W0 _ (o := o) (b := b) (w := w) (k := k) (ts := ts) (a / 256)) J ?_
  rintro ⟨⟩ -
  refine gZ J (fZ (bZ (cZ ?_)))
  rcases Decidable.em (prmO o k (a / 256) = 0) with hp | hp
  ·rw [show rmay o k a how = false from decide_eq_false (fun q => q.2.2.2.1 hp)]
   refine aZ (eZ J (dZ (oQ (nX J J) (v' := .bool false) (bF (by simpa using hp))) ?_))
   refine eZ J (gQ J J J J J (gQ J J J J J (gQ J J J J J (gQ J J J J J (gQ J J J J J (gQ J J J J J (gQ J J J J J (dZ mZ ?_))))))))
   exact gZ J (fZ (bZ (rZ (yZ J J () trivial J iM))))
  ·refine aZ (eZ J (dZ (oQ (nX J J) (v' := .bool true) (bT hp)) (eZ J (kZ J J (eZ J (kZ J J (eZ J (kZ J J (dZ (xX (c := how) J J (by decide) hmod) (kZ J J (dZ (cV J J J J) (kZ J J (eZ J (kZ J J (dZ (xX (c := how) J J (by decide) hmod) (kZ J J (dZ (yQ J J) (dZ mZ ?_))))))))))))))))))
   refine gZ J (fZ (bZ (rZ ?_)))
   first | exact yZ J J () trivial J iM | exact yZ J J () trivial (congrArg Value.bool (decide_eq_decide.2 ⟨fun q => ⟨hr.1.1, hr.1.2, hr.2, hp, q⟩, fun q => q.2.2.2.2⟩)) iM
theorem pvs_set {p fr : Nat} {x v : Nat × List UInt8} {tb : Nat → Nat → Bool} (hp : p < 4096) (hx : o.vw k p = some x) : (pvs o k).set (pvTo o k p).length (p, v.1, v.2) = pvs ⟨up2 o.vw k p (some v), tb, fr⟩ k := by
 rw [pvs_upd hp, pvs_cut o k hp, hx, List.append_assoc, List.append_assoc, List.set_append_right _ _ (Nat.le_refl _), Nat.sub_self]
 rfl
theorem rs_upd {ol oo zc : Nat} {zl : List PV} {zta : Option Addr} {ztc ii : Nat} {y y' : PV} {L : List PGv} {G : List HProp} (hy : zl[ii]? = some y) (hc : y'.cells = y.cells) (hL : (zl.map PV.v).set ii y'.v = L) :
 Imp (oby 5 y'.a y'.c y'.b :: Star ((zl.map fun x => oby 5 x.a x.c x.b).eraseIdx ii) :: blk b [.pointer (some ⟨w, 0, none⟩), .int .i64 k, .slice (some ⟨ol, oo, none⟩) zl.length zc, .slice zta ts.length ztc] 264 :: osl 180 3 (some ⟨ol, oo, none⟩) zc zl.length ((zl.map PV.cells).flatten) :: oiv zta ztc ts :: G) (RS b w k L ts :: G) := by
 refine Imp.trans (star_put (i := ii) (A := oby 5 y.a y.c y.b) (by rw [List.getElem?_map, hy]; rfl)) ?_
 refine Imp.trans (B := RSO b w k ts ⟨some ⟨ol, oo, none⟩, zc, zl.set ii y', zta, ztc⟩ ++ G) ?_ (rs_close _ (by rw [← hL, List.map_set]))
 dsimp only [RSO, List.cons_append, List.nil_append]
 rw [List.length_set, List.map_set, List.map_set, hc, Ms.set_self (l := zl.map PV.cells) (by rw [List.getElem?_map, hy]; rfl)]
 exact iM
def putO (o : Ob) (k a : Nat) (c : UInt8) : Ob := ⟨up2 o.vw k (a / 256) ((o.vw k (a / 256)).map fun x => (x.1, x.2.set (a % 256) c)), o.ts, o.fr⟩
set_option maxHeartbeats 1000000 in
theorem rput_spec {a : Nat} {c : UInt8} {x : Nat × List UInt8} (ha : a < 1048576) (hx : o.vw k (a / 256) = some x) (hxl : x.2.length = 256) : Ctr prog W0 156 [.pointer (some ⟨b, 0, none⟩), .int .i64 a, byteV c] (RS b w k (pvs o k) ts :: Fr) (fun _ : Unit => True) (fun _ => .tuple #[]) (fun _ => RS b w k (pvs (putO o k a c) k) ts :: Fr) := by
 have hpl := pvs_len o k
 have hq : a / 256 < 4096 := by omega
 obtain ⟨e, -⟩ := fnd_some hq hx
 refine Ctr.of_body func156 J ntmps156 J (cZ (aZ (eZ J (eZ J (dZ (oQ (dV J J (by omega) (tdiv_pos (by omega) (by omega) (by omega))) (v' := .int .i64 ((a / 256 : Nat) : Int)) (by congr 1)) ?_)))))
 refine oZ call198 J (iM) (rfind_spec W0 _ (b := b) (w := w) (k := k) (L := pvs o k) (ts := ts) (by omega) ((a / 256 : Nat) : Int)) J ?_
 rintro ⟨⟩ -
 rw [e]
 refine gZ J (fZ (bZ (kV (A := RS b w k (pvs o k) ts) eX rs_open ?_)))
 rintro ⟨za, zc, zl, zta, ztc⟩ hz
 refine rX star_open ?_
 dsimp only [RSO, List.cons_append, List.nil_append] at hz ⊢
 obtain ⟨y, hy, y1, y2, y3⟩ := pv_at (z := ⟨za, zc, zl, zta, ztc⟩) hz hq hx
 dsimp only at hy
 have hil := (List.getElem?_eq_some_iff.1 hy).1
 have hps := pvs_set (o := o) (k := k) (v := (x.1, x.2.set (a % 256) c)) (tb := o.ts) (fr := o.fr) hq hx
 have hpo : putO o k a c = ⟨up2 o.vw k (a / 256) (some (x.1, x.2.set (a % 256) c)), o.ts, o.fr⟩ := by unfold putO; rw [hx]; rfl
 rw [← hpo] at hps
 refine lX (fun w hw => SlR.elem_shape (W0 := W0) (f := PV.cells) (xs := zl) (i := (pvTo o k (a / 256)).length) (SlR.of_osl (E := 180) (a := za) (c := zc) eX) PV.len (by decide) hil w hw) ?_
 rintro ⟨ol, oo, rfl⟩
 generalize (pvTo o k (a / 256)).length = ii at *
 have hyS : (zl.map fun x => oby 5 x.a x.c x.b)[ii]? = some (oby 5 y.a y.c y.b) := by rw [List.getElem?_map, hy]; rfl
 refine rX (Imp.trans (B := Star (zl.map fun x => oby 5 x.a x.c x.b) :: blk b [.pointer (some ⟨w, 0, none⟩), .int .i64 k, .slice (some ⟨ol, oo, none⟩) zl.length zc, .slice zta ts.length ztc] 264 :: osl 180 3 (some ⟨ol, oo, none⟩) zc zl.length ((zl.map PV.cells).flatten) :: oiv zta ztc ts :: Fr) iM (star_take hyS)) ?_
 obtain ⟨yp, ypm, ya, yc, yb⟩ := y
 dsimp only at y1 y2 y3 ⊢
 subst y1 y2 y3
 refine lX (fun w hw => SlR.shape (SlR.of_osl (W0 := W0) (E := 5) (a := ya) (c := yc) eX) (fun q => by have := congrArg List.length q; rw [bytesV_length, hxl] at this; cases this) w hw) ?_
 rintro ⟨yb', yo, rfl⟩
 refine aZ (eZ J (zZ J (pZ fa264_2 J (dZ (iZ ti36 J) ?_))))
 refine eZ J (dZ (lZ underlying36 ti180 J J (by omega) (by omega)) ?_)
 refine pZ fa180_2 J (dZ (jZ (v := .slice (some ⟨yb', yo, none⟩) x.2.length yc) ti32 J (by rw [show oo + (ii : Int).toNat * 3 + 2 = oo + ii * 3 + 2 by omega]; exact (SlR.elem (f := PV.cells) (xs := zl) (i := ii) (SlR.of_osl (W0 := W0) (E := 180) (c := zc) eX) PV.len hy) 2 _ J)) ?_)
 refine eZ J (dZ (oQ (xX J J (by omega) (tmod_pos (by omega) (by omega))) (v' := .int .i64 ((a % 256 : Nat) : Int)) (by congr 1)) ?_)
 refine eZ J (dZ (lZ underlying32 ti5 J J (by omega) (by omega)) ?_)
 refine sQ (Eff.storeByteS (b := yb') (o := yo) (i := a % 256) (bs := x.2) (z := c) ti5 (by omega) J J fC (by omega)) J ?_
 rintro ⟨⟩ -
 exact fZ (qX J () trivial J (rs_upd (y' := ⟨a / 256, x.1, some ⟨yb', yo, none⟩, yc, x.2.set (a % 256) c⟩) hy (by simp [PV.cells]) (by rw [hz]; exact hps)))
end
end Go.Proofs.YtphljkplokjonaaGreat.Sp
namespace Go.Proofs.YtphljkplokjonaaGreat.Me
open Go Go.Sl Go.RowKit Go.Proofs Go.Proofs.YtphljkplokjonaaGreat.T
end Go.Proofs.YtphljkplokjonaaGreat.Me
namespace Go.Proofs.YtphljkplokjonaaGreat.Sp
open Go Go.Sl Go.RowKit Go.Proofs Go.Proofs.YtphljkplokjonaaGreat.T Go.Proofs.YtphljkplokjonaaGreat.Me Go.Proofs.YtphljkplokjonaaGreat.Pe Go.Proofs.YtphljkplokjonaaGreat.Pg
open Go.Proofs.YtphljkplokjonaaGreat.Fz (iv oiv)
theorem rmay_iff {o : Ob} {k ad : Nat} {how : Int} : rmay o k (ad : Int) how = true ↔ ad < 1048576 ∧ how ≠ 0 ∧ ∃ x, o.vw k (ad / 256) = some x ∧ x.1 ≠ 0 ∧ may x.1 how := by
 unfold rmay prmO vI
 rw [decide_eq_true_iff, show ((ad : Int) / 256) = ((ad / 256 : Nat) : Int) by omega, Int.toNat_natCast]
 constructor
 ·rintro ⟨h1, h2, h3, h4, h5⟩
  rw [if_pos (by omega)] at h4 h5
  cases hx : o.vw k (ad / 256) with
  | none => rw [hx] at h4; exact absurd J h4
  | some x => rw [hx] at h4 h5; exact ⟨by omega, h3, x, rfl, by simpa using h4, h5⟩
 ·rintro ⟨h1, h2, x, hx, h4, h5⟩
  rw [if_pos (by omega), hx]
  exact ⟨by omega, by omega, h2, by simpa using h4, h5⟩
section
variable (W0 : World) (Fr : List HProp)
variable {o : Ob} {b w k : Nat} {ts : List Int}
def ObK (o : Ob) (k : Nat) : Prop := ∀ q x, o.vw k q = some x → (1 ≤ x.1 ∧ x.1 ≤ 7) ∧ x.2.length = 256
end
end Go.Proofs.YtphljkplokjonaaGreat.Sp
