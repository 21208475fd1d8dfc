/- A part of what the last text stands on: rules for steps of the model, and what functions of the program do. -/
import Derived.Test.YtmlfcfbblfcpdaaGreatAll2
import Derived.Test.YtmlfcfbblfcpdaaGreatRows
set_option linter.unusedSimpArgs false
set_option linter.unusedVariables false
/- Spaces of several partitions in one memory: a good state, and what each operation makes of it. Plain law, no program in sight. -/
namespace Go.Proofs.YtmlfcfbblfcpdaaGreat.Sp
open Go Go.Sl Go.RowKit Go.Proofs Go.Proofs.YtmlfcfbblfcpdaaGreat.T Go.Proofs.YtmlfcfbblfcpdaaGreat.Me Go.Proofs.YtmlfcfbblfcpdaaGreat.Pe Go.Proofs.YtmlfcfbblfcpdaaGreat.Pg
open Go.Proofs.YtmlfcfbblfcpdaaGreat.Fz (cnt cnt_set inv_take inv_give)
open Go.Proofs.YtmlfcfbblfcpdaaGreat.Tl (Slot hitB putL flushPL put_cases)
set_option maxRecDepth 100000
/-- What the machine's parts hold. -/
structure St where
  bs : List UInt8
  own : List Int
  l : List Slot
  hand : Nat
  hits : Nat
  miss : Nat
structure Good (n : Nat) (qs : List Int) (A : Ab) (σ : St) : Prop where
  rep : Rep n σ.bs A
  own : Own σ.own A
  inv : Fz.Inv σ.own qs
  ol : σ.own.length = n
  pm : ∀ k p x, A.pg k p = some x → 1 ≤ x.2 ∧ x.2 ≤ 7
  tlb : Tru A σ.l σ.hand
/-- What can be seen of it: pages with their rights and bytes, which second tables there are, how many frames are free. -/
structure Ob where
  vw : Nat → Nat → Option (Nat × List UInt8)
  ts : Nat → Nat → Bool
  fr : Nat
def obs (A : Ab) (σ : St) : Ob := ⟨fun k p => (A.pg k p).map fun x => (x.2, frB σ.bs x.1), fun k g => (A.tb k g).isSome, cnt σ.own (-1)⟩
abbrev zs : List UInt8 := List.replicate 256 0
theorem Ob.ext' {a b : Ob} (h1 : ∀ k p, a.vw k p = b.vw k p) (h2 : ∀ k g, a.ts k g = b.ts k g) (h3 : a.fr = b.fr) : a = b := by
  cases a; cases b
  have e1 := funext fun k => funext (h1 k)
  have e2 := funext fun k => funext (h2 k)
  simp only at e1 e2 h3
  subst e1 e2 h3; rfl
section
variable {n : Nat} {qs : List Int} {A : Ab} {σ : St}
theorem Good.n2 (G : Good n qs A σ) : 1 ≤ n ∧ n ≤ 1024 := by have := G.inv.tot; rw [G.ol] at this; exact this
theorem Good.flt (G : Good n qs A σ) {ρ : Role} {f : Nat} (h : A.fr ρ = some f) : f < n := by
  have := (List.getElem?_eq_some_iff.1 (G.own.ow ρ f h)).1
  rw [G.ol] at this; exact this
theorem Good.pgf {k p : Nat} {x : Nat × Nat} (h : A.pg k p = some x) : A.fr (.page k p) = some x.1 := by simp only [Ab.fr, h]; rfl
theorem Good.plt (G : Good n qs A σ) {k p : Nat} {x : Nat × Nat} (h : A.pg k p = some x) : x.1 < n := G.flt (Good.pgf h)
theorem Good.ent (G : Good n qs A σ) {f m : Nat} (hf : f < n) (hm : m ≤ 7) : Pg.ent ((entryOf f m).toNat % 4294967296) = some (f, m) := by rw [entry_mod]; exact ent_entry (by have := G.n2; omega) hm
theorem Rep.hs {bs : List UInt8} (R : Rep n bs A) (h : List (Nat × Nat)) : Rep n bs { A with hs := h } := ⟨R.len, R.tree, R.rw, R.tb0, R.pg0⟩
theorem Good.nroot (G : Good n qs A σ) {ρ : Role} {f : Nat} (h : A.fr ρ = some f) (hρ : ∀ k, ρ ≠ .root k) (k : Nat) : A.rt k ≠ some f := fun e => hρ k (G.own.inj ρ (.root k) f h e)
theorem Good.ntab (G : Good n qs A σ) {ρ : Role} {f : Nat} (h : A.fr ρ = some f) (hρ : ∀ k g, ρ ≠ .tab k g) (k g : Nat) : A.tb k g ≠ some f := fun e => hρ k g (G.own.inj ρ (.tab k g) f h e)
/-- A lookup is kept in mind. -/
theorem Good.find (G : Good n qs A σ) {k p : Nat} {x : Nat × Nat} (h : A.pg k p = some x) (a b : Nat) : Good n qs A { σ with l := (putL σ.l σ.hand ⟨true, k, p, x.1, x.2⟩).1, hand := (putL σ.l σ.hand ⟨true, k, p, x.1, x.2⟩).2, hits := a, miss := b } :=
  ⟨G.rep, G.own, G.inv, G.ol, G.pm, G.tlb.put h⟩
theorem Good.count (G : Good n qs A σ) (a b : Nat) : Good n qs A { σ with hits := a, miss := b } := ⟨G.rep, G.own, G.inv, G.ol, G.pm, G.tlb⟩
/-- A page over a table that is there. -/
theorem Good.map1 (G : Good n qs A σ) (h0 : A.hs = []) {k r p q f m : Nat} {qk : Int} (hk : A.rt k = some r) (hp : p < 4096) (hq : A.tb k (p / 64) = some q) (hn : A.pg k p = none) (hf : σ.own[f]? = some (-1)) (hm : 1 ≤ m ∧ m ≤ 7) (hqk : qs[k]? = some qk) (hc : (cnt σ.own k : Int) < qk) :
    Good n qs { A with pg := up2 A.pg k p (some (f, m)) } { σ with bs := stW (overB σ.bs (f * 256) (fillB [])) q (p % 64) (entryOf f m).toNat, own := σ.own.set f k } ∧
    obs { A with pg := up2 A.pg k p (some (f, m)) } { σ with bs := stW (overB σ.bs (f * 256) (fillB [])) q (p % 64) (entryOf f m).toNat, own := σ.own.set f k } = ⟨up2 (obs A σ).vw k p (some (m, zs)), (obs A σ).ts, (obs A σ).fr - 1⟩ := by
  have hfn : f < n := by rw [← G.ol]; exact (List.getElem?_eq_some_iff.1 hf).1
  have hi : p % 64 < 64 := Nat.mod_lt _ (by decide)
  have hqn := G.rep.tlt hq
  have o1 := only_fill (bs := σ.bs) (ws := []) G.rep.len hfn (by decide)
  have o2 := only_st (i := p % 64) (v := (entryOf f m).toNat) o1.len hqn hi
  have O1 := G.own.take k hf
  have R1 := (G.rep.only o1 (fun k' e => G.own.free hf (.root k') e) (fun k' g e => G.own.free hf (.tab k' g) e)).hs ((f, k) :: A.hs)
  have R2 := R1.entry O1 hk hp hq (entryOf f m).toNat
  rw [G.ent hfn hm.2] at R2
  have O2 := O1.toPage (m := m) rfl hp hn
  have hqf : f ≠ q := fun e => G.own.free hf (.tab k (p / 64)) (by rw [e]; exact hq)
  refine ⟨⟨R2.hs A.hs, O2, inv_take G.inv hqk hc hf, by rw [List.length_set]; exact G.ol, fun k' p' x hx => ?_, G.tlb.lay _ fun k' p' x hx => ?_⟩, Ob.ext' (fun k' p' => ?_) (fun _ _ => rfl) ?_⟩
  · dsimp only at hx
    by_cases h : k' = k ∧ p' = p
    · obtain ⟨rfl, rfl⟩ := h; rw [up2_at] at hx; cases hx; exact hm
    · rw [up2_ne h] at hx; exact G.pm k' p' x hx
  · dsimp only
    rw [up2_ne (by rintro ⟨rfl, rfl⟩; rw [hn] at hx; cases hx)]; exact hx
  · dsimp only [obs]
    by_cases h : k' = k ∧ p' = p
    · obtain ⟨rfl, rfl⟩ := h
      rw [up2_at, up2_at]
      show some (m, _) = _
      rw [o2.oth f hfn hqf, fr_fill (by rw [G.rep.len]; exact Nat.mul_le_mul_right _ (Nat.le_of_lt hfn)) (by decide)]; rfl
    · rw [up2_ne h, up2_ne h]
      cases hx : A.pg k' p' with
      | none => rfl
      | some x =>
        have hpf := Good.pgf hx
        have h1 : x.1 ≠ q := fun e => by have := G.own.inj (.page k' p') (.tab k (p / 64)) q (by rw [hpf, e]) hq; cases this
        have h2 : x.1 ≠ f := fun e => G.own.free hf (.page k' p') (by rw [hpf, e])
        show some (x.2, _) = some (x.2, _)
        rw [o2.oth _ (G.plt hx) h1, o1.oth _ (G.plt hx) h2]
  · show cnt (σ.own.set f k) (-1) = cnt σ.own (-1) - 1
    rw [cnt_set hf, if_pos rfl, if_neg (show ¬ ((k : Int) = -1) by omega)]; rfl
/-- A page and its table. -/
theorem Good.map2 (G : Good n qs A σ) (h0 : A.hs = []) {k r p q f m : Nat} {qk : Int} (hk : A.rt k = some r) (hp : p < 4096) (hq : A.tb k (p / 64) = none) (hn : A.pg k p = none) (hqf : σ.own[q]? = some (-1)) (hf : (σ.own.set q k)[f]? = some (-1)) (hm : 1 ≤ m ∧ m ≤ 7) (hqk : qs[k]? = some qk) (hc : (cnt σ.own k : Int) + 1 < qk) :
    Good n qs { A with tb := up2 A.tb k (p / 64) (some q), pg := up2 A.pg k p (some (f, m)) } { σ with bs := stW (stW (overB (overB (overB σ.bs (q * 256) (fillB [])) (f * 256) (fillB [])) (q * 256) (fillB [])) r (p / 64) (entryOf q 0).toNat) q (p % 64) (entryOf f m).toNat, own := (σ.own.set q k).set f k } ∧
    obs { A with tb := up2 A.tb k (p / 64) (some q), pg := up2 A.pg k p (some (f, m)) } { σ with bs := stW (stW (overB (overB (overB σ.bs (q * 256) (fillB [])) (f * 256) (fillB [])) (q * 256) (fillB [])) r (p / 64) (entryOf q 0).toNat) q (p % 64) (entryOf f m).toNat, own := (σ.own.set q k).set f k } = ⟨up2 (obs A σ).vw k p (some (m, zs)), up2 (obs A σ).ts k (p / 64) true, (obs A σ).fr - 2⟩ := by
  have hqn : q < n := by rw [← G.ol]; exact (List.getElem?_eq_some_iff.1 hqf).1
  have hfn : f < n := by have := (List.getElem?_eq_some_iff.1 hf).1; rw [List.length_set, G.ol] at this; exact this
  have hi : p % 64 < 64 := Nat.mod_lt _ (by decide)
  have hi2 : p / 64 < 64 := by omega
  have hne : f ≠ q := fun e => by
    subst e
    rw [List.getElem?_set_self (by rw [G.ol]; exact hfn)] at hf
    have := Option.some.inj hf; omega
  have hf0 : σ.own[f]? = some (-1) := by rw [List.getElem?_set_ne (fun e => hne e.symm)] at hf; exact hf
  have o1 := only_fill (bs := σ.bs) (ws := []) G.rep.len hqn (by decide)
  have o2 := only_fill (bs := overB σ.bs (q * 256) (fillB [])) (ws := []) o1.len hfn (by decide)
  have O1 := G.own.take k hqf
  have O2 := O1.take k hf
  have R1 := (G.rep.only o1 (fun k' e => G.own.free hqf (.root k') e) (fun k' g e => G.own.free hqf (.tab k' g) e))
  have R2 := (R1.only o2 (fun k' e => G.own.free hf0 (.root k') e) (fun k' g e => G.own.free hf0 (.tab k' g) e)).hs [(f, k), (q, k)]
  rw [h0] at O2
  have R3 := R2.newTab O2 G.n2.2 hk hp hq hqn (fun k' e => G.own.free hqf (.root k') e) (fun k' g e => G.own.free hqf (.tab k' g) e) (entryOf f m).toNat
  rw [G.ent hfn hm.2] at R3
  obtain ⟨ol, oo⟩ := only_new (bs := overB (overB σ.bs (q * 256) (fillB [])) (f * 256) (fillB [])) (r := r) (i := p / 64) (j := p % 64) (e := (entryOf q 0).toNat) (v := (entryOf f m).toNat) o2.len hqn (G.rep.rlt hk) hi2 hi
  have O3 := (O2.toPage (m := m) rfl hp hn).toTab rfl hi2 hq
  have hrf : f ≠ r := fun e => G.own.free hf0 (.root k) (by rw [e]; exact hk)
  have I1 := inv_take G.inv hqk (by omega) hqf
  have I2 := inv_take I1 hqk (show (cnt (σ.own.set q k) k : Int) < qk by rw [cnt_set hqf, if_neg (show ¬ ((-1 : Int) = k) by omega), if_pos rfl]; omega) hf
  refine ⟨⟨R3.hs A.hs, by rw [h0]; exact O3, I2, by rw [List.length_set, List.length_set]; exact G.ol, fun k' p' x hx => ?_, G.tlb.lay _ fun k' p' x hx => ?_⟩, Ob.ext' (fun k' p' => ?_) (fun k' g => ?_) ?_⟩
  · dsimp only at hx
    by_cases h : k' = k ∧ p' = p
    · obtain ⟨rfl, rfl⟩ := h; rw [up2_at] at hx; cases hx; exact hm
    · rw [up2_ne h] at hx; exact G.pm k' p' x hx
  · dsimp only
    rw [up2_ne (by rintro ⟨rfl, rfl⟩; rw [hn] at hx; cases hx)]; exact hx
  · dsimp only [obs]
    by_cases h : k' = k ∧ p' = p
    · obtain ⟨rfl, rfl⟩ := h
      rw [up2_at, up2_at]
      show some (m, _) = _
      rw [oo f hfn hne hrf, fr_fill (by rw [o1.len]; exact Nat.mul_le_mul_right _ (Nat.le_of_lt hfn)) (by decide)]; rfl
    · rw [up2_ne h, up2_ne h]
      cases hx : A.pg k' p' with
      | none => rfl
      | some x =>
        have hpf := Good.pgf hx
        have h1 : x.1 ≠ q := fun e => G.own.free hqf (.page k' p') (by rw [hpf, e])
        have h2 : x.1 ≠ f := fun e => G.own.free hf0 (.page k' p') (by rw [hpf, e])
        have h3 : x.1 ≠ r := fun e => by have := G.own.inj (.page k' p') (.root k) r (by rw [hpf, e]) hk; cases this
        show some (x.2, _) = some (x.2, _)
        rw [oo _ (G.plt hx) h1 h3, o2.oth _ (G.plt hx) h2, o1.oth _ (G.plt hx) h1]
  · dsimp only [obs]
    by_cases h : k' = k ∧ g = p / 64
    · obtain ⟨rfl, rfl⟩ := h; rw [up2_at, up2_at]; rfl
    · rw [up2_ne h, up2_ne h]
  · show cnt ((σ.own.set q k).set f k) (-1) = cnt σ.own (-1) - 2
    rw [cnt_set hf, cnt_set hqf, if_pos rfl, if_neg (show ¬ ((k : Int) = -1) by omega)]; rfl
/-- A page is taken away. -/
theorem Good.unmap (G : Good n qs A σ) {k r p q : Nat} {x : Nat × Nat} (hk : A.rt k = some r) (hp : p < 4096) (hq : A.tb k (p / 64) = some q) (hx : A.pg k p = some x) :
    Good n qs { A with pg := up2 A.pg k p none } { σ with bs := overB (stW σ.bs q (p % 64) 0) (x.1 * 256) (fillB []), own := σ.own.set x.1 (-1), l := flushPL σ.l k p } ∧
    obs { A with pg := up2 A.pg k p none } { σ with bs := overB (stW σ.bs q (p % 64) 0) (x.1 * 256) (fillB []), own := σ.own.set x.1 (-1), l := flushPL σ.l k p } = ⟨up2 (obs A σ).vw k p none, (obs A σ).ts, (obs A σ).fr + 1⟩ := by
  have hi : p % 64 < 64 := Nat.mod_lt _ (by decide)
  have hqn := G.rep.tlt hq
  have hpf := Good.pgf hx
  have hxn := G.plt hx
  have o1 := only_st (i := p % 64) (v := 0) G.rep.len hqn hi
  have o2 := only_fill (bs := stW σ.bs q (p % 64) 0) (ws := []) o1.len hxn (by decide)
  have R1 := G.rep.entry G.own hk hp hq 0
  rw [show (0 : Nat) % 4294967296 = 0 from rfl, ent_zero] at R1
  have R2 := R1.only o2 (fun k' e => G.nroot hpf (fun _ => by simp) k' e) (fun k' g e => G.ntab hpf (fun _ _ => by simp) k' g e)
  have O1 := G.own.fromPage hp hx
  obtain ⟨O2, hw⟩ := O1.give rfl
  refine ⟨⟨R2, O2, inv_give G.inv hw, by rw [List.length_set]; exact G.ol, fun k' p' y hy => ?_, G.tlb.flush none _ rfl⟩, Ob.ext' (fun k' p' => ?_) (fun _ _ => rfl) ?_⟩
  · dsimp only at hy
    by_cases h : k' = k ∧ p' = p
    · obtain ⟨rfl, rfl⟩ := h; rw [up2_at] at hy; cases hy
    · rw [up2_ne h] at hy; exact G.pm k' p' y hy
  · dsimp only [obs]
    by_cases h : k' = k ∧ p' = p
    · obtain ⟨rfl, rfl⟩ := h; rw [up2_at, up2_at]; rfl
    · rw [up2_ne h, up2_ne h]
      cases hy : A.pg k' p' with
      | none => rfl
      | some y =>
        have hpy := Good.pgf hy
        have h1 : y.1 ≠ q := fun e => by have := G.own.inj (.page k' p') (.tab k (p / 64)) q (by rw [hpy, e]) hq; cases this
        have h2 : y.1 ≠ x.1 := fun e => by have := G.own.inj (.page k' p') (.page k p) x.1 (by rw [hpy, e]) hpf; cases this; exact h ⟨rfl, rfl⟩
        show some (y.2, _) = some (y.2, _)
        rw [o2.oth _ (G.plt hy) h2, o1.oth _ (G.plt hy) h1]
  · show cnt (σ.own.set x.1 (-1)) (-1) = cnt σ.own (-1) + 1
    rw [cnt_set hw, if_neg (show ¬ ((k : Int) = -1) by omega), if_pos rfl]; rfl
/-- A page's rights are changed. -/
theorem Good.protect (G : Good n qs A σ) {k r p q m : Nat} {x : Nat × Nat} (hk : A.rt k = some r) (hp : p < 4096) (hq : A.tb k (p / 64) = some q) (hx : A.pg k p = some x) (hm : 1 ≤ m ∧ m ≤ 7) :
    Good n qs { A with pg := up2 A.pg k p (some (x.1, m)) } { σ with bs := stW σ.bs q (p % 64) (entryOf x.1 m).toNat, l := flushPL σ.l k p } ∧
    obs { A with pg := up2 A.pg k p (some (x.1, m)) } { σ with bs := stW σ.bs q (p % 64) (entryOf x.1 m).toNat, l := flushPL σ.l k p } = ⟨up2 (obs A σ).vw k p (some (m, frB σ.bs x.1)), (obs A σ).ts, (obs A σ).fr⟩ := by
  have hi : p % 64 < 64 := Nat.mod_lt _ (by decide)
  have hqn := G.rep.tlt hq
  have hpf := Good.pgf hx
  have hxn := G.plt hx
  have o1 := only_st (i := p % 64) (v := (entryOf x.1 m).toNat) G.rep.len hqn hi
  have R1 := G.rep.entry G.own hk hp hq (entryOf x.1 m).toNat
  rw [G.ent hxn hm.2] at R1
  refine ⟨⟨R1, G.own.perm hp hx, G.inv, G.ol, fun k' p' y hy => ?_, G.tlb.flush _ _ rfl⟩, Ob.ext' (fun k' p' => ?_) (fun _ _ => rfl) rfl⟩
  · dsimp only at hy
    by_cases h : k' = k ∧ p' = p
    · obtain ⟨rfl, rfl⟩ := h; rw [up2_at] at hy; cases hy; exact hm
    · rw [up2_ne h] at hy; exact G.pm k' p' y hy
  · have ne : ∀ k' p' y, A.pg k' p' = some y → y.1 ≠ q := fun k' p' y hy e => by have := G.own.inj (.page k' p') (.tab k (p / 64)) q (by rw [Good.pgf hy, e]) hq; cases this
    dsimp only [obs]
    by_cases h : k' = k ∧ p' = p
    · obtain ⟨rfl, rfl⟩ := h; rw [up2_at, up2_at]
      show some (m, _) = some (m, _)
      rw [o1.oth _ hxn (ne _ _ _ hx)]
    · rw [up2_ne h, up2_ne h]
      cases hy : A.pg k' p' with
      | none => rfl
      | some y =>
        show some (y.2, _) = some (y.2, _)
        rw [o1.oth _ (G.plt hy) (ne _ _ _ hy)]
/-- Bytes are written into a page. -/
theorem Good.write (G : Good n qs A σ) {k p o : Nat} {x : Nat × Nat} {ys : List UInt8} (hx : A.pg k p = some x) (ho : o + ys.length ≤ 256) :
    Good n qs A { σ with bs := overB σ.bs (x.1 * 256 + o) ys } ∧
    obs A { σ with bs := overB σ.bs (x.1 * 256 + o) ys } = ⟨up2 (obs A σ).vw k p (some (x.2, overB (frB σ.bs x.1) o ys)), (obs A σ).ts, (obs A σ).fr⟩ := by
  have hpf := Good.pgf hx
  have hxn := G.plt hx
  have o1 := only_over (bs := σ.bs) (ys := ys) (q := x.1) (a := x.1 * 256 + o) G.rep.len hxn (by omega)
  have R1 := G.rep.only o1 (fun k' e => G.nroot hpf (fun _ => by simp) k' e) (fun k' g e => G.ntab hpf (fun _ _ => by simp) k' g e)
  refine ⟨⟨R1, G.own, G.inv, G.ol, G.pm, G.tlb⟩, Ob.ext' (fun k' p' => ?_) (fun _ _ => rfl) rfl⟩
  dsimp only [obs]
  by_cases h : k' = k ∧ p' = p
  · obtain ⟨rfl, rfl⟩ := h; rw [up2_at, hx]
    show some (x.2, _) = some (x.2, _)
    rw [fr_over G.rep.len hxn ho]
  · rw [up2_ne h]
    cases hy : A.pg k' p' with
    | none => rfl
    | some y =>
      have h2 : y.1 ≠ x.1 := fun e => by have := G.own.inj (.page k' p') (.page k p) x.1 (by rw [Good.pgf hy, e]) hpf; cases this; exact h ⟨rfl, rfl⟩
      show some (y.2, _) = some (y.2, _)
      rw [o1.oth _ (G.plt hy) h2]
/-- A new space. -/
theorem Good.new (G : Good n qs A σ) (h0 : A.hs = []) {k f : Nat} {qk : Int} (hk : A.rt k = none) (hf : σ.own[f]? = some (-1)) (hqk : qs[k]? = some qk) (hc : (cnt σ.own k : Int) < qk) :
    Good n qs { A with rt := fun k' => if k' = k then some f else A.rt k' } { σ with bs := overB σ.bs (f * 256) (fillB []), own := σ.own.set f k } ∧
    obs { A with rt := fun k' => if k' = k then some f else A.rt k' } { σ with bs := overB σ.bs (f * 256) (fillB []), own := σ.own.set f k } = ⟨(obs A σ).vw, (obs A σ).ts, (obs A σ).fr - 1⟩ := by
  have hfn : f < n := by rw [← G.ol]; exact (List.getElem?_eq_some_iff.1 hf).1
  have o1 := only_fill (bs := σ.bs) (ws := []) G.rep.len hfn (by decide)
  have O1 := G.own.take k hf
  have R1 := (G.rep.only o1 (fun k' e => G.own.free hf (.root k') e) (fun k' g e => G.own.free hf (.tab k' g) e))
  have R2 := R1.root hfn (by rw [fr_fill (by rw [G.rep.len]; exact Nat.mul_le_mul_right _ (Nat.le_of_lt hfn)) (by decide)]; rfl) hk
  have O2 := O1.toRoot rfl hk
  refine ⟨⟨R2, O2, inv_take G.inv hqk hc hf, by rw [List.length_set]; exact G.ol, G.pm, G.tlb.lay _ fun _ _ _ h => h⟩, Ob.ext' (fun k' p' => ?_) (fun _ _ => rfl) ?_⟩
  · dsimp only [obs]
    cases hx : A.pg k' p' with
    | none => rfl
    | some x =>
      have h2 : x.1 ≠ f := fun e => G.own.free hf (.page k' p') (by rw [Good.pgf hx, e])
      show some (x.2, _) = some (x.2, _)
      rw [o1.oth _ (G.plt hx) h2]
  · show cnt (σ.own.set f k) (-1) = cnt σ.own (-1) - 1
    rw [cnt_set hf, if_pos rfl, if_neg (show ¬ ((k : Int) = -1) by omega)]; rfl
/-- At the beginning. -/
theorem Good.start {m : Nat} (h1 : Fz.Inv (List.replicate n (-1)) qs) (h2 : 1 ≤ m ∧ m ≤ 64) : Good n qs ⟨fun _ => none, fun _ _ => none, fun _ _ => none, []⟩ ⟨List.replicate (n * 256) 0, List.replicate n (-1), List.replicate m Slot.zero, 0, 0, 0⟩ ∧
    obs ⟨fun _ => none, fun _ _ => none, fun _ _ => none, []⟩ ⟨List.replicate (n * 256) 0, List.replicate n (-1), List.replicate m Slot.zero, 0, 0, 0⟩ = ⟨fun _ _ => none, fun _ _ => false, n⟩ := by
  have hz : ∀ m, cN (fun _ => false) m = 0 := fun m => by induction m with
    | zero => rfl
    | succ m ih => simp [cN, ih]
  have hfr : ∀ ρ f, Ab.fr ⟨fun _ => none, fun _ _ => none, fun _ _ => none, []⟩ ρ ≠ some f := fun ρ f h => by cases ρ <;> simp [Ab.fr] at h
  refine ⟨⟨⟨by simp, fun k r h => (by cases h), fun k r g h => (by cases h), fun k g q h => (by cases h), fun k p x h => (by cases h)⟩, ⟨fun ρ ρ' f h _ => absurd h (hfr ρ f), fun ρ f h => absurd h (hfr ρ f), by simp, fun k => ?_⟩, h1, by simp, fun k p x h => (by cases h), ⟨fun i j s s' a b u _ _ _ => ?_, fun s hs hu => ?_, by simp; omega, by simp; omega⟩⟩, Ob.ext' (fun _ _ => rfl) (fun _ _ => rfl) ?_⟩
  · simp only [Option.isSome_none, Bool.false_eq_true, if_false, hz]
    unfold cnt
    rw [List.count_replicate]; simp
  · have hs := List.mem_of_getElem? a
    rw [List.mem_replicate] at hs
    rw [hs.2] at u; cases u
  · rw [List.mem_replicate] at hs
    rw [hs.2] at hu; cases hu
  · show cnt (List.replicate n (-1)) (-1) = n
    unfold cnt; rw [List.count_replicate]; simp
end
end Go.Proofs.YtmlfcfbblfcpdaaGreat.Sp
/- space.Space over the machine's parts: what each function does to what can be seen. -/
namespace Go.Proofs.YtmlfcfbblfcpdaaGreat.Sp
open Go Go.Sl Go.RowKit Go.Proofs Go.Proofs.YtmlfcfbblfcpdaaGreat.T Go.Proofs.YtmlfcfbblfcpdaaGreat.Me Go.Proofs.YtmlfcfbblfcpdaaGreat.Pe Go.Proofs.YtmlfcfbblfcpdaaGreat.Pg
open Go.Proofs.YtmlfcfbblfcpdaaGreat.Fz (cnt cnt_set inv_take inv_give free_frame isP left left_in)
open Go.Proofs.YtmlfcfbblfcpdaaGreat.Tl (Slot hitB putL flushPL put_cases)
set_option maxRecDepth 100000
/-- The machine's parts. -/
abbrev WG (m f t n : Nat) (qs : List Int) (σ : St) (Fr : List HProp) : List HProp := M m n σ.bs :: Fz.F f σ.own qs :: Tl.T t σ.l σ.hand σ.hits σ.miss :: Fr
/-- The space of the partition k with the root r. -/
abbrev sb (s k r m f t : Nat) : HProp := blk s [.int .i64 k, .int .i64 r, .pointer (some ⟨m, 0, none⟩), .pointer (some ⟨f, 0, none⟩), .pointer (some ⟨t, 0, none⟩)] 88
/-- A page of whatever number. -/
def vp (A : Ab) (k : Nat) (p : Int) : Option (Nat × Nat) := if 0 ≤ p ∧ p < 4096 then A.pg k p.toNat else none
theorem vp_in {A : Ab} {k p : Nat} (h : p < 4096) : vp A k p = A.pg k p := by unfold vp; rw [if_pos (by omega), Int.toNat_natCast]
theorem vp_out {A : Ab} {k : Nat} {p : Int} (h : ¬(0 ≤ p ∧ p < 4096)) : vp A k p = none := by unfold vp; rw [if_neg h]
theorem vp_cases (A : Ab) (k : Nat) (p : Int) : (∃ (q : Nat) (x : Nat × Nat), p = q ∧ q < 4096 ∧ A.pg k q = some x ∧ vp A k p = some x) ∨ (∃ q : Nat, p = q ∧ q < 4096 ∧ A.pg k q = none ∧ vp A k p = none) ∨ (¬(0 ≤ p ∧ p < 4096) ∧ vp A k p = none) := by
  by_cases h : 0 ≤ p ∧ p < 4096
  · obtain ⟨q, rfl⟩ := Int.eq_ofNat_of_zero_le h.1
    rw [vp_in (by omega)]
    cases hx : A.pg k q with
    | none => exact .inr (.inl ⟨q, rfl, by omega, hx, rfl⟩)
    | some x => exact .inl ⟨q, x, rfl, by omega, hx, rfl⟩
  · exact .inr (.inr ⟨h, vp_out h⟩)
/-- What a walk tells. -/
def wV (A : Ab) (k : Nat) (p : Int) : Int × Int × Int := match vp A k p with | some x => (x.1, x.2, 0) | none => (0, 0, if 0 ≤ p ∧ p < 4096 then 90 else 2)
section
variable (W0 : World) (Fr : List HProp)
variable {n : Nat} {qs : List Int} {A : Ab} {σ : St} {k r s m f t : Nat}
theorem walk_ab (R : Rep n σ.bs A) (hk : A.rt k = some r) (p : Int) : Ctr Tryz.prog W0 50 [.pointer (some ⟨m, 0, none⟩), .int .i64 r, .int .i64 p] (M m n σ.bs :: Fr) (fun _ : Unit => True) (fun _ => .tuple #[.int .i64 (wV A k p).1, .int .i64 (wV A k p).2.1, .int .i64 (wV A k p).2.2]) (fun _ => M m n σ.bs :: Fr) := by
  obtain ⟨t1, t2, t3⟩ := R.tree k r hk
  rcases vp_cases A k p with ⟨q, x, rfl, hq, hx, hv⟩ | ⟨q, rfl, hq, hx, hv⟩ | ⟨hp, hv⟩
  · have hw := walkR_some (n := n) (bs := σ.bs) (root := r) (p := q) (by rw [t3 q hq, hx])
    have := Pg.walk_spec W0 Fr (m := m) (n := n) (root := r) (p := q) (bs := σ.bs) t1.rt hq
    rw [hw] at this
    unfold wV; rw [hv]; exact this
  · have hw := walkR_none (n := n) (bs := σ.bs) (root := r) (p := q) (by rw [t3 q hq, hx])
    have := Pg.walk_spec W0 Fr (m := m) (n := n) (root := r) (p := q) (bs := σ.bs) t1.rt hq
    rw [hw] at this
    unfold wV; rw [hv, if_pos (by omega)]; exact this
  · unfold wV; rw [hv, if_neg hp]
    exact Pg.walk_bad W0 Fr (.inr hp)
theorem there_spec (R : Rep n σ.bs A) (hk : A.rt k = some r) (p : Int) : Ctr Tryz.prog W0 54 [.pointer (some ⟨s, 0, none⟩), .int .i64 p] (WG m f t n qs σ (sb s k r m f t :: Fr)) (fun _ : Unit => True) (fun _ => .bool (vp A k p).isSome) (fun _ => WG m f t n qs σ (sb s k r m f t :: Fr)) := by
  refine Ctr.of_body Tryz.func54 rfl Tryz.ntmps54 rfl ?_
  refine CG.seq ?_
  refine CG.region ?_
  refine OG.sg rfl rfl ?_
  refine OG.nil ?_
  refine QG.then ?_
  refine CG.seq ?_
  refine CG.draw (.look 0 1 (.look 1 1 (.look 2 1 (.look 3 1 (.look 4 1 (.look 5 1 (.look 6 1 (.look 7 1 (.look 8 1 (.eff1 9 false (.look 10 1 (.look 11 1 (.look 12 1 (.look 13 1 (.look 14 1 (.look 15 1 (.look 16 1 (.done)))))))))))))))))) [9] [] ([]) ([]) mixed (by kernel_rfl) (Imp.none _) (Imp.none _) ?_
  refine DG.look rfl rfl (Yield.move rfl) rfl ?_
  refine DG.look rfl rfl (Yield.nilCheck rfl) rfl ?_
  refine DG.look rfl rfl (Yield.fieldAddr fa88_2 rfl) rfl ?_
  refine DG.look rfl rfl (Yield.loadA ti40 rfl) rfl ?_
  refine DG.look rfl rfl (Yield.move rfl) rfl ?_
  refine DG.look rfl rfl (Yield.nilCheck rfl) rfl ?_
  refine DG.look rfl rfl (Yield.fieldAddr fa88_1 rfl) rfl ?_
  refine DG.look rfl rfl (Yield.loadA ti3 rfl) rfl ?_
  refine DG.look rfl rfl (Yield.move rfl) rfl ?_
  refine DG.eff1 ?_
  refine Chg.callo rfl rfl call50 rfl (iM) (walk_ab W0 _ (m := m) (n := n) (σ := σ) R hk p) rfl (fun _ => iM) (fun _ => Imp.refl _) (fun _ => iM) ?_
  rintro ⟨⟩ -
  refine DG.look rfl rfl (Yield.move rfl) rfl ?_
  refine DG.look rfl rfl (Yield.extract rfl rfl) rfl ?_
  refine DG.look rfl rfl (Yield.extract rfl rfl) rfl ?_
  refine DG.look rfl rfl (Yield.extract rfl rfl) rfl ?_
  refine DG.look rfl rfl (Yield.assign rfl) rfl ?_
  refine DG.look rfl rfl (Yield.assign rfl) rfl ?_
  refine DG.look rfl rfl (Yield.assign rfl) rfl ?_
  refine DG.done ?_
  refine QG.then ?_
  refine CG.seq ?_
  refine CG.region ?_
  refine OG.mv rfl rfl ?_
  refine OG.yield (Yield.as (Yield.eql rfl rfl) (v' := .bool (vp A k p).isSome) (by unfold wV; cases vp A k p with | some x => rfl | none => simp only; split <;> rfl)) rfl ?_
  refine OG.sg rfl rfl ?_
  refine OG.nil ?_
  refine QG.then ?_
  refine CG.ret ?_
  exact QG.ret1 rfl rfl () trivial rfl iM
theorem perm_spec (R : Rep n σ.bs A) (hk : A.rt k = some r) (p : Int) : Ctr Tryz.prog W0 14 [.pointer (some ⟨s, 0, none⟩), .int .i64 p] (WG m f t n qs σ (sb s k r m f t :: Fr)) (fun _ : Unit => True) (fun _ => .int .i64 (match vp A k p with | some x => (x.2 : Int) | none => 0)) (fun _ => WG m f t n qs σ (sb s k r m f t :: Fr)) := by
  refine Ctr.of_body Tryz.func14 rfl Tryz.ntmps14 rfl ?_
  refine CG.seq ?_
  refine CG.region ?_
  refine OG.sg rfl rfl ?_
  refine OG.nil ?_
  refine QG.then ?_
  refine CG.seq ?_
  refine CG.draw (.look 0 1 (.look 1 1 (.look 2 1 (.look 3 1 (.look 4 1 (.look 5 1 (.look 6 1 (.look 7 1 (.look 8 1 (.eff1 9 false (.look 10 1 (.look 11 1 (.look 12 1 (.look 13 1 (.look 14 1 (.look 15 1 (.look 16 1 (.done)))))))))))))))))) [9] [] ([]) ([]) mixed (by kernel_rfl) (Imp.none _) (Imp.none _) ?_
  refine DG.look rfl rfl (Yield.move rfl) rfl ?_
  refine DG.look rfl rfl (Yield.nilCheck rfl) rfl ?_
  refine DG.look rfl rfl (Yield.fieldAddr fa88_2 rfl) rfl ?_
  refine DG.look rfl rfl (Yield.loadA ti40 rfl) rfl ?_
  refine DG.look rfl rfl (Yield.move rfl) rfl ?_
  refine DG.look rfl rfl (Yield.nilCheck rfl) rfl ?_
  refine DG.look rfl rfl (Yield.fieldAddr fa88_1 rfl) rfl ?_
  refine DG.look rfl rfl (Yield.loadA ti3 rfl) rfl ?_
  refine DG.look rfl rfl (Yield.move rfl) rfl ?_
  refine DG.eff1 ?_
  refine Chg.callo rfl rfl call50 rfl (iM) (walk_ab W0 _ (m := m) (n := n) (σ := σ) R hk p) rfl (fun _ => iM) (fun _ => Imp.refl _) (fun _ => iM) ?_
  rintro ⟨⟩ -
  refine DG.look rfl rfl (Yield.move rfl) rfl ?_
  refine DG.look rfl rfl (Yield.extract rfl rfl) rfl ?_
  refine DG.look rfl rfl (Yield.extract rfl rfl) rfl ?_
  refine DG.look rfl rfl (Yield.extract rfl rfl) rfl ?_
  refine DG.look rfl rfl (Yield.assign rfl) rfl ?_
  refine DG.look rfl rfl (Yield.assign rfl) rfl ?_
  refine DG.look rfl rfl (Yield.assign rfl) rfl ?_
  refine DG.done ?_
  refine QG.then ?_
  refine CG.seq ?_
  refine CG.seq ?_
  rcases hv : vp A k p with _ | x
  · skip
    have hw : wV A k p = (0, 0, if 0 ≤ p ∧ p < 4096 then 90 else 2) := by unfold wV; rw [hv]
    rw [hw]
    refine CG.region ?_
    refine OG.mv rfl rfl ?_
    refine OG.yield (Yield.as (Yield.neq rfl rfl) (v' := .bool true) (by simp only; split <;> rfl)) rfl ?_
    refine OG.nil ?_
    refine QG.then ?_
    refine CG.cond_t rfl ?_
    refine CG.seq ?_
    refine CG.region ?_
    refine OG.sg rfl rfl ?_
    refine OG.nil ?_
    refine QG.then ?_
    refine CG.ret ?_
    refine QG.pass_ret ?_
    exact QG.ret1 rfl rfl () trivial rfl iM
  · skip
    have hw : wV A k p = ((x.1 : Int), (x.2 : Int), 0) := by unfold wV; rw [hv]
    rw [hw]
    refine CG.region ?_
    refine OG.mv rfl rfl ?_
    refine OG.yield (Yield.as (Yield.neq rfl rfl) (v' := .bool false) rfl) rfl ?_
    refine OG.nil ?_
    refine QG.then ?_
    refine CG.cond_f rfl ?_
    refine CG.skip ?_
    refine QG.then ?_
    refine CG.seq ?_
    refine CG.region ?_
    refine OG.mv rfl rfl ?_
    refine OG.sg rfl rfl ?_
    refine OG.nil ?_
    refine QG.then ?_
    refine CG.ret ?_
    exact QG.ret1 rfl rfl () trivial rfl iM
theorem table_spec (R : Rep n σ.bs A) (hn : n ≤ 1024) (hk : A.rt k = some r) {p : Nat} (hp : p < 4096) : Ctr Tryz.prog W0 55 [.pointer (some ⟨s, 0, none⟩), .int .i64 p] (WG m f t n qs σ (sb s k r m f t :: Fr)) (fun _ : Unit => True) (fun _ => .bool (A.tb k (p / 64)).isSome) (fun _ => WG m f t n qs σ (sb s k r m f t :: Fr)) := by
  have hi : p / 64 < 64 := by omega
  have hrn := R.rlt hk
  have hw := word_lt σ.bs r (p / 64)
  have hrw := R.rw k r (p / 64) hk hi
  refine Ctr.of_body Tryz.func55 rfl Tryz.ntmps55 rfl ?_
  refine CG.seq ?_
  refine CG.region ?_
  refine OG.sg rfl rfl ?_
  refine OG.nil ?_
  refine QG.then ?_
  refine CG.seq ?_
  refine CG.draw (.look 0 1 (.look 1 1 (.look 2 1 (.look 3 1 (.look 4 1 (.look 5 1 (.look 6 1 (.look 7 1 (.look 8 1 (.look 9 1 (.look 10 1 (.look 11 1 (.look 12 1 (.look 13 1 (.eff1 14 false (.look 15 1 (.look 16 1 (.look 17 1 (.look 18 1 (.look 19 1 (.done))))))))))))))))))))) [14] [] ([]) ([]) mixed (by kernel_rfl) (Imp.none _) (Imp.none _) ?_
  refine DG.look rfl rfl (Yield.move rfl) rfl ?_
  refine DG.look rfl rfl (Yield.nilCheck rfl) rfl ?_
  refine DG.look rfl rfl (Yield.fieldAddr fa88_2 rfl) rfl ?_
  refine DG.look rfl rfl (Yield.loadA ti40 rfl) rfl ?_
  refine DG.look rfl rfl (Yield.move rfl) rfl ?_
  refine DG.look rfl rfl (Yield.nilCheck rfl) rfl ?_
  refine DG.look rfl rfl (Yield.fieldAddr fa88_1 rfl) rfl ?_
  refine DG.look rfl rfl (Yield.loadA ti3 rfl) rfl ?_
  refine DG.look rfl rfl (Yield.mul rfl rfl (w64 (by omega) (by omega))) rfl ?_
  refine DG.look rfl rfl (Yield.move rfl) rfl ?_
  refine DG.look rfl rfl (Yield.quo (c := ((p / 64 : Nat) : Int)) rfl rfl (by decide) (quo_nat (b := 64) (by decide) (by omega))) rfl ?_
  refine DG.look rfl rfl (Yield.mul rfl rfl (w64 (by omega) (by omega))) rfl ?_
  refine DG.look rfl rfl (Yield.add rfl rfl (w64 (by omega) (by omega))) rfl ?_
  refine DG.look rfl rfl (Yield.conv (c := ((r * 256 + p / 64 * 4 : Nat) : Int)) Tryz.underlying30 rfl rfl (by rw [show (r : Int) * 256 + ((p / 64 : Nat) : Int) * 4 = ((r * 256 + p / 64 * 4 : Nat) : Int) by omega]; exact wu32 (by omega) (by omega))) rfl ?_
  refine DG.eff1 ?_
  refine Chg.callo rfl rfl call72 rfl (iM) (load_ok W0 _ (m := m) (n := n) (a := r * 256 + p / 64 * 4) (s := 4) (bs := σ.bs) (by omega) (by omega) (by omega)) rfl (fun _ => iM) (fun _ => Imp.refl _) (fun _ => iM) ?_
  rintro ⟨⟩ -
  refine DG.look rfl rfl (Yield.move rfl) rfl ?_
  refine DG.look rfl rfl (Yield.extract rfl rfl) rfl ?_
  refine DG.look rfl rfl (Yield.extract rfl rfl) rfl ?_
  refine DG.look rfl rfl (Yield.assign rfl) rfl ?_
  refine DG.look rfl rfl (Yield.assign rfl) rfl ?_
  refine DG.done ?_
  refine QG.then ?_
  refine CG.seq ?_
  refine CG.region ?_
  refine OG.mv rfl rfl ?_
  refine OG.yield (Yield.conv (c := (word σ.bs r (p / 64) : Int)) Tryz.underlying30 rfl rfl (wu32 (by omega) (by show ((word σ.bs r (p / 64) : Nat) : Int) ≤ _; omega))) rfl ?_
  refine OG.callo call92 rfl (iM) (split_spec W0 _ (word σ.bs r (p / 64) : Int) (by omega) (by omega)) rfl ?_
  rintro ⟨⟩ -
  rw [split_sp, sp_ent]
  refine OG.mv rfl rfl ?_
  refine OG.yield (Yield.extract rfl rfl) rfl ?_
  refine OG.yield (Yield.extract rfl rfl) rfl ?_
  refine OG.yield (Yield.extract rfl rfl) rfl ?_
  refine OG.sg rfl rfl ?_
  refine OG.sg rfl rfl ?_
  refine OG.sg rfl rfl ?_
  refine OG.nil ?_
  refine QG.then ?_
  refine CG.seq ?_
  refine CG.region ?_
  refine OG.mv rfl rfl ?_
  refine OG.sg rfl rfl ?_
  refine OG.nil ?_
  refine QG.then ?_
  refine CG.ret ?_
  refine QG.ret1 rfl rfl () trivial ?_ iM
  rw [← hrw]; cases ent (word σ.bs r (p / 64)) <;> rfl
theorem free_two (I : Fz.Inv σ.own qs) {qk : Int} (hqk : qs[k]? = some qk) (hc : (cnt σ.own k : Int) + 1 < qk) : 2 ≤ cnt σ.own (-1) := by
  obtain ⟨q, h1, h2⟩ := free_frame I hqk (by omega)
  have I1 := inv_take I hqk (by omega) h2
  obtain ⟨q2, h3, h4⟩ := free_frame I1 hqk (by rw [cnt_set h2, if_neg (show ¬ ((-1 : Int) = k) by omega), if_pos rfl]; omega)
  have := Fz.cnt_pos h4
  rw [cnt_set h2, if_pos rfl, if_neg (show ¬ ((k : Int) = -1) by omega)] at this
  omega
theorem room_spec (I : Fz.Inv σ.own qs) (hq : ∀ q ∈ qs, 0 ≤ q ∧ q ≤ 1024) {qk : Int} (hqk : qs[k]? = some qk) {d : Nat} (hd : d = 1 ∨ d = 2) : Ctr Tryz.prog W0 56 [.pointer (some ⟨s, 0, none⟩), .int .i64 d] (WG m f t n qs σ (sb s k r m f t :: Fr)) (fun _ : Unit => True) (fun _ => .int .i64 (if qk - cnt σ.own k < d then 141 else 0)) (fun _ => WG m f t n qs σ (sb s k r m f t :: Fr)) := by
  have hl := left_in (own := σ.own) hqk
  have hfr : ¬ qk - cnt σ.own k < d → d ≤ cnt σ.own (-1) := fun h => by
    rcases hd with rfl | rfl
    · obtain ⟨q, h1, h2⟩ := free_frame I hqk (by omega)
      exact Fz.cnt_pos h2
    · exact free_two I hqk (by omega)
  refine Ctr.of_body Tryz.func56 rfl Tryz.ntmps56 rfl ?_
  refine CG.seq ?_
  refine CG.region ?_
  refine OG.sg rfl rfl ?_
  refine OG.nil ?_
  refine QG.then ?_
  refine CG.seq ?_
  refine CG.block ?_
  refine CG.seq ?_
  refine CG.draw (.look 0 1 (.look 1 1 (.look 2 1 (.look 3 1 (.look 4 1 (.look 5 1 (.look 6 1 (.look 7 1 (.look 9 0 (.eff1 8 false (.look 10 1 (.look 11 1 (.done))))))))))))) [8] [] ([]) ([]) mixed (by kernel_rfl) (Imp.none _) (Imp.none _) ?_
  refine DG.look rfl rfl (Yield.move rfl) rfl ?_
  refine DG.look rfl rfl (Yield.nilCheck rfl) rfl ?_
  refine DG.look rfl rfl (Yield.fieldAddr fa88_3 rfl) rfl ?_
  refine DG.look rfl rfl (Yield.loadA ti41 rfl) rfl ?_
  refine DG.look rfl rfl (Yield.move rfl) rfl ?_
  refine DG.look rfl rfl (Yield.nilCheck rfl) rfl ?_
  refine DG.look rfl rfl (Yield.fieldAddr fa88_0 rfl) rfl ?_
  refine DG.look rfl rfl (Yield.loadA ti3 rfl) rfl ?_
  refine DG.look rfl rfl (Yield.move rfl) rfl ?_
  refine DG.eff1 ?_
  refine Chg.callo rfl rfl call11 rfl (iM) (Fz.left_spec W0 _ (f := f) (own := σ.own) (qs := qs) k hq) rfl (fun _ => iM) (fun _ => Imp.refl _) (fun _ => iM) ?_
  rintro ⟨⟩ -
  rw [hl]
  refine DG.look rfl rfl (Yield.lss rfl rfl) rfl ?_
  refine DG.look rfl rfl (Yield.assign rfl) rfl ?_
  refine DG.done ?_
  refine QG.then ?_
  refine CG.cond rfl (fun hc => ?_) (fun hc => ?_)
  · try replace hc := of_decide_eq_true hc
    refine CG.seq ?_
    refine CG.region ?_
    refine OG.sg rfl rfl ?_
    refine OG.nil ?_
    refine QG.then ?_
    refine CG.ret ?_
    refine QG.block_ret ?_
    refine QG.pass_ret ?_
    exact QG.ret1 rfl rfl () trivial (by rw [if_pos hc]) iM
  · try replace hc := of_decide_eq_false hc
    have hfr' := hfr hc
    refine CG.seq ?_
    refine CG.region ?_
    refine OG.mv rfl rfl ?_
    refine OG.yield (Yield.nilCheck rfl) rfl ?_
    refine OG.yield (Yield.fieldAddr fa88_3 rfl) rfl ?_
    refine OG.yield (Yield.loadA ti41 rfl) rfl ?_
    refine OG.callo call40 rfl (iM) (Fz.free_spec W0 _ (f := f) (own := σ.own) (qs := qs)) rfl ?_
    rintro ⟨⟩ -
    refine OG.mv rfl rfl ?_
    refine OG.yield Yield.lssA rfl ?_
    refine OG.sg rfl rfl ?_
    refine OG.nil ?_
    refine QG.then ?_
    refine CG.cond_f rfl ?_
    refine CG.skip ?_
    refine QG.block_normal ?_
    refine QG.then ?_
    refine CG.seq ?_
    refine CG.region ?_
    refine OG.sg rfl rfl ?_
    refine OG.nil ?_
    refine QG.then ?_
    refine CG.ret ?_
    exact QG.ret1 rfl rfl () trivial (by rw [if_neg hc]) iM
theorem good_spec (p q : Int) : Ctr Tryz.prog W0 61 [.int .i64 p, .int .i64 q] Fr (fun _ : Unit => True) (fun _ => .bool (decide ((0 ≤ p ∧ p < 4096) ∧ 1 ≤ q ∧ q ≤ 7))) (fun _ => Fr) := by
  refine Ctr.of_body Tryz.func61 rfl Tryz.ntmps61 rfl ?_
  refine CG.seq ?_
  refine CG.region ?_
  refine OG.sg rfl rfl ?_
  refine OG.nil ?_
  refine QG.then ?_
  refine CG.seq ?_
  rcases (show p < 0 ∨ (0 ≤ p ∧ ¬ p < 4096) ∨ ((0 ≤ p ∧ p < 4096) ∧ ¬ q ≥ 1) ∨ ((0 ≤ p ∧ p < 4096) ∧ q ≥ 1) by omega) with hh | hh | hh | hh
  · skip
    refine CG.region ?_
    refine OG.mv rfl rfl ?_
    refine OG.yield Yield.geqA rfl ?_
    refine OG.mv rfl rfl ?_
    refine OG.gn rfl rfl rfl rfl rfl ?_
    refine OG.gn rfl rfl rfl rfl rfl ?_
    refine OG.yield Yield.pickA rfl ?_
    refine OG.mv rfl rfl ?_
    refine OG.gn rfl rfl rfl rfl rfl ?_
    refine OG.gn rfl rfl rfl rfl rfl ?_
    refine OG.yield Yield.pickA rfl ?_
    refine OG.mv rfl rfl ?_
    refine OG.gn rfl rfl rfl rfl rfl ?_
    refine OG.gn rfl rfl rfl rfl rfl ?_
    refine OG.yield Yield.pickA rfl ?_
    refine OG.sg rfl rfl ?_
    refine OG.nil ?_
    refine QG.then ?_
    refine CG.ret ?_
    exact QG.ret1 rfl rfl () trivial (by rw [decide_eq_false (by omega)]) (Imp.refl _)
  · skip
    refine CG.region ?_
    refine OG.mv rfl rfl ?_
    refine OG.yield Yield.geqA rfl ?_
    refine OG.mv rfl rfl ?_
    refine OG.gy rfl rfl rfl ?_
    refine OG.mv rfl rfl ?_
    refine OG.gy rfl rfl rfl ?_
    refine OG.yield Yield.lssA rfl ?_
    refine OG.yield Yield.pickA rfl ?_
    refine OG.mv rfl rfl ?_
    refine OG.gn rfl rfl rfl rfl rfl ?_
    refine OG.gn rfl rfl rfl rfl rfl ?_
    refine OG.yield Yield.pickA rfl ?_
    refine OG.mv rfl rfl ?_
    refine OG.gn rfl rfl rfl rfl rfl ?_
    refine OG.gn rfl rfl rfl rfl rfl ?_
    refine OG.yield Yield.pickA rfl ?_
    refine OG.sg rfl rfl ?_
    refine OG.nil ?_
    refine QG.then ?_
    refine CG.ret ?_
    exact QG.ret1 rfl rfl () trivial (by rw [decide_eq_false (by omega)]) (Imp.refl _)
  · skip
    refine CG.region ?_
    refine OG.mv rfl rfl ?_
    refine OG.yield Yield.geqA rfl ?_
    refine OG.mv rfl rfl ?_
    refine OG.gy rfl rfl rfl ?_
    refine OG.mv rfl rfl ?_
    refine OG.gy rfl rfl rfl ?_
    refine OG.yield Yield.lssA rfl ?_
    refine OG.yield Yield.pickA rfl ?_
    refine OG.mv rfl rfl ?_
    refine OG.gy rfl rfl rfl ?_
    refine OG.mv rfl rfl ?_
    refine OG.gy rfl rfl rfl ?_
    refine OG.yield Yield.geqA rfl ?_
    refine OG.yield Yield.pickA rfl ?_
    refine OG.mv rfl rfl ?_
    refine OG.gn rfl rfl rfl rfl rfl ?_
    refine OG.gn rfl rfl rfl rfl rfl ?_
    refine OG.yield Yield.pickA rfl ?_
    refine OG.sg rfl rfl ?_
    refine OG.nil ?_
    refine QG.then ?_
    refine CG.ret ?_
    exact QG.ret1 rfl rfl () trivial (by rw [decide_eq_false (by omega)]) (Imp.refl _)
  · skip
    refine CG.region ?_
    refine OG.mv rfl rfl ?_
    refine OG.yield Yield.geqA rfl ?_
    refine OG.mv rfl rfl ?_
    refine OG.gy rfl rfl rfl ?_
    refine OG.mv rfl rfl ?_
    refine OG.gy rfl rfl rfl ?_
    refine OG.yield Yield.lssA rfl ?_
    refine OG.yield Yield.pickA rfl ?_
    refine OG.mv rfl rfl ?_
    refine OG.gy rfl rfl rfl ?_
    refine OG.mv rfl rfl ?_
    refine OG.gy rfl rfl rfl ?_
    refine OG.yield Yield.geqA rfl ?_
    refine OG.yield Yield.pickA rfl ?_
    refine OG.mv rfl rfl ?_
    refine OG.gy rfl rfl rfl ?_
    refine OG.mv rfl rfl ?_
    refine OG.gy rfl rfl rfl ?_
    refine OG.yield (Yield.leq rfl rfl) rfl ?_
    refine OG.yield Yield.pickA rfl ?_
    refine OG.sg rfl rfl ?_
    refine OG.nil ?_
    refine QG.then ?_
    refine CG.ret ?_
    exact QG.ret1 rfl rfl () trivial (by rw [show decide ((0 ≤ p ∧ p < 4096) ∧ 1 ≤ q ∧ q ≤ 7) = decide (q ≤ 7) by simp [hh.1]; omega]) (Imp.refl _)
theorem take_spec (I : Fz.Inv σ.own qs) (hol : σ.own.length = n) (hq : ∀ q ∈ qs, 0 ≤ q ∧ q ≤ 1024) {qk : Int} (hqk : qs[k]? = some qk) (hc : (cnt σ.own k : Int) < qk) : Ctr Tryz.prog W0 62 [.pointer (some ⟨s, 0, none⟩)] (WG m f t n qs σ (sb s k r m f t :: Fr)) (fun q : Nat => σ.own[q]? = some (-1)) (fun q => .int .i64 q) (fun q => WG m f t n qs { σ with bs := overB σ.bs (q * 256) (fillB []), own := σ.own.set q k } (sb s k r m f t :: Fr)) := by
  obtain ⟨q, h1, h2⟩ := free_frame I hqk hc
  have hl := left_in (own := σ.own) hqk
  have hqn : q < n := by rw [← hol]; exact (List.getElem?_eq_some_iff.1 h2).1
  have hkl := (List.getElem?_eq_some_iff.1 hqk).1
  refine Ctr.of_body Tryz.func62 rfl Tryz.ntmps62 rfl ?_
  refine CG.seq ?_
  refine CG.region ?_
  refine OG.sg rfl rfl ?_
  refine OG.nil ?_
  refine QG.then ?_
  refine CG.seq ?_
  refine CG.draw (.look 0 1 (.look 1 1 (.look 2 1 (.look 3 1 (.look 4 1 (.look 5 1 (.look 6 1 (.look 7 1 (.eff1 8 false (.look 9 1 (.look 10 1 (.look 11 1 (.look 12 1 (.look 13 1 (.done))))))))))))))) [8] [] ([]) ([]) mixed (by kernel_rfl) (Imp.none _) (Imp.none _) ?_
  refine DG.look rfl rfl (Yield.move rfl) rfl ?_
  refine DG.look rfl rfl (Yield.nilCheck rfl) rfl ?_
  refine DG.look rfl rfl (Yield.fieldAddr fa88_3 rfl) rfl ?_
  refine DG.look rfl rfl (Yield.loadA ti41 rfl) rfl ?_
  refine DG.look rfl rfl (Yield.move rfl) rfl ?_
  refine DG.look rfl rfl (Yield.nilCheck rfl) rfl ?_
  refine DG.look rfl rfl (Yield.fieldAddr fa88_0 rfl) rfl ?_
  refine DG.look rfl rfl (Yield.loadA ti3 rfl) rfl ?_
  refine DG.eff1 ?_
  refine Chg.callo rfl rfl call59 rfl (iM) (Fz.take_ok W0 _ (f := f) (own := σ.own) (qs := qs) (n := q) k hq ⟨by omega, by omega⟩ (by rw [hl]; omega) h1) rfl (fun _ => iM) (fun _ => Imp.refl _) (fun _ => iM) ?_
  rintro ⟨⟩ -
  refine DG.look rfl rfl (Yield.move rfl) rfl ?_
  refine DG.look rfl rfl (Yield.extract rfl rfl) rfl ?_
  refine DG.look rfl rfl (Yield.extract rfl rfl) rfl ?_
  refine DG.look rfl rfl (Yield.assign rfl) rfl ?_
  refine DG.look rfl rfl (Yield.assign rfl) rfl ?_
  refine DG.done ?_
  refine QG.then ?_
  refine CG.seq ?_
  refine CG.seq ?_
  refine CG.region ?_
  refine OG.mv rfl rfl ?_
  refine OG.yield Yield.neqA rfl ?_
  refine OG.nil ?_
  refine QG.then ?_
  refine CG.cond_f rfl ?_
  refine CG.skip ?_
  refine QG.then ?_
  refine CG.seq ?_
  refine CG.region ?_
  refine OG.mv rfl rfl ?_
  refine OG.yield (Yield.nilCheck rfl) rfl ?_
  refine OG.yield (Yield.fieldAddr fa88_2 rfl) rfl ?_
  refine OG.yield (Yield.loadA ti40 rfl) rfl ?_
  refine OG.mv rfl rfl ?_
  refine OG.callo call49 rfl (iM) (fill_ok W0 _ (m := m) (n := n) (k := q) (bs := σ.bs) (ws := []) (a := none) (c2 := 0) (RdB.of_slR SlR.nil (Nat.le_refl _)) hqn (by decide)) rfl ?_
  rintro ⟨⟩ -
  refine OG.nil ?_
  refine QG.then ?_
  refine CG.seq ?_
  refine CG.region ?_
  refine OG.mv rfl rfl ?_
  refine OG.sg rfl rfl ?_
  refine OG.nil ?_
  refine QG.then ?_
  refine CG.ret ?_
  exact QG.ret1 rfl rfl q h2 rfl iM
end
end Go.Proofs.YtmlfcfbblfcpdaaGreat.Sp
/- space.Space: what can be seen behind Map, Unmap, Protect, and a lookup. -/
namespace Go.Proofs.YtmlfcfbblfcpdaaGreat.Sp
open Go Go.Sl Go.RowKit Go.Proofs Go.Proofs.YtmlfcfbblfcpdaaGreat.T Go.Proofs.YtmlfcfbblfcpdaaGreat.Me Go.Proofs.YtmlfcfbblfcpdaaGreat.Pe Go.Proofs.YtmlfcfbblfcpdaaGreat.Pg
open Go.Proofs.YtmlfcfbblfcpdaaGreat.Fz (cnt cnt_set inv_take inv_give free_frame isP left left_in)
open Go.Proofs.YtmlfcfbblfcpdaaGreat.Tl (Slot hitB putL flushPL put_cases)
set_option maxRecDepth 100000
/-- The state looks like o, with the spaces' roots rt; c bounds the questions that the table was asked. -/
def Lk (n : Nat) (qs : List Int) (rt : Nat → Option Nat) (o : Ob) (c : Nat) (σ : St) : Prop := ∃ A, A.rt = rt ∧ A.hs = [] ∧ Good n qs A σ ∧ obs A σ = o ∧ σ.hits + σ.miss ≤ c
theorem Lk.intro {n : Nat} {qs : List Int} {A : Ab} {σ : St} {rt : Nat → Option Nat} {o : Ob} {c : Nat} (G : Good n qs A σ) (h1 : A.rt = rt) (h0 : A.hs = []) (e : obs A σ = o) (hc : σ.hits + σ.miss ≤ c) : Lk n qs rt o c σ := ⟨A, h1, h0, G, e, hc⟩
/-- How many frames a partition has: its root, its tables, its pages. -/
def used (o : Ob) (k : Nat) : Nat := 1 + cN (o.ts k) 64 + cN (fun p => (o.vw k p).isSome) 4096
theorem used_cnt {n : Nat} {qs : List Int} {A : Ab} {σ : St} {k r : Nat} (G : Good n qs A σ) (h0 : A.hs = []) (hk : A.rt k = some r) : cnt σ.own k = used (obs A σ) k := by
  rw [G.own.cnt k, h0, hk]
  unfold used obs
  simp only [Option.isSome_some, if_true, List.filter_nil, List.length_nil, Nat.add_zero]
  congr 1
  exact cN_congr _ fun q _ => by cases A.pg k q <;> rfl
/-- A page of whatever number, as it can be seen. -/
def vI (o : Ob) (k : Nat) (p : Int) : Option (Nat × List UInt8) := if 0 ≤ p ∧ p < 4096 then o.vw k p.toNat else none
theorem vI_nat {o : Ob} {k q : Nat} (h : q < 4096) : vI o k q = o.vw k q := by unfold vI; rw [if_pos (by omega), Int.toNat_natCast]
/-- What Map does. -/
def mapO (qk : Int) (o : Ob) (k : Nat) (p pm : Int) : Int × Ob :=
  if ¬((0 ≤ p ∧ p < 4096) ∧ 1 ≤ pm ∧ pm ≤ 7) then (2, o)
  else if (o.vw k p.toNat).isSome then (91, o)
  else if qk - used o k < (if o.ts k (p.toNat / 64) then 1 else 2 : Nat) then (141, o)
  else (0, ⟨up2 o.vw k p.toNat (some (pm.toNat, zs)), up2 o.ts k (p.toNat / 64) true, o.fr - (if o.ts k (p.toNat / 64) then 1 else 2)⟩)
/-- What Unmap does. -/
def unmapO (o : Ob) (k : Nat) (p : Int) : Int × Ob :=
  if ¬(0 ≤ p ∧ p < 4096) then (2, o) else if (o.vw k p.toNat).isSome then (0, ⟨up2 o.vw k p.toNat none, o.ts, o.fr + 1⟩) else (90, o)
/-- What Protect does. -/
def protO (o : Ob) (k : Nat) (p pm : Int) : Int × Ob :=
  if ¬((0 ≤ p ∧ p < 4096) ∧ 1 ≤ pm ∧ pm ≤ 7) then (2, o) else match o.vw k p.toNat with
    | some x => (0, ⟨up2 o.vw k p.toNat (some (pm.toNat, x.2)), o.ts, o.fr⟩)
    | none => (90, o)
theorem up2_same {α : Type} {h : Nat → Nat → α} {k p : Nat} : up2 h k p (h k p) = h := by
  funext k' p'; unfold up2; split
  · rename_i e; rw [e.1, e.2]
  · rfl
section
variable (W0 : World) (Fr : List HProp)
variable {n : Nat} {qs : List Int} {rt : Nat → Option Nat} {o : Ob} {c : Nat} {σ : St} {k r s m f t : Nat}
theorem vw_obs {A : Ab} {k p : Nat} : (obs A σ).vw k p = (A.pg k p).map fun x => (x.2, frB σ.bs x.1) := rfl
theorem tab_of {A : Ab} (G : Good n qs A σ) (hk : A.rt k = some r) {p : Nat} {x : Nat × Nat} (hp : p < 4096) (hx : A.pg k p = some x) : ∃ q, A.tb k (p / 64) = some q ∧ wk n σ.bs r p = some x ∧ tab n σ.bs r (p / 64) = some q := by
  obtain ⟨t1, t2, t3⟩ := G.rep.tree k r hk
  have hw : wk n σ.bs r p = some x := by rw [t3 p hp, hx]
  obtain ⟨q, hq⟩ := wk_tab hw
  exact ⟨q, by rw [← t2 _ (by omega), hq], hw, hq⟩
theorem map_spec (L : Lk n qs rt o c σ) (hq : ∀ q ∈ qs, 0 ≤ q ∧ q ≤ 1024) {qk : Int} (hqk : qs[k]? = some qk) (hk : rt k = some r) (p pm : Int) : Ctr Tryz.prog W0 24 [.pointer (some ⟨s, 0, none⟩), .int .i64 p, .int .i64 pm] (WG m f t n qs σ (sb s k r m f t :: Fr)) (fun σ' : St => Lk n qs rt (mapO qk o k p pm).2 c σ') (fun _ => .int .i64 (mapO qk o k p pm).1) (fun σ' => WG m f t n qs σ' (sb s k r m f t :: Fr)) := by
  have L0 := L
  obtain ⟨A, rfl, h0, G, rfl, hcc⟩ := L
  by_cases hg : (0 ≤ p ∧ p < 4096) ∧ 1 ≤ pm ∧ pm ≤ 7
  · obtain ⟨q, rfl⟩ := Int.eq_ofNat_of_zero_le hg.1.1
    obtain ⟨mm, rfl⟩ := Int.eq_ofNat_of_zero_le (show 0 ≤ pm by omega)
    have hq4 : q < 4096 := by omega
    have hvp : vp A k q = A.pg k q := vp_in hq4
    have huc := used_cnt G h0 hk
    obtain ⟨t1, t2, t3⟩ := G.rep.tree k r hk
    have hn2 := G.n2
    cases hx : A.pg k q with
    | some x =>
      have e : mapO qk (obs A σ) k (q : Int) (mm : Int) = (91, obs A σ) := by
        unfold mapO; rw [if_neg (by omega), Int.toNat_natCast, if_pos (by rw [vw_obs, hx]; rfl)]
      rw [e]
      refine Ctr.of_body Tryz.func24 rfl Tryz.ntmps24 rfl ?_
      refine CG.seq ?_
      refine CG.region ?_
      refine OG.sg rfl rfl ?_
      refine OG.nil ?_
      refine QG.then ?_
      refine CG.seq ?_
      refine CG.block ?_
      refine CG.seq ?_
      refine CG.region ?_
      refine OG.mv rfl rfl ?_
      refine OG.mv rfl rfl ?_
      refine OG.callo call61 rfl (iM) (good_spec W0 _ (q : Int) (mm : Int)) rfl ?_
      rintro ⟨⟩ -
      rw [decide_eq_true hg]
      refine OG.yield (Yield.not rfl) rfl ?_
      refine OG.sg rfl rfl ?_
      refine OG.nil ?_
      refine QG.then ?_
      refine CG.cond_f rfl ?_
      refine CG.seq ?_
      refine CG.region ?_
      refine OG.mv rfl rfl ?_
      refine OG.mv rfl rfl ?_
      refine OG.callo call54 rfl (iM) (there_spec W0 _ (A := A) (σ := σ) (r := r) (k := k) (m := m) (f := f) (t := t) (qs := qs) (s := s) G.rep hk (q : Int)) rfl ?_
      rintro ⟨⟩ -
      rw [hvp, hx]
      refine OG.sg rfl rfl ?_
      refine OG.nil ?_
      refine QG.then ?_
      refine CG.cond_t rfl ?_
      refine CG.seq ?_
      refine CG.region ?_
      refine OG.sg rfl rfl ?_
      refine OG.nil ?_
      refine QG.then ?_
      refine CG.ret ?_
      refine QG.block_ret ?_
      refine QG.pass_ret ?_
      exact QG.ret1 rfl rfl σ L0 rfl iM
    | none =>
      have hvw : (obs A σ).vw k q = none := by rw [vw_obs, hx]; rfl
      by_cases hts : (A.tb k (q / 64)).isSome = true
      · have hte : (obs A σ).ts k (q / 64) = true := hts
        by_cases hroom : qk - used (obs A σ) k < (1 : Nat)
        · have e : mapO qk (obs A σ) k (q : Int) (mm : Int) = (141, obs A σ) := by
            unfold mapO; rw [if_neg (by omega), Int.toNat_natCast, if_neg (by rw [hvw]; simp), hte, if_pos rfl, if_pos hroom]
          rw [e]
          refine Ctr.of_body Tryz.func24 rfl Tryz.ntmps24 rfl ?_
          refine CG.seq ?_
          refine CG.region ?_
          refine OG.sg rfl rfl ?_
          refine OG.nil ?_
          refine QG.then ?_
          refine CG.seq ?_
          refine CG.block ?_
          refine CG.seq ?_
          refine CG.region ?_
          refine OG.mv rfl rfl ?_
          refine OG.mv rfl rfl ?_
          refine OG.callo call61 rfl (iM) (good_spec W0 _ (q : Int) (mm : Int)) rfl ?_
          rintro ⟨⟩ -
          rw [decide_eq_true hg]
          refine OG.yield (Yield.not rfl) rfl ?_
          refine OG.sg rfl rfl ?_
          refine OG.nil ?_
          refine QG.then ?_
          refine CG.cond_f rfl ?_
          refine CG.seq ?_
          refine CG.region ?_
          refine OG.mv rfl rfl ?_
          refine OG.mv rfl rfl ?_
          refine OG.callo call54 rfl (iM) (there_spec W0 _ (A := A) (σ := σ) (r := r) (k := k) (m := m) (f := f) (t := t) (qs := qs) (s := s) G.rep hk (q : Int)) rfl ?_
          rintro ⟨⟩ -
          rw [hvp, hx]
          refine OG.sg rfl rfl ?_
          refine OG.nil ?_
          refine QG.then ?_
          refine CG.cond_f rfl ?_
          refine CG.skip ?_
          refine QG.block_normal ?_
          refine QG.then ?_
          refine CG.seq ?_
          refine CG.region ?_
          refine OG.sg rfl rfl ?_
          refine OG.nil ?_
          refine QG.then ?_
          refine CG.seq ?_
          refine CG.seq ?_
          refine CG.region ?_
          refine OG.mv rfl rfl ?_
          refine OG.mv rfl rfl ?_
          refine OG.callo call55 rfl (iM) (table_spec W0 _ (A := A) (σ := σ) (r := r) (k := k) (m := m) (f := f) (t := t) (qs := qs) (s := s) G.rep hn2.2 hk hq4) rfl ?_
          rintro ⟨⟩ -
          rw [hts]
          refine OG.yield (Yield.not rfl) rfl ?_
          refine OG.nil ?_
          refine QG.then ?_
          refine CG.cond_f rfl ?_
          refine CG.skip ?_
          refine QG.then ?_
          refine CG.seq ?_
          refine CG.seq ?_
          refine CG.region ?_
          refine OG.mv rfl rfl ?_
          refine OG.mv rfl rfl ?_
          refine OG.callo call56 rfl (iM) (room_spec W0 _ (σ := σ) (r := r) (k := k) (m := m) (f := f) (t := t) (n := n) (s := s) (d := 1) G.inv hq hqk (.inl rfl)) rfl ?_
          rintro ⟨⟩ -
          rw [huc, if_pos hroom]
          refine OG.sg rfl rfl ?_
          refine OG.nil ?_
          refine QG.then ?_
          refine CG.seq ?_
          refine CG.region ?_
          refine OG.mv rfl rfl ?_
          refine OG.yield Yield.neqA rfl ?_
          refine OG.nil ?_
          refine QG.then ?_
          refine CG.cond_t rfl ?_
          refine CG.seq ?_
          refine CG.region ?_
          refine OG.mv rfl rfl ?_
          refine OG.sg rfl rfl ?_
          refine OG.nil ?_
          refine QG.then ?_
          refine CG.ret ?_
          refine QG.pass_ret ?_
          exact QG.ret1 rfl rfl σ L0 rfl iM
        · have e : mapO qk (obs A σ) k (q : Int) (mm : Int) = (0, ⟨up2 (obs A σ).vw k q (some (mm, zs)), (obs A σ).ts, (obs A σ).fr - 1⟩) := by
            unfold mapO; rw [if_neg (by omega), Int.toNat_natCast, if_neg (by rw [hvw]; simp), hte, if_pos rfl, if_neg hroom, Int.toNat_natCast]
            congr 2
            rw [← hte, up2_same]
          rw [e]
          obtain ⟨tq, htq⟩ := Option.isSome_iff_exists.1 hts
          have hcq : (cnt σ.own k : Int) < qk := by omega
          refine Ctr.of_body Tryz.func24 rfl Tryz.ntmps24 rfl ?_
          refine CG.seq ?_
          refine CG.region ?_
          refine OG.sg rfl rfl ?_
          refine OG.nil ?_
          refine QG.then ?_
          refine CG.seq ?_
          refine CG.block ?_
          refine CG.seq ?_
          refine CG.region ?_
          refine OG.mv rfl rfl ?_
          refine OG.mv rfl rfl ?_
          refine OG.callo call61 rfl (iM) (good_spec W0 _ (q : Int) (mm : Int)) rfl ?_
          rintro ⟨⟩ -
          rw [decide_eq_true hg]
          refine OG.yield (Yield.not rfl) rfl ?_
          refine OG.sg rfl rfl ?_
          refine OG.nil ?_
          refine QG.then ?_
          refine CG.cond_f rfl ?_
          refine CG.seq ?_
          refine CG.region ?_
          refine OG.mv rfl rfl ?_
          refine OG.mv rfl rfl ?_
          refine OG.callo call54 rfl (iM) (there_spec W0 _ (A := A) (σ := σ) (r := r) (k := k) (m := m) (f := f) (t := t) (qs := qs) (s := s) G.rep hk (q : Int)) rfl ?_
          rintro ⟨⟩ -
          rw [hvp, hx]
          refine OG.sg rfl rfl ?_
          refine OG.nil ?_
          refine QG.then ?_
          refine CG.cond_f rfl ?_
          refine CG.skip ?_
          refine QG.block_normal ?_
          refine QG.then ?_
          refine CG.seq ?_
          refine CG.region ?_
          refine OG.sg rfl rfl ?_
          refine OG.nil ?_
          refine QG.then ?_
          refine CG.seq ?_
          refine CG.seq ?_
          refine CG.region ?_
          refine OG.mv rfl rfl ?_
          refine OG.mv rfl rfl ?_
          refine OG.callo call55 rfl (iM) (table_spec W0 _ (A := A) (σ := σ) (r := r) (k := k) (m := m) (f := f) (t := t) (qs := qs) (s := s) G.rep hn2.2 hk hq4) rfl ?_
          rintro ⟨⟩ -
          rw [hts]
          refine OG.yield (Yield.not rfl) rfl ?_
          refine OG.nil ?_
          refine QG.then ?_
          refine CG.cond_f rfl ?_
          refine CG.skip ?_
          refine QG.then ?_
          refine CG.seq ?_
          refine CG.seq ?_
          refine CG.region ?_
          refine OG.mv rfl rfl ?_
          refine OG.mv rfl rfl ?_
          refine OG.callo call56 rfl (iM) (room_spec W0 _ (σ := σ) (r := r) (k := k) (m := m) (f := f) (t := t) (n := n) (s := s) (d := 1) G.inv hq hqk (.inl rfl)) rfl ?_
          rintro ⟨⟩ -
          rw [huc, if_neg hroom]
          refine OG.sg rfl rfl ?_
          refine OG.nil ?_
          refine QG.then ?_
          refine CG.seq ?_
          refine CG.region ?_
          refine OG.mv rfl rfl ?_
          refine OG.yield Yield.neqA rfl ?_
          refine OG.nil ?_
          refine QG.then ?_
          refine CG.cond_f rfl ?_
          refine CG.skip ?_
          refine QG.then ?_
          refine CG.seq ?_
          refine CG.region ?_
          refine OG.sg rfl rfl ?_
          refine OG.nil ?_
          refine QG.then ?_
          refine CG.seq ?_
          refine CG.seq ?_
          refine CG.region ?_
          refine OG.mv rfl rfl ?_
          refine OG.yield Yield.eqlA rfl ?_
          refine OG.nil ?_
          refine QG.then ?_
          refine CG.cond_f rfl ?_
          refine CG.skip ?_
          refine QG.then ?_
          refine CG.seq ?_
          refine CG.draw (.look 0 0 (.look 1 0 (.look 2 0 (.look 3 0 (.look 4 0 (.look 5 0 (.look 6 0 (.look 7 0 (.look 8 0 (.look 9 1 (.look 11 0 (.look 12 0 (.eff1 10 false (.eff1 13 false (.look 14 1 (.look 15 1 (.look 16 1 (.look 17 1 (.look 18 1 (.done)))))))))))))))))))) [10, 13] [] ([sb s k r m f t]) ([]) mixed (by kernel_rfl) iM (Imp.none _) ?_
          refine DG.look rfl rfl (Yield.move rfl) rfl ?_
          refine DG.look rfl rfl (Yield.nilCheck rfl) rfl ?_
          refine DG.look rfl rfl (Yield.fieldAddr fa88_2 rfl) rfl ?_
          refine DG.look rfl rfl (Yield.loadA ti40 rfl) rfl ?_
          refine DG.look rfl rfl (Yield.move rfl) rfl ?_
          refine DG.look rfl rfl (Yield.nilCheck rfl) rfl ?_
          refine DG.look rfl rfl (Yield.fieldAddr fa88_1 rfl) rfl ?_
          refine DG.look rfl rfl (Yield.loadA ti3 rfl) rfl ?_
          refine DG.look rfl rfl (Yield.move rfl) rfl ?_
          refine DG.look rfl rfl (Yield.move rfl) rfl ?_
          refine DG.look rfl rfl (Yield.move rfl) rfl ?_
          refine DG.look rfl rfl (Yield.move rfl) rfl ?_
          refine DG.eff1 ?_
          refine Chg.callo rfl rfl call62 rfl (iM) (take_spec W0 _ (σ := σ) (r := r) (k := k) (m := m) (f := f) (t := t) (n := n) (s := s) G.inv G.ol hq hqk hcq) rfl (fun _ => iM) (fun _ => Imp.refl _) (fun _ => iM) ?_
          rintro fr hfr
          obtain ⟨G2, e2⟩ := G.map1 h0 (m := mm) hk hq4 htq hx hfr (by omega) hqk hcq
          have hfn : fr < n := by rw [← G.ol]; exact (List.getElem?_eq_some_iff.1 hfr).1
          have hent := (sp_entry (f := fr) (p := mm) (by omega) (by omega)).1
          have R1 := G.rep.only (only_fill (bs := σ.bs) (ws := []) G.rep.len hfn (by decide)) (fun k' e => G.own.free hfr (.root k') e) (fun k' g e => G.own.free hfr (.tab k' g) e)
          have hset := setR_tab (n := n) (bs := overB σ.bs (fr * 256) (fillB [])) (root := r) (p := q) (e := (entryOf (fr : Int) mm).toNat) (q := tq) (spare := -1) (by rw [(R1.tree k r hk).2.1 _ (by omega), htq])
          refine DG.eff1 ?_
          refine Chg.callo rfl rfl call63 rfl (iM) (Pg.set_spec W0 _ (m := m) (n := n) (root := r) (p := q) (e := (entryOf (fr : Int) mm).toNat) (f := (fr : Int)) (pm := (mm : Int)) (spare := -1) (bs := overB σ.bs (fr * 256) (fillB [])) t1.rt hq4 (by rw [hent]; rfl) (by rw [hent]; omega) (by omega)) rfl (fun _ => iM) (fun _ => Imp.refl _) (fun _ => iM) ?_
          rintro ⟨⟩ -
          rw [hset]
          refine DG.look rfl rfl (Yield.move rfl) rfl ?_
          refine DG.look rfl rfl (Yield.extract rfl rfl) rfl ?_
          refine DG.look rfl rfl (Yield.extract rfl rfl) rfl ?_
          refine DG.look rfl rfl (Yield.assign rfl) rfl ?_
          refine DG.look rfl rfl (Yield.assign rfl) rfl ?_
          refine DG.done ?_
          refine QG.then ?_
          refine CG.seq ?_
          refine CG.region ?_
          refine OG.mv rfl rfl ?_
          refine OG.sg rfl rfl ?_
          refine OG.nil ?_
          refine QG.then ?_
          refine CG.ret ?_
          have L' := Lk.intro G2 rfl h0 e2 hcc
          exact QG.ret1 rfl rfl _ L' rfl iM
      · have htn : A.tb k (q / 64) = none := by cases h : A.tb k (q / 64) with | none => rfl | some _ => rw [h] at hts; exact absurd rfl hts
        have hte : (obs A σ).ts k (q / 64) = false := by show (A.tb k (q / 64)).isSome = false; rw [htn]; rfl
        by_cases hroom : qk - used (obs A σ) k < (2 : Nat)
        · have e : mapO qk (obs A σ) k (q : Int) (mm : Int) = (141, obs A σ) := by
            unfold mapO; rw [if_neg (by omega), Int.toNat_natCast, if_neg (by rw [hvw]; simp), hte, if_neg (show ¬ (false = true) by decide), if_pos hroom]
          rw [e]
          refine Ctr.of_body Tryz.func24 rfl Tryz.ntmps24 rfl ?_
          refine CG.seq ?_
          refine CG.region ?_
          refine OG.sg rfl rfl ?_
          refine OG.nil ?_
          refine QG.then ?_
          refine CG.seq ?_
          refine CG.block ?_
          refine CG.seq ?_
          refine CG.region ?_
          refine OG.mv rfl rfl ?_
          refine OG.mv rfl rfl ?_
          refine OG.callo call61 rfl (iM) (good_spec W0 _ (q : Int) (mm : Int)) rfl ?_
          rintro ⟨⟩ -
          rw [decide_eq_true hg]
          refine OG.yield (Yield.not rfl) rfl ?_
          refine OG.sg rfl rfl ?_
          refine OG.nil ?_
          refine QG.then ?_
          refine CG.cond_f rfl ?_
          refine CG.seq ?_
          refine CG.region ?_
          refine OG.mv rfl rfl ?_
          refine OG.mv rfl rfl ?_
          refine OG.callo call54 rfl (iM) (there_spec W0 _ (A := A) (σ := σ) (r := r) (k := k) (m := m) (f := f) (t := t) (qs := qs) (s := s) G.rep hk (q : Int)) rfl ?_
          rintro ⟨⟩ -
          rw [hvp, hx]
          refine OG.sg rfl rfl ?_
          refine OG.nil ?_
          refine QG.then ?_
          refine CG.cond_f rfl ?_
          refine CG.skip ?_
          refine QG.block_normal ?_
          refine QG.then ?_
          refine CG.seq ?_
          refine CG.region ?_
          refine OG.sg rfl rfl ?_
          refine OG.nil ?_
          refine QG.then ?_
          refine CG.seq ?_
          refine CG.seq ?_
          refine CG.region ?_
          refine OG.mv rfl rfl ?_
          refine OG.mv rfl rfl ?_
          refine OG.callo call55 rfl (iM) (table_spec W0 _ (A := A) (σ := σ) (r := r) (k := k) (m := m) (f := f) (t := t) (qs := qs) (s := s) G.rep hn2.2 hk hq4) rfl ?_
          rintro ⟨⟩ -
          rw [htn]
          refine OG.yield (Yield.not rfl) rfl ?_
          refine OG.nil ?_
          refine QG.then ?_
          refine CG.cond_t rfl ?_
          refine CG.region ?_
          refine OG.sg rfl rfl ?_
          refine OG.nil ?_
          refine QG.then ?_
          refine CG.seq ?_
          refine CG.seq ?_
          refine CG.region ?_
          refine OG.mv rfl rfl ?_
          refine OG.mv rfl rfl ?_
          refine OG.callo call56 rfl (iM) (room_spec W0 _ (σ := σ) (r := r) (k := k) (m := m) (f := f) (t := t) (n := n) (s := s) (d := 2) G.inv hq hqk (.inr rfl)) rfl ?_
          rintro ⟨⟩ -
          rw [huc, if_pos hroom]
          refine OG.sg rfl rfl ?_
          refine OG.nil ?_
          refine QG.then ?_
          refine CG.seq ?_
          refine CG.region ?_
          refine OG.mv rfl rfl ?_
          refine OG.yield Yield.neqA rfl ?_
          refine OG.nil ?_
          refine QG.then ?_
          refine CG.cond_t rfl ?_
          refine CG.seq ?_
          refine CG.region ?_
          refine OG.mv rfl rfl ?_
          refine OG.sg rfl rfl ?_
          refine OG.nil ?_
          refine QG.then ?_
          refine CG.ret ?_
          refine QG.pass_ret ?_
          exact QG.ret1 rfl rfl σ L0 rfl iM
        · have e : mapO qk (obs A σ) k (q : Int) (mm : Int) = (0, ⟨up2 (obs A σ).vw k q (some (mm, zs)), up2 (obs A σ).ts k (q / 64) true, (obs A σ).fr - 2⟩) := by
            unfold mapO; rw [if_neg (by omega), Int.toNat_natCast, if_neg (by rw [hvw]; simp), hte, if_neg (show ¬ (false = true) by decide), if_neg hroom, Int.toNat_natCast]
          rw [e]
          have hcq : (cnt σ.own k : Int) + 1 < qk := by omega
          refine Ctr.of_body Tryz.func24 rfl Tryz.ntmps24 rfl ?_
          refine CG.seq ?_
          refine CG.region ?_
          refine OG.sg rfl rfl ?_
          refine OG.nil ?_
          refine QG.then ?_
          refine CG.seq ?_
          refine CG.block ?_
          refine CG.seq ?_
          refine CG.region ?_
          refine OG.mv rfl rfl ?_
          refine OG.mv rfl rfl ?_
          refine OG.callo call61 rfl (iM) (good_spec W0 _ (q : Int) (mm : Int)) rfl ?_
          rintro ⟨⟩ -
          rw [decide_eq_true hg]
          refine OG.yield (Yield.not rfl) rfl ?_
          refine OG.sg rfl rfl ?_
          refine OG.nil ?_
          refine QG.then ?_
          refine CG.cond_f rfl ?_
          refine CG.seq ?_
          refine CG.region ?_
          refine OG.mv rfl rfl ?_
          refine OG.mv rfl rfl ?_
          refine OG.callo call54 rfl (iM) (there_spec W0 _ (A := A) (σ := σ) (r := r) (k := k) (m := m) (f := f) (t := t) (qs := qs) (s := s) G.rep hk (q : Int)) rfl ?_
          rintro ⟨⟩ -
          rw [hvp, hx]
          refine OG.sg rfl rfl ?_
          refine OG.nil ?_
          refine QG.then ?_
          refine CG.cond_f rfl ?_
          refine CG.skip ?_
          refine QG.block_normal ?_
          refine QG.then ?_
          refine CG.seq ?_
          refine CG.region ?_
          refine OG.sg rfl rfl ?_
          refine OG.nil ?_
          refine QG.then ?_
          refine CG.seq ?_
          refine CG.seq ?_
          refine CG.region ?_
          refine OG.mv rfl rfl ?_
          refine OG.mv rfl rfl ?_
          refine OG.callo call55 rfl (iM) (table_spec W0 _ (A := A) (σ := σ) (r := r) (k := k) (m := m) (f := f) (t := t) (qs := qs) (s := s) G.rep hn2.2 hk hq4) rfl ?_
          rintro ⟨⟩ -
          rw [htn]
          refine OG.yield (Yield.not rfl) rfl ?_
          refine OG.nil ?_
          refine QG.then ?_
          refine CG.cond_t rfl ?_
          refine CG.region ?_
          refine OG.sg rfl rfl ?_
          refine OG.nil ?_
          refine QG.then ?_
          refine CG.seq ?_
          refine CG.seq ?_
          refine CG.region ?_
          refine OG.mv rfl rfl ?_
          refine OG.mv rfl rfl ?_
          refine OG.callo call56 rfl (iM) (room_spec W0 _ (σ := σ) (r := r) (k := k) (m := m) (f := f) (t := t) (n := n) (s := s) (d := 2) G.inv hq hqk (.inr rfl)) rfl ?_
          rintro ⟨⟩ -
          rw [huc, if_neg hroom]
          refine OG.sg rfl rfl ?_
          refine OG.nil ?_
          refine QG.then ?_
          refine CG.seq ?_
          refine CG.region ?_
          refine OG.mv rfl rfl ?_
          refine OG.yield Yield.neqA rfl ?_
          refine OG.nil ?_
          refine QG.then ?_
          refine CG.cond_f rfl ?_
          refine CG.skip ?_
          refine QG.then ?_
          refine CG.seq ?_
          refine CG.region ?_
          refine OG.sg rfl rfl ?_
          refine OG.nil ?_
          refine QG.then ?_
          refine CG.seq ?_
          refine CG.seq ?_
          refine CG.region ?_
          refine OG.mv rfl rfl ?_
          refine OG.yield Yield.eqlA rfl ?_
          refine OG.nil ?_
          refine QG.then ?_
          refine CG.cond_t rfl ?_
          refine CG.region ?_
          refine OG.mv rfl rfl ?_
          refine OG.callo call62 rfl (iM) (take_spec W0 _ (σ := σ) (r := r) (k := k) (m := m) (f := f) (t := t) (n := n) (s := s) G.inv G.ol hq hqk (by omega)) rfl ?_
          rintro tq htq
          have hqn : tq < n := by rw [← G.ol]; exact (List.getElem?_eq_some_iff.1 htq).1
          have I1 := inv_take G.inv hqk (by omega) htq
          have hc1 : (cnt (σ.own.set tq k) k : Int) < qk := by rw [cnt_set htq, if_neg (show ¬ ((-1 : Int) = k) by omega), if_pos rfl]; omega
          refine OG.sg rfl rfl ?_
          refine OG.nil ?_
          refine QG.then ?_
          refine CG.seq ?_
          refine CG.draw (.look 0 0 (.look 1 0 (.look 2 0 (.look 3 0 (.look 4 0 (.look 5 0 (.look 6 0 (.look 7 0 (.look 8 0 (.look 9 1 (.look 11 0 (.look 12 0 (.eff1 10 false (.eff1 13 false (.look 14 1 (.look 15 1 (.look 16 1 (.look 17 1 (.look 18 1 (.done)))))))))))))))))))) [10, 13] [] ([sb s k r m f t]) ([]) mixed (by kernel_rfl) iM (Imp.none _) ?_
          refine DG.look rfl rfl (Yield.move rfl) rfl ?_
          refine DG.look rfl rfl (Yield.nilCheck rfl) rfl ?_
          refine DG.look rfl rfl (Yield.fieldAddr fa88_2 rfl) rfl ?_
          refine DG.look rfl rfl (Yield.loadA ti40 rfl) rfl ?_
          refine DG.look rfl rfl (Yield.move rfl) rfl ?_
          refine DG.look rfl rfl (Yield.nilCheck rfl) rfl ?_
          refine DG.look rfl rfl (Yield.fieldAddr fa88_1 rfl) rfl ?_
          refine DG.look rfl rfl (Yield.loadA ti3 rfl) rfl ?_
          refine DG.look rfl rfl (Yield.move rfl) rfl ?_
          refine DG.look rfl rfl (Yield.move rfl) rfl ?_
          refine DG.look rfl rfl (Yield.move rfl) rfl ?_
          refine DG.look rfl rfl (Yield.move rfl) rfl ?_
          refine DG.eff1 ?_
          refine Chg.callo rfl rfl call62 rfl (iM) (take_spec W0 _ (σ := { σ with bs := overB σ.bs (tq * 256) (fillB []), own := σ.own.set tq k }) (r := r) (k := k) (m := m) (f := f) (t := t) (n := n) (s := s) I1 (by show (σ.own.set tq k).length = n; rw [List.length_set]; exact G.ol) hq hqk hc1) rfl (fun _ => iM) (fun _ => Imp.refl _) (fun _ => iM) ?_
          rintro fr hfr
          dsimp only at hfr ⊢
          have hfn : fr < n := by have := (List.getElem?_eq_some_iff.1 hfr).1; rw [List.length_set, G.ol] at this; exact this
          have hne : fr ≠ tq := fun e => by subst e; rw [List.getElem?_set_self (by rw [G.ol]; exact hfn)] at hfr; have := Option.some.inj hfr; omega
          have hf0 : σ.own[fr]? = some (-1) := by rw [List.getElem?_set_ne (fun e => hne e.symm)] at hfr; exact hfr
          obtain ⟨G2, e2⟩ := G.map2 h0 (m := mm) hk hq4 htn hx htq hfr (by omega) hqk hcq
          have hent := (sp_entry (f := fr) (p := mm) (by omega) (by omega)).1
          have R1 := G.rep.only (only_fill (bs := σ.bs) (ws := []) G.rep.len hqn (by decide)) (fun k' e => G.own.free htq (.root k') e) (fun k' g e => G.own.free htq (.tab k' g) e)
          have R2 := R1.only (only_fill (bs := overB σ.bs (tq * 256) (fillB [])) (ws := []) R1.len hfn (by decide)) (fun k' e => G.own.free hf0 (.root k') e) (fun k' g e => G.own.free hf0 (.tab k' g) e)
          have hset := setR_new (n := n) (bs := overB (overB σ.bs (tq * 256) (fillB [])) (fr * 256) (fillB [])) (root := r) (p := q) (e := (entryOf (fr : Int) mm).toNat) (q := tq) (by rw [(R2.tree k r hk).2.1 _ (by omega), htn]) hqn
          refine DG.eff1 ?_
          refine Chg.callo rfl rfl call63 rfl (iM) (Pg.set_spec W0 _ (m := m) (n := n) (root := r) (p := q) (e := (entryOf (fr : Int) mm).toNat) (f := (fr : Int)) (pm := (mm : Int)) (spare := (tq : Int)) (bs := overB (overB σ.bs (tq * 256) (fillB [])) (fr * 256) (fillB [])) t1.rt hq4 (by rw [hent]; rfl) (by rw [hent]; omega) (by omega)) rfl (fun _ => iM) (fun _ => Imp.refl _) (fun _ => iM) ?_
          rintro ⟨⟩ -
          rw [hset]
          refine DG.look rfl rfl (Yield.move rfl) rfl ?_
          refine DG.look rfl rfl (Yield.extract rfl rfl) rfl ?_
          refine DG.look rfl rfl (Yield.extract rfl rfl) rfl ?_
          refine DG.look rfl rfl (Yield.assign rfl) rfl ?_
          refine DG.look rfl rfl (Yield.assign rfl) rfl ?_
          refine DG.done ?_
          refine QG.then ?_
          refine CG.seq ?_
          refine CG.region ?_
          refine OG.mv rfl rfl ?_
          refine OG.sg rfl rfl ?_
          refine OG.nil ?_
          refine QG.then ?_
          refine CG.ret ?_
          have L' := Lk.intro G2 rfl h0 e2 hcc
          exact QG.ret1 rfl rfl _ L' rfl iM
  · have e : mapO qk (obs A σ) k p pm = (2, obs A σ) := by unfold mapO; rw [if_pos hg]
    rw [e]
    refine Ctr.of_body Tryz.func24 rfl Tryz.ntmps24 rfl ?_
    refine CG.seq ?_
    refine CG.region ?_
    refine OG.sg rfl rfl ?_
    refine OG.nil ?_
    refine QG.then ?_
    refine CG.seq ?_
    refine CG.block ?_
    refine CG.seq ?_
    refine CG.region ?_
    refine OG.mv rfl rfl ?_
    refine OG.mv rfl rfl ?_
    refine OG.callo call61 rfl (iM) (good_spec W0 _ p pm) rfl ?_
    rintro ⟨⟩ -
    rw [decide_eq_false hg]
    refine OG.yield (Yield.not rfl) rfl ?_
    refine OG.sg rfl rfl ?_
    refine OG.nil ?_
    refine QG.then ?_
    refine CG.cond_t rfl ?_
    refine CG.seq ?_
    refine CG.region ?_
    refine OG.sg rfl rfl ?_
    refine OG.nil ?_
    refine QG.then ?_
    refine CG.ret ?_
    refine QG.block_ret ?_
    refine QG.pass_ret ?_
    exact QG.ret1 rfl rfl σ L0 rfl iM
end
end Go.Proofs.YtmlfcfbblfcpdaaGreat.Sp
/- space.Space: what can be seen behind Unmap, Protect, New, and a lookup. -/
namespace Go.Proofs.YtmlfcfbblfcpdaaGreat.Sp
open Go Go.Sl Go.RowKit Go.Proofs Go.Proofs.YtmlfcfbblfcpdaaGreat.T Go.Proofs.YtmlfcfbblfcpdaaGreat.Me Go.Proofs.YtmlfcfbblfcpdaaGreat.Pe Go.Proofs.YtmlfcfbblfcpdaaGreat.Pg
open Go.Proofs.YtmlfcfbblfcpdaaGreat.Fz (cnt cnt_set inv_take inv_give free_frame isP isF left left_in)
open Go.Proofs.YtmlfcfbblfcpdaaGreat.Tl (Slot hitB putL flushPL put_cases)
set_option maxRecDepth 100000
section
variable (W0 : World) (Fr : List HProp)
variable {n : Nat} {qs : List Int} {rt : Nat → Option Nat} {o : Ob} {c : Nat} {σ : St} {k r s m f t : Nat}
theorem wV_some {A : Ab} {k q : Nat} {x : Nat × Nat} (hq : q < 4096) (hx : A.pg k q = some x) : wV A k q = ((x.1 : Int), (x.2 : Int), 0) := by unfold wV; rw [vp_in hq, hx]
theorem wV_none {A : Ab} {k q : Nat} (hq : q < 4096) (hx : A.pg k q = none) : wV A k q = (0, 0, 90) := by unfold wV; rw [vp_in hq, hx]; simp only; rw [if_pos (by omega)]
theorem wV_out {A : Ab} {k : Nat} {p : Int} (h : ¬(0 ≤ p ∧ p < 4096)) : wV A k p = (0, 0, 2) := by unfold wV; rw [vp_out h]; simp only; rw [if_neg h]
theorem unmap_spec (L : Lk n qs rt o c σ) {qk : Int} (hqk : qs[k]? = some qk) (hk : rt k = some r) (p : Int) : Ctr Tryz.prog W0 26 [.pointer (some ⟨s, 0, none⟩), .int .i64 p] (WG m f t n qs σ (sb s k r m f t :: Fr)) (fun σ' : St => Lk n qs rt (unmapO o k p).2 c σ') (fun _ => .int .i64 (unmapO o k p).1) (fun σ' => WG m f t n qs σ' (sb s k r m f t :: Fr)) := by
  have L0 := L
  obtain ⟨A, rfl, h0, G, rfl, hcc⟩ := L
  have hkl := (List.getElem?_eq_some_iff.1 hqk).1
  rcases vp_cases A k p with ⟨q, x, rfl, hq4, hx, hv⟩ | ⟨q, rfl, hq4, hx, hv⟩ | ⟨hp, hv⟩
  · have e : unmapO (obs A σ) k (q : Int) = (0, ⟨up2 (obs A σ).vw k q none, (obs A σ).ts, (obs A σ).fr + 1⟩) := by
      unfold unmapO; rw [if_neg (by omega), Int.toNat_natCast, if_pos (by rw [vw_obs, hx]; rfl)]
    rw [e]
    obtain ⟨tq, htq, hw, htb⟩ := tab_of G hk hq4 hx
    obtain ⟨G2, e2⟩ := G.unmap hk hq4 htq hx
    have hcl := clearR_some hw htb
    have hxn := G.plt hx
    have hown := G.own.ow (.page k q) x.1 (Good.pgf hx)
    have hwR := walkR_some hw
    have L' := Lk.intro G2 rfl h0 e2 hcc
    refine Ctr.of_body Tryz.func26 rfl Tryz.ntmps26 rfl ?_
    refine CG.seq ?_
    refine CG.region ?_
    refine OG.sg rfl rfl ?_
    refine OG.nil ?_
    refine QG.then ?_
    refine CG.seq ?_
    refine CG.draw (.look 0 1 (.look 1 1 (.look 2 1 (.look 3 1 (.look 4 1 (.look 5 1 (.look 6 1 (.look 7 1 (.look 8 1 (.eff1 9 false (.look 10 1 (.look 11 1 (.look 12 1 (.look 13 1 (.look 14 1 (.look 15 1 (.look 16 1 (.done)))))))))))))))))) [9] [] ([]) ([]) mixed (by kernel_rfl) (Imp.none _) (Imp.none _) ?_
    refine DG.look rfl rfl (Yield.move rfl) rfl ?_
    refine DG.look rfl rfl (Yield.nilCheck rfl) rfl ?_
    refine DG.look rfl rfl (Yield.fieldAddr fa88_2 rfl) rfl ?_
    refine DG.look rfl rfl (Yield.loadA ti40 rfl) rfl ?_
    refine DG.look rfl rfl (Yield.move rfl) rfl ?_
    refine DG.look rfl rfl (Yield.nilCheck rfl) rfl ?_
    refine DG.look rfl rfl (Yield.fieldAddr fa88_1 rfl) rfl ?_
    refine DG.look rfl rfl (Yield.loadA ti3 rfl) rfl ?_
    refine DG.look rfl rfl (Yield.move rfl) rfl ?_
    refine DG.eff1 ?_
    refine Chg.callo rfl rfl call50 rfl (iM) (walk_ab W0 _ (m := m) (n := n) (σ := σ) G.rep hk (q : Int)) rfl (fun _ => iM) (fun _ => Imp.refl _) (fun _ => iM) ?_
    rintro ⟨⟩ -
    rw [wV_some hq4 hx]
    refine DG.look rfl rfl (Yield.move rfl) rfl ?_
    refine DG.look rfl rfl (Yield.extract rfl rfl) rfl ?_
    refine DG.look rfl rfl (Yield.extract rfl rfl) rfl ?_
    refine DG.look rfl rfl (Yield.extract rfl rfl) rfl ?_
    refine DG.look rfl rfl (Yield.assign rfl) rfl ?_
    refine DG.look rfl rfl (Yield.assign rfl) rfl ?_
    refine DG.look rfl rfl (Yield.assign rfl) rfl ?_
    refine DG.done ?_
    refine QG.then ?_
    refine CG.seq ?_
    refine CG.seq ?_
    refine CG.region ?_
    refine OG.mv rfl rfl ?_
    refine OG.yield Yield.neqA rfl ?_
    refine OG.nil ?_
    refine QG.then ?_
    refine CG.cond_f rfl ?_
    refine CG.skip ?_
    refine QG.then ?_
    refine CG.seq ?_
    refine CG.draw (.look 0 1 (.look 1 1 (.look 2 1 (.look 3 1 (.look 4 1 (.look 5 1 (.look 6 1 (.look 7 1 (.look 8 1 (.eff1 9 false (.done))))))))))) [9] [] ([]) ([]) mixed (by kernel_rfl) (Imp.none _) (Imp.none _) ?_
    refine DG.look rfl rfl (Yield.move rfl) rfl ?_
    refine DG.look rfl rfl (Yield.nilCheck rfl) rfl ?_
    refine DG.look rfl rfl (Yield.fieldAddr fa88_2 rfl) rfl ?_
    refine DG.look rfl rfl (Yield.loadA ti40 rfl) rfl ?_
    refine DG.look rfl rfl (Yield.move rfl) rfl ?_
    refine DG.look rfl rfl (Yield.nilCheck rfl) rfl ?_
    refine DG.look rfl rfl (Yield.fieldAddr fa88_1 rfl) rfl ?_
    refine DG.look rfl rfl (Yield.loadA ti3 rfl) rfl ?_
    refine DG.look rfl rfl (Yield.move rfl) rfl ?_
    refine DG.eff1 ?_
    refine Chg.callo rfl rfl call67 rfl (iM) (Pg.clear_spec W0 _ (m := m) (n := n) (root := r) (p := q) (bs := σ.bs) (G.rep.rlt hk) hq4) rfl (fun _ => iM) (fun _ => Imp.refl _) (fun _ => iM) ?_
    rintro ⟨⟩ -
    rw [hcl, hwR]
    refine DG.done ?_
    refine QG.then ?_
    refine CG.seq ?_
    refine CG.draw (.look 0 1 (.look 1 1 (.look 2 1 (.look 3 1 (.look 4 1 (.look 5 1 (.look 6 1 (.look 7 1 (.look 8 1 (.eff1 9 false (.done))))))))))) [9] [] ([]) ([]) mixed (by kernel_rfl) (Imp.none _) (Imp.none _) ?_
    refine DG.look rfl rfl (Yield.move rfl) rfl ?_
    refine DG.look rfl rfl (Yield.nilCheck rfl) rfl ?_
    refine DG.look rfl rfl (Yield.fieldAddr fa88_4 rfl) rfl ?_
    refine DG.look rfl rfl (Yield.loadA ti42 rfl) rfl ?_
    refine DG.look rfl rfl (Yield.move rfl) rfl ?_
    refine DG.look rfl rfl (Yield.nilCheck rfl) rfl ?_
    refine DG.look rfl rfl (Yield.fieldAddr fa88_0 rfl) rfl ?_
    refine DG.look rfl rfl (Yield.loadA ti3 rfl) rfl ?_
    refine DG.look rfl rfl (Yield.move rfl) rfl ?_
    refine DG.eff1 ?_
    refine Chg.callo rfl rfl call68 rfl (iM) (Tl.flushPage_spec W0 _ (t := t) (hand := σ.hand) (hits := σ.hits) (miss := σ.miss) (l := σ.l) (k : Int) (q : Int) G.tlb.ll) rfl (fun _ => iM) (fun _ => Imp.refl _) (fun _ => iM) ?_
    rintro ⟨⟩ -
    refine DG.done ?_
    refine QG.then ?_
    refine CG.seq ?_
    refine CG.region ?_
    refine OG.mv rfl rfl ?_
    refine OG.yield (Yield.nilCheck rfl) rfl ?_
    refine OG.yield (Yield.fieldAddr fa88_2 rfl) rfl ?_
    refine OG.yield (Yield.loadA ti40 rfl) rfl ?_
    refine OG.mv rfl rfl ?_
    refine OG.callo call49 rfl (iM) (fill_ok W0 _ (m := m) (n := n) (k := x.1) (bs := stW σ.bs tq (q % 64) 0) (ws := []) (a := none) (c2 := 0) (RdB.of_slR SlR.nil (Nat.le_refl _)) hxn (by decide)) rfl ?_
    rintro ⟨⟩ -
    refine OG.nil ?_
    refine QG.then ?_
    refine CG.seq ?_
    refine CG.draw (.look 0 1 (.look 1 1 (.look 2 1 (.look 3 1 (.look 4 1 (.look 5 1 (.look 6 1 (.look 7 1 (.look 8 1 (.eff1 9 false (.look 10 1 (.done)))))))))))) [9] [] ([]) ([]) mixed (by kernel_rfl) (Imp.none _) (Imp.none _) ?_
    refine DG.look rfl rfl (Yield.move rfl) rfl ?_
    refine DG.look rfl rfl (Yield.nilCheck rfl) rfl ?_
    refine DG.look rfl rfl (Yield.fieldAddr fa88_3 rfl) rfl ?_
    refine DG.look rfl rfl (Yield.loadA ti41 rfl) rfl ?_
    refine DG.look rfl rfl (Yield.move rfl) rfl ?_
    refine DG.look rfl rfl (Yield.nilCheck rfl) rfl ?_
    refine DG.look rfl rfl (Yield.fieldAddr fa88_0 rfl) rfl ?_
    refine DG.look rfl rfl (Yield.loadA ti3 rfl) rfl ?_
    refine DG.look rfl rfl (Yield.move rfl) rfl ?_
    refine DG.eff1 ?_
    refine Chg.callo rfl rfl call69 rfl (iM) (Fz.give_ok W0 _ (f := f) (own := σ.own) (qs := qs) (k : Int) x.1 ⟨by omega, by omega⟩ hown) rfl (fun _ => iM) (fun _ => Imp.refl _) (fun _ => iM) ?_
    rintro ⟨⟩ -
    refine DG.look rfl rfl (Yield.assign rfl) rfl ?_
    refine DG.done ?_
    refine QG.then ?_
    refine CG.ret ?_
    exact QG.ret1 rfl rfl _ L' rfl iM
  · have e : unmapO (obs A σ) k (q : Int) = (90, obs A σ) := by
      unfold unmapO; rw [if_neg (by omega), Int.toNat_natCast, if_neg (by rw [vw_obs, hx]; simp)]
    rw [e]
    refine Ctr.of_body Tryz.func26 rfl Tryz.ntmps26 rfl ?_
    refine CG.seq ?_
    refine CG.region ?_
    refine OG.sg rfl rfl ?_
    refine OG.nil ?_
    refine QG.then ?_
    refine CG.seq ?_
    refine CG.draw (.look 0 1 (.look 1 1 (.look 2 1 (.look 3 1 (.look 4 1 (.look 5 1 (.look 6 1 (.look 7 1 (.look 8 1 (.eff1 9 false (.look 10 1 (.look 11 1 (.look 12 1 (.look 13 1 (.look 14 1 (.look 15 1 (.look 16 1 (.done)))))))))))))))))) [9] [] ([]) ([]) mixed (by kernel_rfl) (Imp.none _) (Imp.none _) ?_
    refine DG.look rfl rfl (Yield.move rfl) rfl ?_
    refine DG.look rfl rfl (Yield.nilCheck rfl) rfl ?_
    refine DG.look rfl rfl (Yield.fieldAddr fa88_2 rfl) rfl ?_
    refine DG.look rfl rfl (Yield.loadA ti40 rfl) rfl ?_
    refine DG.look rfl rfl (Yield.move rfl) rfl ?_
    refine DG.look rfl rfl (Yield.nilCheck rfl) rfl ?_
    refine DG.look rfl rfl (Yield.fieldAddr fa88_1 rfl) rfl ?_
    refine DG.look rfl rfl (Yield.loadA ti3 rfl) rfl ?_
    refine DG.look rfl rfl (Yield.move rfl) rfl ?_
    refine DG.eff1 ?_
    refine Chg.callo rfl rfl call50 rfl (iM) (walk_ab W0 _ (m := m) (n := n) (σ := σ) G.rep hk (q : Int)) rfl (fun _ => iM) (fun _ => Imp.refl _) (fun _ => iM) ?_
    rintro ⟨⟩ -
    rw [wV_none hq4 hx]
    refine DG.look rfl rfl (Yield.move rfl) rfl ?_
    refine DG.look rfl rfl (Yield.extract rfl rfl) rfl ?_
    refine DG.look rfl rfl (Yield.extract rfl rfl) rfl ?_
    refine DG.look rfl rfl (Yield.extract rfl rfl) rfl ?_
    refine DG.look rfl rfl (Yield.assign rfl) rfl ?_
    refine DG.look rfl rfl (Yield.assign rfl) rfl ?_
    refine DG.look rfl rfl (Yield.assign rfl) rfl ?_
    refine DG.done ?_
    refine QG.then ?_
    refine CG.seq ?_
    refine CG.seq ?_
    refine CG.region ?_
    refine OG.mv rfl rfl ?_
    refine OG.yield Yield.neqA rfl ?_
    refine OG.nil ?_
    refine QG.then ?_
    refine CG.cond_t rfl ?_
    refine CG.seq ?_
    refine CG.region ?_
    refine OG.mv rfl rfl ?_
    refine OG.sg rfl rfl ?_
    refine OG.nil ?_
    refine QG.then ?_
    refine CG.ret ?_
    refine QG.pass_ret ?_
    exact QG.ret1 rfl rfl σ L0 rfl iM
  · have e : unmapO (obs A σ) k p = (2, obs A σ) := by unfold unmapO; rw [if_pos hp]
    rw [e]
    refine Ctr.of_body Tryz.func26 rfl Tryz.ntmps26 rfl ?_
    refine CG.seq ?_
    refine CG.region ?_
    refine OG.sg rfl rfl ?_
    refine OG.nil ?_
    refine QG.then ?_
    refine CG.seq ?_
    refine CG.draw (.look 0 1 (.look 1 1 (.look 2 1 (.look 3 1 (.look 4 1 (.look 5 1 (.look 6 1 (.look 7 1 (.look 8 1 (.eff1 9 false (.look 10 1 (.look 11 1 (.look 12 1 (.look 13 1 (.look 14 1 (.look 15 1 (.look 16 1 (.done)))))))))))))))))) [9] [] ([]) ([]) mixed (by kernel_rfl) (Imp.none _) (Imp.none _) ?_
    refine DG.look rfl rfl (Yield.move rfl) rfl ?_
    refine DG.look rfl rfl (Yield.nilCheck rfl) rfl ?_
    refine DG.look rfl rfl (Yield.fieldAddr fa88_2 rfl) rfl ?_
    refine DG.look rfl rfl (Yield.loadA ti40 rfl) rfl ?_
    refine DG.look rfl rfl (Yield.move rfl) rfl ?_
    refine DG.look rfl rfl (Yield.nilCheck rfl) rfl ?_
    refine DG.look rfl rfl (Yield.fieldAddr fa88_1 rfl) rfl ?_
    refine DG.look rfl rfl (Yield.loadA ti3 rfl) rfl ?_
    refine DG.look rfl rfl (Yield.move rfl) rfl ?_
    refine DG.eff1 ?_
    refine Chg.callo rfl rfl call50 rfl (iM) (walk_ab W0 _ (m := m) (n := n) (σ := σ) G.rep hk p) rfl (fun _ => iM) (fun _ => Imp.refl _) (fun _ => iM) ?_
    rintro ⟨⟩ -
    rw [wV_out hp]
    refine DG.look rfl rfl (Yield.move rfl) rfl ?_
    refine DG.look rfl rfl (Yield.extract rfl rfl) rfl ?_
    refine DG.look rfl rfl (Yield.extract rfl rfl) rfl ?_
    refine DG.look rfl rfl (Yield.extract rfl rfl) rfl ?_
    refine DG.look rfl rfl (Yield.assign rfl) rfl ?_
    refine DG.look rfl rfl (Yield.assign rfl) rfl ?_
    refine DG.look rfl rfl (Yield.assign rfl) rfl ?_
    refine DG.done ?_
    refine QG.then ?_
    refine CG.seq ?_
    refine CG.seq ?_
    refine CG.region ?_
    refine OG.mv rfl rfl ?_
    refine OG.yield Yield.neqA rfl ?_
    refine OG.nil ?_
    refine QG.then ?_
    refine CG.cond_t rfl ?_
    refine CG.seq ?_
    refine CG.region ?_
    refine OG.mv rfl rfl ?_
    refine OG.sg rfl rfl ?_
    refine OG.nil ?_
    refine QG.then ?_
    refine CG.ret ?_
    refine QG.pass_ret ?_
    exact QG.ret1 rfl rfl σ L0 rfl iM
theorem protect_spec (L : Lk n qs rt o c σ) (hk : rt k = some r) (p pm : Int) : Ctr Tryz.prog W0 28 [.pointer (some ⟨s, 0, none⟩), .int .i64 p, .int .i64 pm] (WG m f t n qs σ (sb s k r m f t :: Fr)) (fun σ' : St => Lk n qs rt (protO o k p pm).2 c σ') (fun _ => .int .i64 (protO o k p pm).1) (fun σ' => WG m f t n qs σ' (sb s k r m f t :: Fr)) := by
  have L0 := L
  obtain ⟨A, rfl, h0, G, rfl, hcc⟩ := L
  by_cases hg : (0 ≤ p ∧ p < 4096) ∧ 1 ≤ pm ∧ pm ≤ 7
  · obtain ⟨q, rfl⟩ := Int.eq_ofNat_of_zero_le hg.1.1
    obtain ⟨mm, rfl⟩ := Int.eq_ofNat_of_zero_le (show 0 ≤ pm by omega)
    have hq4 : q < 4096 := by omega
    cases hx : A.pg k q with
    | some x =>
      have e : protO (obs A σ) k (q : Int) (mm : Int) = (0, ⟨up2 (obs A σ).vw k q (some (mm, frB σ.bs x.1)), (obs A σ).ts, (obs A σ).fr⟩) := by
        unfold protO; rw [if_neg (by omega), Int.toNat_natCast, vw_obs, hx]; rfl
      rw [e]
      obtain ⟨tq, htq, hw, htb⟩ := tab_of G hk hq4 hx
      obtain ⟨G2, e2⟩ := G.protect (m := mm) hk hq4 htq hx (by omega)
      have hxn := G.plt hx
      have hn2 := G.n2
      have hent := (sp_entry (f := x.1) (p := mm) (by omega) (by omega)).1
      have hset := setR_tab (n := n) (bs := σ.bs) (root := r) (p := q) (e := (entryOf (x.1 : Int) mm).toNat) (q := tq) (spare := -1) htb
      have L' := Lk.intro G2 rfl h0 e2 hcc
      refine Ctr.of_body Tryz.func28 rfl Tryz.ntmps28 rfl ?_
      refine CG.seq ?_
      refine CG.region ?_
      refine OG.sg rfl rfl ?_
      refine OG.nil ?_
      refine QG.then ?_
      refine CG.seq ?_
      refine CG.seq ?_
      refine CG.region ?_
      refine OG.mv rfl rfl ?_
      refine OG.mv rfl rfl ?_
      refine OG.callo call61 rfl (iM) (good_spec W0 _ (q : Int) (mm : Int)) rfl ?_
      rintro ⟨⟩ -
      rw [decide_eq_true hg]
      refine OG.yield (Yield.not rfl) rfl ?_
      refine OG.nil ?_
      refine QG.then ?_
      refine CG.cond_f rfl ?_
      refine CG.skip ?_
      refine QG.then ?_
      refine CG.seq ?_
      refine CG.draw (.look 0 1 (.look 1 1 (.look 2 1 (.look 3 1 (.look 4 1 (.look 5 1 (.look 6 1 (.look 7 1 (.look 8 1 (.eff1 9 false (.look 10 1 (.look 11 1 (.look 12 1 (.look 13 1 (.look 14 1 (.look 15 1 (.look 16 1 (.done)))))))))))))))))) [9] [] ([]) ([]) mixed (by kernel_rfl) (Imp.none _) (Imp.none _) ?_
      refine DG.look rfl rfl (Yield.move rfl) rfl ?_
      refine DG.look rfl rfl (Yield.nilCheck rfl) rfl ?_
      refine DG.look rfl rfl (Yield.fieldAddr fa88_2 rfl) rfl ?_
      refine DG.look rfl rfl (Yield.loadA ti40 rfl) rfl ?_
      refine DG.look rfl rfl (Yield.move rfl) rfl ?_
      refine DG.look rfl rfl (Yield.nilCheck rfl) rfl ?_
      refine DG.look rfl rfl (Yield.fieldAddr fa88_1 rfl) rfl ?_
      refine DG.look rfl rfl (Yield.loadA ti3 rfl) rfl ?_
      refine DG.look rfl rfl (Yield.move rfl) rfl ?_
      refine DG.eff1 ?_
      refine Chg.callo rfl rfl call50 rfl (iM) (walk_ab W0 _ (m := m) (n := n) (σ := σ) G.rep hk (q : Int)) rfl (fun _ => iM) (fun _ => Imp.refl _) (fun _ => iM) ?_
      rintro ⟨⟩ -
      rw [wV_some hq4 hx]
      refine DG.look rfl rfl (Yield.move rfl) rfl ?_
      refine DG.look rfl rfl (Yield.extract rfl rfl) rfl ?_
      refine DG.look rfl rfl (Yield.extract rfl rfl) rfl ?_
      refine DG.look rfl rfl (Yield.extract rfl rfl) rfl ?_
      refine DG.look rfl rfl (Yield.assign rfl) rfl ?_
      refine DG.look rfl rfl (Yield.assign rfl) rfl ?_
      refine DG.look rfl rfl (Yield.assign rfl) rfl ?_
      refine DG.done ?_
      refine QG.then ?_
      refine CG.seq ?_
      refine CG.seq ?_
      refine CG.region ?_
      refine OG.mv rfl rfl ?_
      refine OG.yield Yield.neqA rfl ?_
      refine OG.nil ?_
      refine QG.then ?_
      refine CG.cond_f rfl ?_
      refine CG.skip ?_
      refine QG.then ?_
      refine CG.seq ?_
      refine CG.draw (.look 0 1 (.look 1 1 (.look 2 1 (.look 3 1 (.look 4 1 (.look 5 1 (.look 6 1 (.look 7 1 (.look 8 1 (.look 9 1 (.look 10 1 (.eff1 11 false (.done))))))))))))) [11] [] ([]) ([]) mixed (by kernel_rfl) (Imp.none _) (Imp.none _) ?_
      refine DG.look rfl rfl (Yield.move rfl) rfl ?_
      refine DG.look rfl rfl (Yield.nilCheck rfl) rfl ?_
      refine DG.look rfl rfl (Yield.fieldAddr fa88_2 rfl) rfl ?_
      refine DG.look rfl rfl (Yield.loadA ti40 rfl) rfl ?_
      refine DG.look rfl rfl (Yield.move rfl) rfl ?_
      refine DG.look rfl rfl (Yield.nilCheck rfl) rfl ?_
      refine DG.look rfl rfl (Yield.fieldAddr fa88_1 rfl) rfl ?_
      refine DG.look rfl rfl (Yield.loadA ti3 rfl) rfl ?_
      refine DG.look rfl rfl (Yield.move rfl) rfl ?_
      refine DG.look rfl rfl (Yield.move rfl) rfl ?_
      refine DG.look rfl rfl (Yield.move rfl) rfl ?_
      refine DG.eff1 ?_
      refine Chg.callo rfl rfl call63 rfl (iM) (Pg.set_spec W0 _ (m := m) (n := n) (root := r) (p := q) (e := (entryOf (x.1 : Int) mm).toNat) (f := (x.1 : Int)) (pm := (mm : Int)) (spare := -1) (bs := σ.bs) (G.rep.rlt hk) hq4 (by rw [hent]; rfl) (by rw [hent]; omega) (by omega)) rfl (fun _ => iM) (fun _ => Imp.refl _) (fun _ => iM) ?_
      rintro ⟨⟩ -
      rw [hset]
      refine DG.done ?_
      refine QG.then ?_
      refine CG.seq ?_
      refine CG.draw (.look 0 1 (.look 1 1 (.look 2 1 (.look 3 1 (.look 4 1 (.look 5 1 (.look 6 1 (.look 7 1 (.look 8 1 (.eff1 9 false (.done))))))))))) [9] [] ([]) ([]) mixed (by kernel_rfl) (Imp.none _) (Imp.none _) ?_
      refine DG.look rfl rfl (Yield.move rfl) rfl ?_
      refine DG.look rfl rfl (Yield.nilCheck rfl) rfl ?_
      refine DG.look rfl rfl (Yield.fieldAddr fa88_4 rfl) rfl ?_
      refine DG.look rfl rfl (Yield.loadA ti42 rfl) rfl ?_
      refine DG.look rfl rfl (Yield.move rfl) rfl ?_
      refine DG.look rfl rfl (Yield.nilCheck rfl) rfl ?_
      refine DG.look rfl rfl (Yield.fieldAddr fa88_0 rfl) rfl ?_
      refine DG.look rfl rfl (Yield.loadA ti3 rfl) rfl ?_
      refine DG.look rfl rfl (Yield.move rfl) rfl ?_
      refine DG.eff1 ?_
      refine Chg.callo rfl rfl call68 rfl (iM) (Tl.flushPage_spec W0 _ (t := t) (hand := σ.hand) (hits := σ.hits) (miss := σ.miss) (l := σ.l) (k : Int) (q : Int) G.tlb.ll) rfl (fun _ => iM) (fun _ => Imp.refl _) (fun _ => iM) ?_
      rintro ⟨⟩ -
      refine DG.done ?_
      refine QG.then ?_
      refine CG.seq ?_
      refine CG.region ?_
      refine OG.sg rfl rfl ?_
      refine OG.nil ?_
      refine QG.then ?_
      refine CG.ret ?_
      exact QG.ret1 rfl rfl _ L' rfl iM
    | none =>
      have e : protO (obs A σ) k (q : Int) (mm : Int) = (90, obs A σ) := by
        unfold protO; rw [if_neg (by omega), Int.toNat_natCast, vw_obs, hx]; rfl
      rw [e]
      refine Ctr.of_body Tryz.func28 rfl Tryz.ntmps28 rfl ?_
      refine CG.seq ?_
      refine CG.region ?_
      refine OG.sg rfl rfl ?_
      refine OG.nil ?_
      refine QG.then ?_
      refine CG.seq ?_
      refine CG.seq ?_
      refine CG.region ?_
      refine OG.mv rfl rfl ?_
      refine OG.mv rfl rfl ?_
      refine OG.callo call61 rfl (iM) (good_spec W0 _ (q : Int) (mm : Int)) rfl ?_
      rintro ⟨⟩ -
      rw [decide_eq_true hg]
      refine OG.yield (Yield.not rfl) rfl ?_
      refine OG.nil ?_
      refine QG.then ?_
      refine CG.cond_f rfl ?_
      refine CG.skip ?_
      refine QG.then ?_
      refine CG.seq ?_
      refine CG.draw (.look 0 1 (.look 1 1 (.look 2 1 (.look 3 1 (.look 4 1 (.look 5 1 (.look 6 1 (.look 7 1 (.look 8 1 (.eff1 9 false (.look 10 1 (.look 11 1 (.look 12 1 (.look 13 1 (.look 14 1 (.look 15 1 (.look 16 1 (.done)))))))))))))))))) [9] [] ([]) ([]) mixed (by kernel_rfl) (Imp.none _) (Imp.none _) ?_
      refine DG.look rfl rfl (Yield.move rfl) rfl ?_
      refine DG.look rfl rfl (Yield.nilCheck rfl) rfl ?_
      refine DG.look rfl rfl (Yield.fieldAddr fa88_2 rfl) rfl ?_
      refine DG.look rfl rfl (Yield.loadA ti40 rfl) rfl ?_
      refine DG.look rfl rfl (Yield.move rfl) rfl ?_
      refine DG.look rfl rfl (Yield.nilCheck rfl) rfl ?_
      refine DG.look rfl rfl (Yield.fieldAddr fa88_1 rfl) rfl ?_
      refine DG.look rfl rfl (Yield.loadA ti3 rfl) rfl ?_
      refine DG.look rfl rfl (Yield.move rfl) rfl ?_
      refine DG.eff1 ?_
      refine Chg.callo rfl rfl call50 rfl (iM) (walk_ab W0 _ (m := m) (n := n) (σ := σ) G.rep hk (q : Int)) rfl (fun _ => iM) (fun _ => Imp.refl _) (fun _ => iM) ?_
      rintro ⟨⟩ -
      rw [wV_none hq4 hx]
      refine DG.look rfl rfl (Yield.move rfl) rfl ?_
      refine DG.look rfl rfl (Yield.extract rfl rfl) rfl ?_
      refine DG.look rfl rfl (Yield.extract rfl rfl) rfl ?_
      refine DG.look rfl rfl (Yield.extract rfl rfl) rfl ?_
      refine DG.look rfl rfl (Yield.assign rfl) rfl ?_
      refine DG.look rfl rfl (Yield.assign rfl) rfl ?_
      refine DG.look rfl rfl (Yield.assign rfl) rfl ?_
      refine DG.done ?_
      refine QG.then ?_
      refine CG.seq ?_
      refine CG.seq ?_
      refine CG.region ?_
      refine OG.mv rfl rfl ?_
      refine OG.yield Yield.neqA rfl ?_
      refine OG.nil ?_
      refine QG.then ?_
      refine CG.cond_t rfl ?_
      refine CG.seq ?_
      refine CG.region ?_
      refine OG.mv rfl rfl ?_
      refine OG.sg rfl rfl ?_
      refine OG.nil ?_
      refine QG.then ?_
      refine CG.ret ?_
      refine QG.pass_ret ?_
      exact QG.ret1 rfl rfl σ L0 rfl iM
  · have e : protO (obs A σ) k p pm = (2, obs A σ) := by unfold protO; rw [if_pos hg]
    rw [e]
    refine Ctr.of_body Tryz.func28 rfl Tryz.ntmps28 rfl ?_
    refine CG.seq ?_
    refine CG.region ?_
    refine OG.sg rfl rfl ?_
    refine OG.nil ?_
    refine QG.then ?_
    refine CG.seq ?_
    refine CG.seq ?_
    refine CG.region ?_
    refine OG.mv rfl rfl ?_
    refine OG.mv rfl rfl ?_
    refine OG.callo call61 rfl (iM) (good_spec W0 _ p pm) rfl ?_
    rintro ⟨⟩ -
    rw [decide_eq_false hg]
    refine OG.yield (Yield.not rfl) rfl ?_
    refine OG.nil ?_
    refine QG.then ?_
    refine CG.cond_t rfl ?_
    refine CG.seq ?_
    refine CG.region ?_
    refine OG.sg rfl rfl ?_
    refine OG.nil ?_
    refine QG.then ?_
    refine CG.ret ?_
    refine QG.pass_ret ?_
    exact QG.ret1 rfl rfl σ L0 rfl iM
/-- A lookup has changed nothing that can be seen. -/
structure Fnd (n : Nat) (qs : List Int) (A : Ab) (σ σ' : St) : Prop where
  good : Good n qs A σ'
  bs : σ'.bs = σ.bs
  own : σ'.own = σ.own
  cnt : σ'.hits + σ'.miss ≤ σ.hits + σ.miss + 1
theorem find_spec {A : Ab} (G : Good n qs A σ) (hk : A.rt k = some r) (hb : σ.hits + σ.miss < 1000000000000000000) (p : Int) : Ctr Tryz.prog W0 86 [.pointer (some ⟨s, 0, none⟩), .int .i64 p] (WG m f t n qs σ (sb s k r m f t :: Fr)) (fun σ' : St => Fnd n qs A σ σ') (fun _ => .tuple #[.int .i64 (wV A k p).1, .int .i64 (wV A k p).2.1, .bool (vp A k p).isSome]) (fun σ' => WG m f t n qs σ' (sb s k r m f t :: Fr)) := by
  cases hf : σ.l.findIdx? (hitB k p) with
  | some i =>
    have hi := (List.findIdx?_eq_some_iff_getElem.1 hf).1
    obtain ⟨sl, hs⟩ : ∃ sl, σ.l[i]? = some sl := ⟨_, List.getElem?_eq_getElem hi⟩
    have hpp : ∃ q : Nat, p = q := by
      obtain ⟨_, h4, _⟩ := List.findIdx?_eq_some_iff_getElem.1 hf
      rw [show σ.l[i] = sl by simpa [hi] using hs] at h4
      obtain ⟨a1, a2, a3⟩ := hit_iff.1 h4
      obtain ⟨k', p', x, b1, b2, b3⟩ := G.tlb.tr sl (List.mem_of_getElem? hs) a1
      exact ⟨p', by omega⟩
    obtain ⟨q, rfl⟩ := hpp
    obtain ⟨x, hx, hfr, hpm⟩ := G.tlb.hit hf hs
    have hq4 := (G.rep.pg0 k q x hx).1
    rw [wV_some hq4 hx, vp_in hq4, hx]
    refine Ctr.of_body Tryz.func86 rfl Tryz.ntmps86 rfl ?_
    refine CG.seq ?_
    refine CG.region ?_
    refine OG.sg rfl rfl ?_
    refine OG.sg rfl rfl ?_
    refine OG.sg rfl rfl ?_
    refine OG.nil ?_
    refine QG.then ?_
    refine CG.seq ?_
    refine CG.seq ?_
    refine CG.draw (.look 0 1 (.look 1 1 (.look 2 1 (.look 3 1 (.look 4 1 (.look 5 1 (.look 6 1 (.look 7 1 (.look 8 1 (.eff1 9 false (.look 10 1 (.look 11 1 (.look 12 1 (.look 13 1 (.look 14 1 (.look 15 1 (.look 16 1 (.done)))))))))))))))))) [9] [] ([]) ([]) mixed (by kernel_rfl) (Imp.none _) (Imp.none _) ?_
    refine DG.look rfl rfl (Yield.move rfl) rfl ?_
    refine DG.look rfl rfl (Yield.nilCheck rfl) rfl ?_
    refine DG.look rfl rfl (Yield.fieldAddr fa88_4 rfl) rfl ?_
    refine DG.look rfl rfl (Yield.loadA ti42 rfl) rfl ?_
    refine DG.look rfl rfl (Yield.move rfl) rfl ?_
    refine DG.look rfl rfl (Yield.nilCheck rfl) rfl ?_
    refine DG.look rfl rfl (Yield.fieldAddr fa88_0 rfl) rfl ?_
    refine DG.look rfl rfl (Yield.loadA ti3 rfl) rfl ?_
    refine DG.look rfl rfl (Yield.move rfl) rfl ?_
    refine DG.eff1 ?_
    refine Chg.callo rfl rfl call103 rfl (iM) (Tl.look_hit W0 _ (t := t) (hand := σ.hand) (hits := σ.hits) (miss := σ.miss) (l := σ.l) (k : Int) (q : Int) G.tlb.ll (by omega) hf hs) rfl (fun _ => iM) (fun _ => Imp.refl _) (fun _ => iM) ?_
    rintro ⟨⟩ -
    rw [hfr, hpm]
    refine DG.look rfl rfl (Yield.move rfl) rfl ?_
    refine DG.look rfl rfl (Yield.extract rfl rfl) rfl ?_
    refine DG.look rfl rfl (Yield.extract rfl rfl) rfl ?_
    refine DG.look rfl rfl (Yield.extract rfl rfl) rfl ?_
    refine DG.look rfl rfl (Yield.assign rfl) rfl ?_
    refine DG.look rfl rfl (Yield.assign rfl) rfl ?_
    refine DG.look rfl rfl (Yield.assign rfl) rfl ?_
    refine DG.done ?_
    refine QG.then ?_
    refine CG.seq ?_
    refine CG.region ?_
    refine OG.mv rfl rfl ?_
    refine OG.nil ?_
    refine QG.then ?_
    refine CG.cond_t rfl ?_
    refine CG.seq ?_
    refine CG.region ?_
    refine OG.mv rfl rfl ?_
    refine OG.mv rfl rfl ?_
    refine OG.sg rfl rfl ?_
    refine OG.sg rfl rfl ?_
    refine OG.sg rfl rfl ?_
    refine OG.nil ?_
    refine QG.then ?_
    refine CG.ret ?_
    refine QG.pass_ret ?_
    exact QG.rets [.int .i64 x.1, .int .i64 x.2, .bool true] rfl ⟨rfl, rfl, rfl, trivial⟩ { σ with hits := σ.hits + 1, miss := σ.miss } ⟨G.count _ _, rfl, rfl, by simp only; omega⟩ rfl iM
  | none =>
    rcases vp_cases A k p with ⟨q, x, rfl, hq4, hx, hv⟩ | ⟨q, rfl, hq4, hx, hv⟩ | ⟨hp, hv⟩
    · rw [wV_some hq4 hx, hv]
      refine Ctr.of_body Tryz.func86 rfl Tryz.ntmps86 rfl ?_
      refine CG.seq ?_
      refine CG.region ?_
      refine OG.sg rfl rfl ?_
      refine OG.sg rfl rfl ?_
      refine OG.sg rfl rfl ?_
      refine OG.nil ?_
      refine QG.then ?_
      refine CG.seq ?_
      refine CG.seq ?_
      refine CG.draw (.look 0 1 (.look 1 1 (.look 2 1 (.look 3 1 (.look 4 1 (.look 5 1 (.look 6 1 (.look 7 1 (.look 8 1 (.eff1 9 false (.look 10 1 (.look 11 1 (.look 12 1 (.look 13 1 (.look 14 1 (.look 15 1 (.look 16 1 (.done)))))))))))))))))) [9] [] ([]) ([]) mixed (by kernel_rfl) (Imp.none _) (Imp.none _) ?_
      refine DG.look rfl rfl (Yield.move rfl) rfl ?_
      refine DG.look rfl rfl (Yield.nilCheck rfl) rfl ?_
      refine DG.look rfl rfl (Yield.fieldAddr fa88_4 rfl) rfl ?_
      refine DG.look rfl rfl (Yield.loadA ti42 rfl) rfl ?_
      refine DG.look rfl rfl (Yield.move rfl) rfl ?_
      refine DG.look rfl rfl (Yield.nilCheck rfl) rfl ?_
      refine DG.look rfl rfl (Yield.fieldAddr fa88_0 rfl) rfl ?_
      refine DG.look rfl rfl (Yield.loadA ti3 rfl) rfl ?_
      refine DG.look rfl rfl (Yield.move rfl) rfl ?_
      refine DG.eff1 ?_
      refine Chg.callo rfl rfl call103 rfl (iM) (Tl.look_miss W0 _ (t := t) (hand := σ.hand) (hits := σ.hits) (miss := σ.miss) (l := σ.l) (k : Int) (q : Int) G.tlb.ll (by omega) hf) rfl (fun _ => iM) (fun _ => Imp.refl _) (fun _ => iM) ?_
      rintro ⟨⟩ -
      refine DG.look rfl rfl (Yield.move rfl) rfl ?_
      refine DG.look rfl rfl (Yield.extract rfl rfl) rfl ?_
      refine DG.look rfl rfl (Yield.extract rfl rfl) rfl ?_
      refine DG.look rfl rfl (Yield.extract rfl rfl) rfl ?_
      refine DG.look rfl rfl (Yield.assign rfl) rfl ?_
      refine DG.look rfl rfl (Yield.assign rfl) rfl ?_
      refine DG.look rfl rfl (Yield.assign rfl) rfl ?_
      refine DG.done ?_
      refine QG.then ?_
      refine CG.seq ?_
      refine CG.region ?_
      refine OG.mv rfl rfl ?_
      refine OG.nil ?_
      refine QG.then ?_
      refine CG.cond_f rfl ?_
      refine CG.skip ?_
      refine QG.then ?_
      refine CG.seq ?_
      refine CG.draw (.look 0 1 (.look 1 1 (.look 2 1 (.look 3 1 (.look 4 1 (.look 5 1 (.look 6 1 (.look 7 1 (.look 8 1 (.eff1 9 false (.look 10 1 (.look 11 1 (.look 12 1 (.look 13 1 (.look 14 1 (.look 15 1 (.look 16 1 (.done)))))))))))))))))) [9] [] ([]) ([]) mixed (by kernel_rfl) (Imp.none _) (Imp.none _) ?_
      refine DG.look rfl rfl (Yield.move rfl) rfl ?_
      refine DG.look rfl rfl (Yield.nilCheck rfl) rfl ?_
      refine DG.look rfl rfl (Yield.fieldAddr fa88_2 rfl) rfl ?_
      refine DG.look rfl rfl (Yield.loadA ti40 rfl) rfl ?_
      refine DG.look rfl rfl (Yield.move rfl) rfl ?_
      refine DG.look rfl rfl (Yield.nilCheck rfl) rfl ?_
      refine DG.look rfl rfl (Yield.fieldAddr fa88_1 rfl) rfl ?_
      refine DG.look rfl rfl (Yield.loadA ti3 rfl) rfl ?_
      refine DG.look rfl rfl (Yield.move rfl) rfl ?_
      refine DG.eff1 ?_
      refine Chg.callo rfl rfl call50 rfl (iM) (walk_ab W0 _ (m := m) (n := n) (σ := σ) G.rep hk (q : Int)) rfl (fun _ => iM) (fun _ => Imp.refl _) (fun _ => iM) ?_
      rintro ⟨⟩ -
      rw [wV_some hq4 hx]
      refine DG.look rfl rfl (Yield.move rfl) rfl ?_
      refine DG.look rfl rfl (Yield.extract rfl rfl) rfl ?_
      refine DG.look rfl rfl (Yield.extract rfl rfl) rfl ?_
      refine DG.look rfl rfl (Yield.extract rfl rfl) rfl ?_
      refine DG.look rfl rfl (Yield.assign rfl) rfl ?_
      refine DG.look rfl rfl (Yield.assign rfl) rfl ?_
      refine DG.look rfl rfl (Yield.assign rfl) rfl ?_
      refine DG.done ?_
      refine QG.then ?_
      refine CG.seq ?_
      refine CG.seq ?_
      refine CG.region ?_
      refine OG.mv rfl rfl ?_
      refine OG.yield Yield.neqA rfl ?_
      refine OG.nil ?_
      refine QG.then ?_
      refine CG.cond_f rfl ?_
      refine CG.skip ?_
      refine QG.then ?_
      refine CG.seq ?_
      refine CG.draw (.look 0 1 (.look 1 1 (.look 2 1 (.look 3 1 (.look 4 1 (.look 5 1 (.look 6 1 (.look 7 1 (.look 8 1 (.look 9 1 (.look 10 1 (.eff1 11 false (.done))))))))))))) [11] [] ([]) ([]) mixed (by kernel_rfl) (Imp.none _) (Imp.none _) ?_
      refine DG.look rfl rfl (Yield.move rfl) rfl ?_
      refine DG.look rfl rfl (Yield.nilCheck rfl) rfl ?_
      refine DG.look rfl rfl (Yield.fieldAddr fa88_4 rfl) rfl ?_
      refine DG.look rfl rfl (Yield.loadA ti42 rfl) rfl ?_
      refine DG.look rfl rfl (Yield.move rfl) rfl ?_
      refine DG.look rfl rfl (Yield.nilCheck rfl) rfl ?_
      refine DG.look rfl rfl (Yield.fieldAddr fa88_0 rfl) rfl ?_
      refine DG.look rfl rfl (Yield.loadA ti3 rfl) rfl ?_
      refine DG.look rfl rfl (Yield.move rfl) rfl ?_
      refine DG.look rfl rfl (Yield.move rfl) rfl ?_
      refine DG.look rfl rfl (Yield.move rfl) rfl ?_
      refine DG.eff1 ?_
      refine Chg.callo rfl rfl call104 rfl (iM) (Tl.put_spec W0 _ (t := t) (hand := σ.hand) (hits := σ.hits) (miss := σ.miss + 1) (l := σ.l) (k : Int) (q : Int) (x.1 : Int) (x.2 : Int) G.tlb.ll G.tlb.hh) rfl (fun _ => iM) (fun _ => Imp.refl _) (fun _ => iM) ?_
      rintro ⟨⟩ -
      refine DG.done ?_
      refine QG.then ?_
      refine CG.seq ?_
      refine CG.region ?_
      refine OG.mv rfl rfl ?_
      refine OG.mv rfl rfl ?_
      refine OG.sg rfl rfl ?_
      refine OG.sg rfl rfl ?_
      refine OG.sg rfl rfl ?_
      refine OG.nil ?_
      refine QG.then ?_
      refine CG.ret ?_
      exact QG.rets [.int .i64 x.1, .int .i64 x.2, .bool true] rfl ⟨rfl, rfl, rfl, trivial⟩ { σ with l := (putL σ.l σ.hand ⟨true, k, q, x.1, x.2⟩).1, hand := (putL σ.l σ.hand ⟨true, k, q, x.1, x.2⟩).2, hits := σ.hits, miss := σ.miss + 1 } ⟨G.find hx _ _, rfl, rfl, by simp only; omega⟩ rfl iM
    · rw [wV_none hq4 hx, hv]
      refine Ctr.of_body Tryz.func86 rfl Tryz.ntmps86 rfl ?_
      refine CG.seq ?_
      refine CG.region ?_
      refine OG.sg rfl rfl ?_
      refine OG.sg rfl rfl ?_
      refine OG.sg rfl rfl ?_
      refine OG.nil ?_
      refine QG.then ?_
      refine CG.seq ?_
      refine CG.seq ?_
      refine CG.draw (.look 0 1 (.look 1 1 (.look 2 1 (.look 3 1 (.look 4 1 (.look 5 1 (.look 6 1 (.look 7 1 (.look 8 1 (.eff1 9 false (.look 10 1 (.look 11 1 (.look 12 1 (.look 13 1 (.look 14 1 (.look 15 1 (.look 16 1 (.done)))))))))))))))))) [9] [] ([]) ([]) mixed (by kernel_rfl) (Imp.none _) (Imp.none _) ?_
      refine DG.look rfl rfl (Yield.move rfl) rfl ?_
      refine DG.look rfl rfl (Yield.nilCheck rfl) rfl ?_
      refine DG.look rfl rfl (Yield.fieldAddr fa88_4 rfl) rfl ?_
      refine DG.look rfl rfl (Yield.loadA ti42 rfl) rfl ?_
      refine DG.look rfl rfl (Yield.move rfl) rfl ?_
      refine DG.look rfl rfl (Yield.nilCheck rfl) rfl ?_
      refine DG.look rfl rfl (Yield.fieldAddr fa88_0 rfl) rfl ?_
      refine DG.look rfl rfl (Yield.loadA ti3 rfl) rfl ?_
      refine DG.look rfl rfl (Yield.move rfl) rfl ?_
      refine DG.eff1 ?_
      refine Chg.callo rfl rfl call103 rfl (iM) (Tl.look_miss W0 _ (t := t) (hand := σ.hand) (hits := σ.hits) (miss := σ.miss) (l := σ.l) (k : Int) (q : Int) G.tlb.ll (by omega) hf) rfl (fun _ => iM) (fun _ => Imp.refl _) (fun _ => iM) ?_
      rintro ⟨⟩ -
      refine DG.look rfl rfl (Yield.move rfl) rfl ?_
      refine DG.look rfl rfl (Yield.extract rfl rfl) rfl ?_
      refine DG.look rfl rfl (Yield.extract rfl rfl) rfl ?_
      refine DG.look rfl rfl (Yield.extract rfl rfl) rfl ?_
      refine DG.look rfl rfl (Yield.assign rfl) rfl ?_
      refine DG.look rfl rfl (Yield.assign rfl) rfl ?_
      refine DG.look rfl rfl (Yield.assign rfl) rfl ?_
      refine DG.done ?_
      refine QG.then ?_
      refine CG.seq ?_
      refine CG.region ?_
      refine OG.mv rfl rfl ?_
      refine OG.nil ?_
      refine QG.then ?_
      refine CG.cond_f rfl ?_
      refine CG.skip ?_
      refine QG.then ?_
      refine CG.seq ?_
      refine CG.draw (.look 0 1 (.look 1 1 (.look 2 1 (.look 3 1 (.look 4 1 (.look 5 1 (.look 6 1 (.look 7 1 (.look 8 1 (.eff1 9 false (.look 10 1 (.look 11 1 (.look 12 1 (.look 13 1 (.look 14 1 (.look 15 1 (.look 16 1 (.done)))))))))))))))))) [9] [] ([]) ([]) mixed (by kernel_rfl) (Imp.none _) (Imp.none _) ?_
      refine DG.look rfl rfl (Yield.move rfl) rfl ?_
      refine DG.look rfl rfl (Yield.nilCheck rfl) rfl ?_
      refine DG.look rfl rfl (Yield.fieldAddr fa88_2 rfl) rfl ?_
      refine DG.look rfl rfl (Yield.loadA ti40 rfl) rfl ?_
      refine DG.look rfl rfl (Yield.move rfl) rfl ?_
      refine DG.look rfl rfl (Yield.nilCheck rfl) rfl ?_
      refine DG.look rfl rfl (Yield.fieldAddr fa88_1 rfl) rfl ?_
      refine DG.look rfl rfl (Yield.loadA ti3 rfl) rfl ?_
      refine DG.look rfl rfl (Yield.move rfl) rfl ?_
      refine DG.eff1 ?_
      refine Chg.callo rfl rfl call50 rfl (iM) (walk_ab W0 _ (m := m) (n := n) (σ := σ) G.rep hk (q : Int)) rfl (fun _ => iM) (fun _ => Imp.refl _) (fun _ => iM) ?_
      rintro ⟨⟩ -
      rw [wV_none hq4 hx]
      refine DG.look rfl rfl (Yield.move rfl) rfl ?_
      refine DG.look rfl rfl (Yield.extract rfl rfl) rfl ?_
      refine DG.look rfl rfl (Yield.extract rfl rfl) rfl ?_
      refine DG.look rfl rfl (Yield.extract rfl rfl) rfl ?_
      refine DG.look rfl rfl (Yield.assign rfl) rfl ?_
      refine DG.look rfl rfl (Yield.assign rfl) rfl ?_
      refine DG.look rfl rfl (Yield.assign rfl) rfl ?_
      refine DG.done ?_
      refine QG.then ?_
      refine CG.seq ?_
      refine CG.seq ?_
      refine CG.region ?_
      refine OG.mv rfl rfl ?_
      refine OG.yield Yield.neqA rfl ?_
      refine OG.nil ?_
      refine QG.then ?_
      refine CG.cond_t rfl ?_
      refine CG.seq ?_
      refine CG.region ?_
      refine OG.sg rfl rfl ?_
      refine OG.sg rfl rfl ?_
      refine OG.sg rfl rfl ?_
      refine OG.nil ?_
      refine QG.then ?_
      refine CG.ret ?_
      refine QG.pass_ret ?_
      exact QG.rets [.int .i64 0, .int .i64 0, .bool false] rfl ⟨rfl, rfl, rfl, trivial⟩ { σ with hits := σ.hits, miss := σ.miss + 1 } ⟨G.count _ _, rfl, rfl, by simp only; omega⟩ rfl iM
    · rw [wV_out hp, hv]
      refine Ctr.of_body Tryz.func86 rfl Tryz.ntmps86 rfl ?_
      refine CG.seq ?_
      refine CG.region ?_
      refine OG.sg rfl rfl ?_
      refine OG.sg rfl rfl ?_
      refine OG.sg rfl rfl ?_
      refine OG.nil ?_
      refine QG.then ?_
      refine CG.seq ?_
      refine CG.seq ?_
      refine CG.draw (.look 0 1 (.look 1 1 (.look 2 1 (.look 3 1 (.look 4 1 (.look 5 1 (.look 6 1 (.look 7 1 (.look 8 1 (.eff1 9 false (.look 10 1 (.look 11 1 (.look 12 1 (.look 13 1 (.look 14 1 (.look 15 1 (.look 16 1 (.done)))))))))))))))))) [9] [] ([]) ([]) mixed (by kernel_rfl) (Imp.none _) (Imp.none _) ?_
      refine DG.look rfl rfl (Yield.move rfl) rfl ?_
      refine DG.look rfl rfl (Yield.nilCheck rfl) rfl ?_
      refine DG.look rfl rfl (Yield.fieldAddr fa88_4 rfl) rfl ?_
      refine DG.look rfl rfl (Yield.loadA ti42 rfl) rfl ?_
      refine DG.look rfl rfl (Yield.move rfl) rfl ?_
      refine DG.look rfl rfl (Yield.nilCheck rfl) rfl ?_
      refine DG.look rfl rfl (Yield.fieldAddr fa88_0 rfl) rfl ?_
      refine DG.look rfl rfl (Yield.loadA ti3 rfl) rfl ?_
      refine DG.look rfl rfl (Yield.move rfl) rfl ?_
      refine DG.eff1 ?_
      refine Chg.callo rfl rfl call103 rfl (iM) (Tl.look_miss W0 _ (t := t) (hand := σ.hand) (hits := σ.hits) (miss := σ.miss) (l := σ.l) (k : Int) p G.tlb.ll (by omega) hf) rfl (fun _ => iM) (fun _ => Imp.refl _) (fun _ => iM) ?_
      rintro ⟨⟩ -
      refine DG.look rfl rfl (Yield.move rfl) rfl ?_
      refine DG.look rfl rfl (Yield.extract rfl rfl) rfl ?_
      refine DG.look rfl rfl (Yield.extract rfl rfl) rfl ?_
      refine DG.look rfl rfl (Yield.extract rfl rfl) rfl ?_
      refine DG.look rfl rfl (Yield.assign rfl) rfl ?_
      refine DG.look rfl rfl (Yield.assign rfl) rfl ?_
      refine DG.look rfl rfl (Yield.assign rfl) rfl ?_
      refine DG.done ?_
      refine QG.then ?_
      refine CG.seq ?_
      refine CG.region ?_
      refine OG.mv rfl rfl ?_
      refine OG.nil ?_
      refine QG.then ?_
      refine CG.cond_f rfl ?_
      refine CG.skip ?_
      refine QG.then ?_
      refine CG.seq ?_
      refine CG.draw (.look 0 1 (.look 1 1 (.look 2 1 (.look 3 1 (.look 4 1 (.look 5 1 (.look 6 1 (.look 7 1 (.look 8 1 (.eff1 9 false (.look 10 1 (.look 11 1 (.look 12 1 (.look 13 1 (.look 14 1 (.look 15 1 (.look 16 1 (.done)))))))))))))))))) [9] [] ([]) ([]) mixed (by kernel_rfl) (Imp.none _) (Imp.none _) ?_
      refine DG.look rfl rfl (Yield.move rfl) rfl ?_
      refine DG.look rfl rfl (Yield.nilCheck rfl) rfl ?_
      refine DG.look rfl rfl (Yield.fieldAddr fa88_2 rfl) rfl ?_
      refine DG.look rfl rfl (Yield.loadA ti40 rfl) rfl ?_
      refine DG.look rfl rfl (Yield.move rfl) rfl ?_
      refine DG.look rfl rfl (Yield.nilCheck rfl) rfl ?_
      refine DG.look rfl rfl (Yield.fieldAddr fa88_1 rfl) rfl ?_
      refine DG.look rfl rfl (Yield.loadA ti3 rfl) rfl ?_
      refine DG.look rfl rfl (Yield.move rfl) rfl ?_
      refine DG.eff1 ?_
      refine Chg.callo rfl rfl call50 rfl (iM) (walk_ab W0 _ (m := m) (n := n) (σ := σ) G.rep hk p) rfl (fun _ => iM) (fun _ => Imp.refl _) (fun _ => iM) ?_
      rintro ⟨⟩ -
      rw [wV_out hp]
      refine DG.look rfl rfl (Yield.move rfl) rfl ?_
      refine DG.look rfl rfl (Yield.extract rfl rfl) rfl ?_
      refine DG.look rfl rfl (Yield.extract rfl rfl) rfl ?_
      refine DG.look rfl rfl (Yield.extract rfl rfl) rfl ?_
      refine DG.look rfl rfl (Yield.assign rfl) rfl ?_
      refine DG.look rfl rfl (Yield.assign rfl) rfl ?_
      refine DG.look rfl rfl (Yield.assign rfl) rfl ?_
      refine DG.done ?_
      refine QG.then ?_
      refine CG.seq ?_
      refine CG.seq ?_
      refine CG.region ?_
      refine OG.mv rfl rfl ?_
      refine OG.yield Yield.neqA rfl ?_
      refine OG.nil ?_
      refine QG.then ?_
      refine CG.cond_t rfl ?_
      refine CG.seq ?_
      refine CG.region ?_
      refine OG.sg rfl rfl ?_
      refine OG.sg rfl rfl ?_
      refine OG.sg rfl rfl ?_
      refine OG.nil ?_
      refine QG.then ?_
      refine CG.ret ?_
      refine QG.pass_ret ?_
      exact QG.rets [.int .i64 0, .int .i64 0, .bool false] rfl ⟨rfl, rfl, rfl, trivial⟩ { σ with hits := σ.hits, miss := σ.miss + 1 } ⟨G.count _ _, rfl, rfl, by simp only; omega⟩ rfl iM
end
end Go.Proofs.YtmlfcfbblfcpdaaGreat.Sp
/- space.Space: place, Read, Write, New. -/
namespace Go.Proofs.YtmlfcfbblfcpdaaGreat.Sp
open Go Go.Sl Go.RowKit Go.Proofs Go.Proofs.YtmlfcfbblfcpdaaGreat.T Go.Proofs.YtmlfcfbblfcpdaaGreat.Me Go.Proofs.YtmlfcfbblfcpdaaGreat.Pe Go.Proofs.YtmlfcfbblfcpdaaGreat.Pg
open Go.Proofs.YtmlfcfbblfcpdaaGreat.Fz (cnt cnt_set inv_take inv_give free_frame isP isF left left_in)
open Go.Proofs.YtmlfcfbblfcpdaaGreat.Tl (Slot hitB putL flushPL put_cases)
set_option maxRecDepth 100000
/-- May a page with these rights be reached so? -/
abbrev may (pm : Nat) (how : Int) : Prop := Go.bits .and .i64 (pm : Int) how = how
/-- Where an access goes, and what is wrong with it. -/
def placeR (A : Ab) (k ad : Nat) (sz how : Int) : Nat × Int :=
  if ¬(sz = 1 ∨ sz = 2 ∨ sz = 4 ∨ sz = 8) then (0, 5) else if (ad : Int) % sz ≠ 0 then (0, 30) else if 1048576 ≤ ad ∨ how = 0 then (0, 90) else match A.pg k (ad / 256) with
    | some x => if may x.2 how then (x.1 * 256 + ad % 256, 0) else (0, 90)
    | none => (0, 90)
/-- What Read tells. -/
def readO (o : Ob) (k ad : Nat) (sz how : Int) : Nat × Int :=
  if ¬(sz = 1 ∨ sz = 2 ∨ sz = 4 ∨ sz = 8) then (0, 5) else if (ad : Int) % sz ≠ 0 then (0, 30) else if 1048576 ≤ ad ∨ how = 0 then (0, 90) else match o.vw k (ad / 256) with
    | some x => if may x.1 how then (leN ((x.2.drop (ad % 256)).take sz.toNat), 0) else (0, 90)
    | none => (0, 90)
/-- What Write does. -/
def writeO (o : Ob) (k ad : Nat) (sz : Int) (v : Nat) : Int × Ob :=
  if ¬(sz = 1 ∨ sz = 2 ∨ sz = 4 ∨ sz = 8) then (5, o) else if (ad : Int) % sz ≠ 0 then (30, o) else if 1048576 ≤ ad then (90, o) else match o.vw k (ad / 256) with
    | some x => if may x.1 2 then (0, ⟨up2 o.vw k (ad / 256) (some (x.1, overB x.2 (ad % 256) (putB v sz.toNat))), o.ts, o.fr⟩) else (90, o)
    | none => (90, o)
theorem place_cases (A : Ab) (k ad : Nat) (sz how : Int) : (∃ (s : Nat) (x : Nat × Nat), sz = s ∧ (s = 1 ∨ s = 2 ∨ s = 4 ∨ s = 8) ∧ ad % s = 0 ∧ ad < 1048576 ∧ how ≠ 0 ∧ A.pg k (ad / 256) = some x ∧ may x.2 how ∧ placeR A k ad sz how = (x.1 * 256 + ad % 256, 0)) ∨ (placeR A k ad sz how).2 ≠ 0 := by
  unfold placeR
  by_cases h1 : sz = 1 ∨ sz = 2 ∨ sz = 4 ∨ sz = 8
  · rw [if_neg (fun q => q h1)]
    by_cases h2 : (ad : Int) % sz = 0
    · rw [if_neg (fun q => q h2)]
      by_cases h3 : 1048576 ≤ ad ∨ how = 0
      · rw [if_pos h3]; exact .inr (by decide)
      · rw [if_neg h3]
        cases hx : A.pg k (ad / 256) with
        | none => exact .inr (show (90 : Int) ≠ 0 by decide)
        | some x =>
          simp only
          by_cases h4 : may x.2 how
          · refine .inl ⟨sz.toNat, x, by omega, by omega, ?_, by omega, by omega, rfl, h4, by rw [if_pos h4]⟩
            rcases h1 with rfl | rfl | rfl | rfl
            · show ad % 1 = 0; omega
            · show ad % 2 = 0; omega
            · show ad % 4 = 0; omega
            · show ad % 8 = 0; omega
          · rw [if_neg h4]; exact .inr (by decide)
    · rw [if_pos h2]; exact .inr (by decide)
  · rw [if_pos h1]; exact .inr (by decide)
theorem F0sum {s ad : Nat} (hs : s = 1 ∨ s = 2 ∨ s = 4 ∨ s = 8) (hal : ad % s = 0) : ad % 256 + s ≤ 256 := by
  rcases hs with rfl | rfl | rfl | rfl <;> omega
theorem F0len {s ad x : Nat} (hs : s = 1 ∨ s = 2 ∨ s = 4 ∨ s = 8) (hal : ad % s = 0) : (x * 256 + ad % 256) % s = 0 ∧ x * 256 + ad % 256 + s ≤ x * 256 + 256 := by
  rcases hs with rfl | rfl | rfl | rfl <;> omega
theorem fr_part {bs : List UInt8} {q o s : Nat} (h : o + s ≤ 256) : ((frB bs q).drop o).take s = (bs.drop (q * 256 + o)).take s := by
  unfold frB
  rw [List.drop_take, List.drop_drop, List.take_take, show min s (256 - o) = s by omega]
section
variable (W0 : World) (Fr : List HProp)
variable {n : Nat} {qs : List Int} {rt : Nat → Option Nat} {o : Ob} {c : Nat} {σ : St} {k r s m f t : Nat}
theorem place_spec {A : Ab} (G : Good n qs A σ) (hk : A.rt k = some r) (hb : σ.hits + σ.miss < 1000000000000000000) {ad : Nat} (had : ad < 4294967296) (sz how : Int) : Ctr Tryz.prog W0 71 [.pointer (some ⟨s, 0, none⟩), .int .u32 ad, .int .i64 sz, .int .i64 how] (WG m f t n qs σ (sb s k r m f t :: Fr)) (fun σ' : St => Fnd n qs A σ σ') (fun _ => .tuple #[.int .u32 (placeR A k ad sz how).1, .int .i64 (placeR A k ad sz how).2]) (fun σ' => WG m f t n qs σ' (sb s k r m f t :: Fr)) := by
  have hn2 := G.n2
  have F0 : Fnd n qs A σ σ := ⟨G, rfl, rfl, by omega⟩
  refine Ctr.of_body Tryz.func71 rfl Tryz.ntmps71 rfl ?_
  refine CG.seq ?_
  refine CG.region ?_
  refine OG.sg rfl rfl ?_
  refine OG.sg rfl rfl ?_
  refine OG.nil ?_
  refine QG.then ?_
  refine CG.seq ?_
  refine CG.block ?_
  refine CG.seq ?_
  rcases (show ¬(sz = 1 ∨ sz = 2 ∨ sz = 4 ∨ sz = 8) ∨ sz = 1 ∨ sz = 2 ∨ sz = 4 ∨ sz = 8 by omega) with hh | hh | hh | hh | hh
  · skip
    refine CG.region ?_
    refine OG.mv rfl rfl ?_
    refine OG.yield Yield.neqA rfl ?_
    refine OG.mv rfl rfl ?_
    refine OG.gy rfl rfl rfl ?_
    refine OG.mv rfl rfl ?_
    refine OG.gy rfl rfl rfl ?_
    refine OG.yield Yield.neqA rfl ?_
    refine OG.yield Yield.pickA rfl ?_
    refine OG.mv rfl rfl ?_
    refine OG.gy rfl rfl rfl ?_
    refine OG.mv rfl rfl ?_
    refine OG.gy rfl rfl rfl ?_
    refine OG.yield Yield.neqA rfl ?_
    refine OG.yield Yield.pickA rfl ?_
    refine OG.mv rfl rfl ?_
    refine OG.gy rfl rfl rfl ?_
    refine OG.mv rfl rfl ?_
    refine OG.gy rfl rfl rfl ?_
    refine OG.yield Yield.neqA rfl ?_
    refine OG.yield Yield.pickA rfl ?_
    refine OG.sg rfl rfl ?_
    refine OG.nil ?_
    refine QG.then ?_
    refine CG.cond_t rfl ?_
    refine CG.seq ?_
    refine CG.region ?_
    refine OG.sg rfl rfl ?_
    refine OG.sg rfl rfl ?_
    refine OG.nil ?_
    refine QG.then ?_
    refine CG.ret ?_
    refine QG.block_ret ?_
    refine QG.pass_ret ?_
    have e : placeR A k ad sz how = (0, 5) := by unfold placeR; rw [if_pos hh]
    rw [e]
    exact QG.rets [.int .u32 0, .int .i64 5] rfl ⟨rfl, rfl, trivial⟩ σ F0 rfl iM
  · skip
    refine CG.region ?_
    refine OG.mv rfl rfl ?_
    refine OG.yield Yield.neqA rfl ?_
    refine OG.mv rfl rfl ?_
    refine OG.gn rfl rfl rfl rfl rfl ?_
    refine OG.gn rfl rfl rfl rfl rfl ?_
    refine OG.yield Yield.pickA rfl ?_
    refine OG.mv rfl rfl ?_
    refine OG.gn rfl rfl rfl rfl rfl ?_
    refine OG.gn rfl rfl rfl rfl rfl ?_
    refine OG.yield Yield.pickA rfl ?_
    refine OG.mv rfl rfl ?_
    refine OG.gn rfl rfl rfl rfl rfl ?_
    refine OG.gn rfl rfl rfl rfl rfl ?_
    refine OG.yield Yield.pickA rfl ?_
    refine OG.sg rfl rfl ?_
    refine OG.nil ?_
    refine QG.then ?_
    refine CG.cond_f rfl ?_
    refine CG.seq ?_
    by_cases hal : (ad : Int) % sz = 0
    · skip
      refine CG.region ?_
      refine OG.mv rfl rfl ?_
      refine OG.mv rfl rfl ?_
      refine OG.yield (Yield.conv (c := sz) Tryz.underlying30 rfl rfl (wu32 (by omega) (by omega))) rfl ?_
      refine OG.yield (Yield.rem (c := (ad : Int) % sz) rfl rfl (by omega) (tmod_pos (by omega) (by omega))) rfl ?_
      refine OG.yield (Yield.as (Yield.neq rfl rfl) (v' := .bool false) (by rw [hal]; rfl)) rfl ?_
      refine OG.sg rfl rfl ?_
      refine OG.nil ?_
      refine QG.then ?_
      refine CG.cond_f rfl ?_
      refine CG.seq ?_
      rcases (show 1048576 ≤ ad ∨ (ad < 1048576 ∧ how = 0) ∨ (ad < 1048576 ∧ how ≠ 0) by omega) with hr | hr | hr
      · skip
        refine CG.region ?_
        refine OG.mv rfl rfl ?_
        refine OG.yield Yield.geqA rfl ?_
        refine OG.mv rfl rfl ?_
        refine OG.gn rfl rfl rfl rfl rfl ?_
        refine OG.gn rfl rfl rfl rfl rfl ?_
        refine OG.yield Yield.pickA rfl ?_
        refine OG.sg rfl rfl ?_
        refine OG.nil ?_
        refine QG.then ?_
        refine CG.cond_t rfl ?_
        refine CG.seq ?_
        refine CG.region ?_
        refine OG.sg rfl rfl ?_
        refine OG.sg rfl rfl ?_
        refine OG.nil ?_
        refine QG.then ?_
        refine CG.ret ?_
        refine QG.block_ret ?_
        refine QG.pass_ret ?_
        have e : placeR A k ad sz how = (0, 90) := by unfold placeR; rw [if_neg (fun q => q (by omega)), if_neg (fun q => q hal), if_pos (by omega)]
        rw [e]
        exact QG.rets [.int .u32 0, .int .i64 90] rfl ⟨rfl, rfl, trivial⟩ σ F0 rfl iM
      · skip
        refine CG.region ?_
        refine OG.mv rfl rfl ?_
        refine OG.yield Yield.geqA rfl ?_
        refine OG.mv rfl rfl ?_
        refine OG.gy rfl rfl rfl ?_
        refine OG.mv rfl rfl ?_
        refine OG.gy rfl rfl rfl ?_
        refine OG.yield Yield.eqlA rfl ?_
        refine OG.yield Yield.pickA rfl ?_
        refine OG.sg rfl rfl ?_
        refine OG.nil ?_
        refine QG.then ?_
        refine CG.cond_t rfl ?_
        refine CG.seq ?_
        refine CG.region ?_
        refine OG.sg rfl rfl ?_
        refine OG.sg rfl rfl ?_
        refine OG.nil ?_
        refine QG.then ?_
        refine CG.ret ?_
        refine QG.block_ret ?_
        refine QG.pass_ret ?_
        have e : placeR A k ad sz how = (0, 90) := by unfold placeR; rw [if_neg (fun q => q (by omega)), if_neg (fun q => q hal), if_pos (by omega)]
        rw [e]
        exact QG.rets [.int .u32 0, .int .i64 90] rfl ⟨rfl, rfl, trivial⟩ σ F0 rfl iM
      · skip
        refine CG.region ?_
        refine OG.mv rfl rfl ?_
        refine OG.yield Yield.geqA rfl ?_
        refine OG.mv rfl rfl ?_
        refine OG.gy rfl rfl rfl ?_
        refine OG.mv rfl rfl ?_
        refine OG.gy rfl rfl rfl ?_
        refine OG.yield Yield.eqlA rfl ?_
        refine OG.yield Yield.pickA rfl ?_
        refine OG.sg rfl rfl ?_
        refine OG.nil ?_
        refine QG.then ?_
        refine CG.cond_f rfl ?_
        refine CG.skip ?_
        refine QG.block_normal ?_
        refine QG.then ?_
        refine CG.seq ?_
        refine CG.region ?_
        refine OG.mv rfl rfl ?_
        refine OG.mv rfl rfl ?_
        refine OG.yield (Yield.quo (c := ((ad / 256 : Nat) : Int)) rfl rfl (by decide) (quo_nat32 (b := 256) (by decide) (by omega))) rfl ?_
        refine OG.yield (by first | exact Yield.conv Tryz.underlying3 rfl rfl (w64 (by omega) (by omega)) | exact Yield.conv Tryz.underlying3 rfl rfl rfl) rfl ?_
        refine OG.callo call86 rfl (iM) (find_spec W0 _ (s := s) (m := m) (f := f) (t := t) G hk hb ((ad / 256 : Nat) : Int)) rfl ?_
        rintro σ' hF
        rw [vp_in (show ad / 256 < 4096 by omega)]
        refine OG.mv rfl rfl ?_
        refine OG.yield (Yield.extract rfl rfl) rfl ?_
        refine OG.yield (Yield.extract rfl rfl) rfl ?_
        refine OG.yield (Yield.extract rfl rfl) rfl ?_
        refine OG.sg rfl rfl ?_
        refine OG.sg rfl rfl ?_
        refine OG.sg rfl rfl ?_
        refine OG.nil ?_
        refine QG.then ?_
        refine CG.seq ?_
        refine CG.seq ?_
        rcases (show (A.pg k (ad / 256) = none) ∨ (∃ x, A.pg k (ad / 256) = some x ∧ may x.2 how) ∨ (∃ x, A.pg k (ad / 256) = some x ∧ ¬ may x.2 how) by cases A.pg k (ad / 256) with | none => exact .inl rfl | some x => exact .inr ((Decidable.em (may x.2 how)).elim (fun h => .inl ⟨x, rfl, h⟩) (fun h => .inr ⟨x, rfl, h⟩))) with hx | ⟨x, hx, hm⟩ | ⟨x, hx, hm⟩
        · skip
          rw [wV_none (by omega) hx, hx]
          refine CG.region ?_
          refine OG.mv rfl rfl ?_
          refine OG.yield (Yield.not rfl) rfl ?_
          refine OG.mv rfl rfl ?_
          refine OG.gn rfl rfl rfl rfl rfl ?_
          refine OG.gn rfl rfl rfl rfl rfl ?_
          refine OG.gn rfl rfl rfl rfl rfl ?_
          refine OG.gn rfl rfl rfl rfl rfl ?_
          refine OG.gn rfl rfl rfl rfl rfl ?_
          refine OG.yield Yield.pickA rfl ?_
          refine OG.nil ?_
          refine QG.then ?_
          refine CG.cond_t rfl ?_
          refine CG.seq ?_
          refine CG.region ?_
          refine OG.sg rfl rfl ?_
          refine OG.sg rfl rfl ?_
          refine OG.nil ?_
          refine QG.then ?_
          refine CG.ret ?_
          refine QG.pass_ret ?_
          have e : placeR A k ad sz how = (0, 90) := by unfold placeR; rw [if_neg (fun q => q (by omega)), if_neg (fun q => q hal), if_neg (by omega), hx]
          rw [e]
          exact QG.rets [.int .u32 0, .int .i64 90] rfl ⟨rfl, rfl, trivial⟩ σ' hF rfl iM
        · skip
          rw [wV_some (by omega) hx, hx]
          refine CG.region ?_
          refine OG.mv rfl rfl ?_
          refine OG.yield (Yield.not rfl) rfl ?_
          refine OG.mv rfl rfl ?_
          refine OG.gy rfl rfl rfl ?_
          refine OG.mv rfl rfl ?_
          refine OG.gy rfl rfl rfl ?_
          refine OG.mv rfl rfl ?_
          refine OG.gy rfl rfl rfl ?_
          refine OG.yield (Yield.bitop rfl rfl rfl rfl) rfl ?_
          refine OG.gy rfl rfl rfl ?_
          refine OG.mv rfl rfl ?_
          refine OG.gy rfl rfl rfl ?_
          refine OG.yield (Yield.as (Yield.neq rfl rfl) (v' := .bool false) (by simp [hm])) rfl ?_
          refine OG.yield Yield.pickA rfl ?_
          refine OG.nil ?_
          refine QG.then ?_
          refine CG.cond_f rfl ?_
          refine CG.skip ?_
          refine QG.then ?_
          refine CG.seq ?_
          have hxn := G.plt hx
          refine CG.region ?_
          refine OG.mv rfl rfl ?_
          refine OG.yield (Yield.conv (c := (x.1 : Int)) Tryz.underlying30 rfl rfl (wu32 (by omega) (by omega))) rfl ?_
          refine OG.yield (Yield.mul (c := ((x.1 * 256 : Nat) : Int)) rfl rfl (by rw [wu32 (by omega) (by omega)]; omega)) rfl ?_
          refine OG.mv rfl rfl ?_
          refine OG.yield (Yield.rem (c := ((ad % 256 : Nat) : Int)) rfl rfl (by decide) (tmod_nat ad 256 (by decide))) rfl ?_
          refine OG.yield (Yield.add (c := ((x.1 * 256 + ad % 256 : Nat) : Int)) rfl rfl (by rw [wu32 (by omega) (by omega)]; omega)) rfl ?_
          refine OG.sg rfl rfl ?_
          refine OG.sg rfl rfl ?_
          refine OG.nil ?_
          refine QG.then ?_
          refine CG.ret ?_
          have e : placeR A k ad sz how = (x.1 * 256 + ad % 256, 0) := by unfold placeR; rw [if_neg (fun q => q (by omega)), if_neg (fun q => q hal), if_neg (by omega), hx]; simp only; rw [if_pos hm]
          rw [e]
          exact QG.rets [.int .u32 ((x.1 * 256 + ad % 256 : Nat) : Int), .int .i64 0] rfl ⟨rfl, rfl, trivial⟩ σ' hF rfl iM
        · skip
          rw [wV_some (by omega) hx, hx]
          refine CG.region ?_
          refine OG.mv rfl rfl ?_
          refine OG.yield (Yield.not rfl) rfl ?_
          refine OG.mv rfl rfl ?_
          refine OG.gy rfl rfl rfl ?_
          refine OG.mv rfl rfl ?_
          refine OG.gy rfl rfl rfl ?_
          refine OG.mv rfl rfl ?_
          refine OG.gy rfl rfl rfl ?_
          refine OG.yield (Yield.bitop rfl rfl rfl rfl) rfl ?_
          refine OG.gy rfl rfl rfl ?_
          refine OG.mv rfl rfl ?_
          refine OG.gy rfl rfl rfl ?_
          refine OG.yield (Yield.as (Yield.neq rfl rfl) (v' := .bool true) (by simp [hm])) rfl ?_
          refine OG.yield Yield.pickA rfl ?_
          refine OG.nil ?_
          refine QG.then ?_
          refine CG.cond_t rfl ?_
          refine CG.seq ?_
          refine CG.region ?_
          refine OG.sg rfl rfl ?_
          refine OG.sg rfl rfl ?_
          refine OG.nil ?_
          refine QG.then ?_
          refine CG.ret ?_
          refine QG.pass_ret ?_
          have e : placeR A k ad sz how = (0, 90) := by unfold placeR; rw [if_neg (fun q => q (by omega)), if_neg (fun q => q hal), if_neg (by omega), hx]; simp only; rw [if_neg hm]
          rw [e]
          exact QG.rets [.int .u32 0, .int .i64 90] rfl ⟨rfl, rfl, trivial⟩ σ' hF rfl iM
    · skip
      refine CG.region ?_
      refine OG.mv rfl rfl ?_
      refine OG.mv rfl rfl ?_
      refine OG.yield (Yield.conv (c := sz) Tryz.underlying30 rfl rfl (wu32 (by omega) (by omega))) rfl ?_
      refine OG.yield (Yield.rem (c := (ad : Int) % sz) rfl rfl (by omega) (tmod_pos (by omega) (by omega))) rfl ?_
      refine OG.yield (Yield.as (Yield.neq rfl rfl) (v' := .bool true) (by simp [hal])) rfl ?_
      refine OG.sg rfl rfl ?_
      refine OG.nil ?_
      refine QG.then ?_
      refine CG.cond_t rfl ?_
      refine CG.seq ?_
      refine CG.region ?_
      refine OG.sg rfl rfl ?_
      refine OG.sg rfl rfl ?_
      refine OG.nil ?_
      refine QG.then ?_
      refine CG.ret ?_
      refine QG.block_ret ?_
      refine QG.pass_ret ?_
      have e : placeR A k ad sz how = (0, 30) := by unfold placeR; rw [if_neg (fun q => q (by omega)), if_pos hal]
      rw [e]
      exact QG.rets [.int .u32 0, .int .i64 30] rfl ⟨rfl, rfl, trivial⟩ σ F0 rfl iM
  · skip
    refine CG.region ?_
    refine OG.mv rfl rfl ?_
    refine OG.yield Yield.neqA rfl ?_
    refine OG.mv rfl rfl ?_
    refine OG.gy rfl rfl rfl ?_
    refine OG.mv rfl rfl ?_
    refine OG.gy rfl rfl rfl ?_
    refine OG.yield Yield.neqA rfl ?_
    refine OG.yield Yield.pickA rfl ?_
    refine OG.mv rfl rfl ?_
    refine OG.gn rfl rfl rfl rfl rfl ?_
    refine OG.gn rfl rfl rfl rfl rfl ?_
    refine OG.yield Yield.pickA rfl ?_
    refine OG.mv rfl rfl ?_
    refine OG.gn rfl rfl rfl rfl rfl ?_
    refine OG.gn rfl rfl rfl rfl rfl ?_
    refine OG.yield Yield.pickA rfl ?_
    refine OG.sg rfl rfl ?_
    refine OG.nil ?_
    refine QG.then ?_
    refine CG.cond_f rfl ?_
    refine CG.seq ?_
    by_cases hal : (ad : Int) % sz = 0
    · skip
      refine CG.region ?_
      refine OG.mv rfl rfl ?_
      refine OG.mv rfl rfl ?_
      refine OG.yield (Yield.conv (c := sz) Tryz.underlying30 rfl rfl (wu32 (by omega) (by omega))) rfl ?_
      refine OG.yield (Yield.rem (c := (ad : Int) % sz) rfl rfl (by omega) (tmod_pos (by omega) (by omega))) rfl ?_
      refine OG.yield (Yield.as (Yield.neq rfl rfl) (v' := .bool false) (by rw [hal]; rfl)) rfl ?_
      refine OG.sg rfl rfl ?_
      refine OG.nil ?_
      refine QG.then ?_
      refine CG.cond_f rfl ?_
      refine CG.seq ?_
      rcases (show 1048576 ≤ ad ∨ (ad < 1048576 ∧ how = 0) ∨ (ad < 1048576 ∧ how ≠ 0) by omega) with hr | hr | hr
      · skip
        refine CG.region ?_
        refine OG.mv rfl rfl ?_
        refine OG.yield Yield.geqA rfl ?_
        refine OG.mv rfl rfl ?_
        refine OG.gn rfl rfl rfl rfl rfl ?_
        refine OG.gn rfl rfl rfl rfl rfl ?_
        refine OG.yield Yield.pickA rfl ?_
        refine OG.sg rfl rfl ?_
        refine OG.nil ?_
        refine QG.then ?_
        refine CG.cond_t rfl ?_
        refine CG.seq ?_
        refine CG.region ?_
        refine OG.sg rfl rfl ?_
        refine OG.sg rfl rfl ?_
        refine OG.nil ?_
        refine QG.then ?_
        refine CG.ret ?_
        refine QG.block_ret ?_
        refine QG.pass_ret ?_
        have e : placeR A k ad sz how = (0, 90) := by unfold placeR; rw [if_neg (fun q => q (by omega)), if_neg (fun q => q hal), if_pos (by omega)]
        rw [e]
        exact QG.rets [.int .u32 0, .int .i64 90] rfl ⟨rfl, rfl, trivial⟩ σ F0 rfl iM
      · skip
        refine CG.region ?_
        refine OG.mv rfl rfl ?_
        refine OG.yield Yield.geqA rfl ?_
        refine OG.mv rfl rfl ?_
        refine OG.gy rfl rfl rfl ?_
        refine OG.mv rfl rfl ?_
        refine OG.gy rfl rfl rfl ?_
        refine OG.yield Yield.eqlA rfl ?_
        refine OG.yield Yield.pickA rfl ?_
        refine OG.sg rfl rfl ?_
        refine OG.nil ?_
        refine QG.then ?_
        refine CG.cond_t rfl ?_
        refine CG.seq ?_
        refine CG.region ?_
        refine OG.sg rfl rfl ?_
        refine OG.sg rfl rfl ?_
        refine OG.nil ?_
        refine QG.then ?_
        refine CG.ret ?_
        refine QG.block_ret ?_
        refine QG.pass_ret ?_
        have e : placeR A k ad sz how = (0, 90) := by unfold placeR; rw [if_neg (fun q => q (by omega)), if_neg (fun q => q hal), if_pos (by omega)]
        rw [e]
        exact QG.rets [.int .u32 0, .int .i64 90] rfl ⟨rfl, rfl, trivial⟩ σ F0 rfl iM
      · skip
        refine CG.region ?_
        refine OG.mv rfl rfl ?_
        refine OG.yield Yield.geqA rfl ?_
        refine OG.mv rfl rfl ?_
        refine OG.gy rfl rfl rfl ?_
        refine OG.mv rfl rfl ?_
        refine OG.gy rfl rfl rfl ?_
        refine OG.yield Yield.eqlA rfl ?_
        refine OG.yield Yield.pickA rfl ?_
        refine OG.sg rfl rfl ?_
        refine OG.nil ?_
        refine QG.then ?_
        refine CG.cond_f rfl ?_
        refine CG.skip ?_
        refine QG.block_normal ?_
        refine QG.then ?_
        refine CG.seq ?_
        refine CG.region ?_
        refine OG.mv rfl rfl ?_
        refine OG.mv rfl rfl ?_
        refine OG.yield (Yield.quo (c := ((ad / 256 : Nat) : Int)) rfl rfl (by decide) (quo_nat32 (b := 256) (by decide) (by omega))) rfl ?_
        refine OG.yield (by first | exact Yield.conv Tryz.underlying3 rfl rfl (w64 (by omega) (by omega)) | exact Yield.conv Tryz.underlying3 rfl rfl rfl) rfl ?_
        refine OG.callo call86 rfl (iM) (find_spec W0 _ (s := s) (m := m) (f := f) (t := t) G hk hb ((ad / 256 : Nat) : Int)) rfl ?_
        rintro σ' hF
        rw [vp_in (show ad / 256 < 4096 by omega)]
        refine OG.mv rfl rfl ?_
        refine OG.yield (Yield.extract rfl rfl) rfl ?_
        refine OG.yield (Yield.extract rfl rfl) rfl ?_
        refine OG.yield (Yield.extract rfl rfl) rfl ?_
        refine OG.sg rfl rfl ?_
        refine OG.sg rfl rfl ?_
        refine OG.sg rfl rfl ?_
        refine OG.nil ?_
        refine QG.then ?_
        refine CG.seq ?_
        refine CG.seq ?_
        rcases (show (A.pg k (ad / 256) = none) ∨ (∃ x, A.pg k (ad / 256) = some x ∧ may x.2 how) ∨ (∃ x, A.pg k (ad / 256) = some x ∧ ¬ may x.2 how) by cases A.pg k (ad / 256) with | none => exact .inl rfl | some x => exact .inr ((Decidable.em (may x.2 how)).elim (fun h => .inl ⟨x, rfl, h⟩) (fun h => .inr ⟨x, rfl, h⟩))) with hx | ⟨x, hx, hm⟩ | ⟨x, hx, hm⟩
        · skip
          rw [wV_none (by omega) hx, hx]
          refine CG.region ?_
          refine OG.mv rfl rfl ?_
          refine OG.yield (Yield.not rfl) rfl ?_
          refine OG.mv rfl rfl ?_
          refine OG.gn rfl rfl rfl rfl rfl ?_
          refine OG.gn rfl rfl rfl rfl rfl ?_
          refine OG.gn rfl rfl rfl rfl rfl ?_
          refine OG.gn rfl rfl rfl rfl rfl ?_
          refine OG.gn rfl rfl rfl rfl rfl ?_
          refine OG.yield Yield.pickA rfl ?_
          refine OG.nil ?_
          refine QG.then ?_
          refine CG.cond_t rfl ?_
          refine CG.seq ?_
          refine CG.region ?_
          refine OG.sg rfl rfl ?_
          refine OG.sg rfl rfl ?_
          refine OG.nil ?_
          refine QG.then ?_
          refine CG.ret ?_
          refine QG.pass_ret ?_
          have e : placeR A k ad sz how = (0, 90) := by unfold placeR; rw [if_neg (fun q => q (by omega)), if_neg (fun q => q hal), if_neg (by omega), hx]
          rw [e]
          exact QG.rets [.int .u32 0, .int .i64 90] rfl ⟨rfl, rfl, trivial⟩ σ' hF rfl iM
        · skip
          rw [wV_some (by omega) hx, hx]
          refine CG.region ?_
          refine OG.mv rfl rfl ?_
          refine OG.yield (Yield.not rfl) rfl ?_
          refine OG.mv rfl rfl ?_
          refine OG.gy rfl rfl rfl ?_
          refine OG.mv rfl rfl ?_
          refine OG.gy rfl rfl rfl ?_
          refine OG.mv rfl rfl ?_
          refine OG.gy rfl rfl rfl ?_
          refine OG.yield (Yield.bitop rfl rfl rfl rfl) rfl ?_
          refine OG.gy rfl rfl rfl ?_
          refine OG.mv rfl rfl ?_
          refine OG.gy rfl rfl rfl ?_
          refine OG.yield (Yield.as (Yield.neq rfl rfl) (v' := .bool false) (by simp [hm])) rfl ?_
          refine OG.yield Yield.pickA rfl ?_
          refine OG.nil ?_
          refine QG.then ?_
          refine CG.cond_f rfl ?_
          refine CG.skip ?_
          refine QG.then ?_
          refine CG.seq ?_
          have hxn := G.plt hx
          refine CG.region ?_
          refine OG.mv rfl rfl ?_
          refine OG.yield (Yield.conv (c := (x.1 : Int)) Tryz.underlying30 rfl rfl (wu32 (by omega) (by omega))) rfl ?_
          refine OG.yield (Yield.mul (c := ((x.1 * 256 : Nat) : Int)) rfl rfl (by rw [wu32 (by omega) (by omega)]; omega)) rfl ?_
          refine OG.mv rfl rfl ?_
          refine OG.yield (Yield.rem (c := ((ad % 256 : Nat) : Int)) rfl rfl (by decide) (tmod_nat ad 256 (by decide))) rfl ?_
          refine OG.yield (Yield.add (c := ((x.1 * 256 + ad % 256 : Nat) : Int)) rfl rfl (by rw [wu32 (by omega) (by omega)]; omega)) rfl ?_
          refine OG.sg rfl rfl ?_
          refine OG.sg rfl rfl ?_
          refine OG.nil ?_
          refine QG.then ?_
          refine CG.ret ?_
          have e : placeR A k ad sz how = (x.1 * 256 + ad % 256, 0) := by unfold placeR; rw [if_neg (fun q => q (by omega)), if_neg (fun q => q hal), if_neg (by omega), hx]; simp only; rw [if_pos hm]
          rw [e]
          exact QG.rets [.int .u32 ((x.1 * 256 + ad % 256 : Nat) : Int), .int .i64 0] rfl ⟨rfl, rfl, trivial⟩ σ' hF rfl iM
        · skip
          rw [wV_some (by omega) hx, hx]
          refine CG.region ?_
          refine OG.mv rfl rfl ?_
          refine OG.yield (Yield.not rfl) rfl ?_
          refine OG.mv rfl rfl ?_
          refine OG.gy rfl rfl rfl ?_
          refine OG.mv rfl rfl ?_
          refine OG.gy rfl rfl rfl ?_
          refine OG.mv rfl rfl ?_
          refine OG.gy rfl rfl rfl ?_
          refine OG.yield (Yield.bitop rfl rfl rfl rfl) rfl ?_
          refine OG.gy rfl rfl rfl ?_
          refine OG.mv rfl rfl ?_
          refine OG.gy rfl rfl rfl ?_
          refine OG.yield (Yield.as (Yield.neq rfl rfl) (v' := .bool true) (by simp [hm])) rfl ?_
          refine OG.yield Yield.pickA rfl ?_
          refine OG.nil ?_
          refine QG.then ?_
          refine CG.cond_t rfl ?_
          refine CG.seq ?_
          refine CG.region ?_
          refine OG.sg rfl rfl ?_
          refine OG.sg rfl rfl ?_
          refine OG.nil ?_
          refine QG.then ?_
          refine CG.ret ?_
          refine QG.pass_ret ?_
          have e : placeR A k ad sz how = (0, 90) := by unfold placeR; rw [if_neg (fun q => q (by omega)), if_neg (fun q => q hal), if_neg (by omega), hx]; simp only; rw [if_neg hm]
          rw [e]
          exact QG.rets [.int .u32 0, .int .i64 90] rfl ⟨rfl, rfl, trivial⟩ σ' hF rfl iM
    · skip
      refine CG.region ?_
      refine OG.mv rfl rfl ?_
      refine OG.mv rfl rfl ?_
      refine OG.yield (Yield.conv (c := sz) Tryz.underlying30 rfl rfl (wu32 (by omega) (by omega))) rfl ?_
      refine OG.yield (Yield.rem (c := (ad : Int) % sz) rfl rfl (by omega) (tmod_pos (by omega) (by omega))) rfl ?_
      refine OG.yield (Yield.as (Yield.neq rfl rfl) (v' := .bool true) (by simp [hal])) rfl ?_
      refine OG.sg rfl rfl ?_
      refine OG.nil ?_
      refine QG.then ?_
      refine CG.cond_t rfl ?_
      refine CG.seq ?_
      refine CG.region ?_
      refine OG.sg rfl rfl ?_
      refine OG.sg rfl rfl ?_
      refine OG.nil ?_
      refine QG.then ?_
      refine CG.ret ?_
      refine QG.block_ret ?_
      refine QG.pass_ret ?_
      have e : placeR A k ad sz how = (0, 30) := by unfold placeR; rw [if_neg (fun q => q (by omega)), if_pos hal]
      rw [e]
      exact QG.rets [.int .u32 0, .int .i64 30] rfl ⟨rfl, rfl, trivial⟩ σ F0 rfl iM
  · skip
    refine CG.region ?_
    refine OG.mv rfl rfl ?_
    refine OG.yield Yield.neqA rfl ?_
    refine OG.mv rfl rfl ?_
    refine OG.gy rfl rfl rfl ?_
    refine OG.mv rfl rfl ?_
    refine OG.gy rfl rfl rfl ?_
    refine OG.yield Yield.neqA rfl ?_
    refine OG.yield Yield.pickA rfl ?_
    refine OG.mv rfl rfl ?_
    refine OG.gy rfl rfl rfl ?_
    refine OG.mv rfl rfl ?_
    refine OG.gy rfl rfl rfl ?_
    refine OG.yield Yield.neqA rfl ?_
    refine OG.yield Yield.pickA rfl ?_
    refine OG.mv rfl rfl ?_
    refine OG.gn rfl rfl rfl rfl rfl ?_
    refine OG.gn rfl rfl rfl rfl rfl ?_
    refine OG.yield Yield.pickA rfl ?_
    refine OG.sg rfl rfl ?_
    refine OG.nil ?_
    refine QG.then ?_
    refine CG.cond_f rfl ?_
    refine CG.seq ?_
    by_cases hal : (ad : Int) % sz = 0
    · skip
      refine CG.region ?_
      refine OG.mv rfl rfl ?_
      refine OG.mv rfl rfl ?_
      refine OG.yield (Yield.conv (c := sz) Tryz.underlying30 rfl rfl (wu32 (by omega) (by omega))) rfl ?_
      refine OG.yield (Yield.rem (c := (ad : Int) % sz) rfl rfl (by omega) (tmod_pos (by omega) (by omega))) rfl ?_
      refine OG.yield (Yield.as (Yield.neq rfl rfl) (v' := .bool false) (by rw [hal]; rfl)) rfl ?_
      refine OG.sg rfl rfl ?_
      refine OG.nil ?_
      refine QG.then ?_
      refine CG.cond_f rfl ?_
      refine CG.seq ?_
      rcases (show 1048576 ≤ ad ∨ (ad < 1048576 ∧ how = 0) ∨ (ad < 1048576 ∧ how ≠ 0) by omega) with hr | hr | hr
      · skip
        refine CG.region ?_
        refine OG.mv rfl rfl ?_
        refine OG.yield Yield.geqA rfl ?_
        refine OG.mv rfl rfl ?_
        refine OG.gn rfl rfl rfl rfl rfl ?_
        refine OG.gn rfl rfl rfl rfl rfl ?_
        refine OG.yield Yield.pickA rfl ?_
        refine OG.sg rfl rfl ?_
        refine OG.nil ?_
        refine QG.then ?_
        refine CG.cond_t rfl ?_
        refine CG.seq ?_
        refine CG.region ?_
        refine OG.sg rfl rfl ?_
        refine OG.sg rfl rfl ?_
        refine OG.nil ?_
        refine QG.then ?_
        refine CG.ret ?_
        refine QG.block_ret ?_
        refine QG.pass_ret ?_
        have e : placeR A k ad sz how = (0, 90) := by unfold placeR; rw [if_neg (fun q => q (by omega)), if_neg (fun q => q hal), if_pos (by omega)]
        rw [e]
        exact QG.rets [.int .u32 0, .int .i64 90] rfl ⟨rfl, rfl, trivial⟩ σ F0 rfl iM
      · skip
        refine CG.region ?_
        refine OG.mv rfl rfl ?_
        refine OG.yield Yield.geqA rfl ?_
        refine OG.mv rfl rfl ?_
        refine OG.gy rfl rfl rfl ?_
        refine OG.mv rfl rfl ?_
        refine OG.gy rfl rfl rfl ?_
        refine OG.yield Yield.eqlA rfl ?_
        refine OG.yield Yield.pickA rfl ?_
        refine OG.sg rfl rfl ?_
        refine OG.nil ?_
        refine QG.then ?_
        refine CG.cond_t rfl ?_
        refine CG.seq ?_
        refine CG.region ?_
        refine OG.sg rfl rfl ?_
        refine OG.sg rfl rfl ?_
        refine OG.nil ?_
        refine QG.then ?_
        refine CG.ret ?_
        refine QG.block_ret ?_
        refine QG.pass_ret ?_
        have e : placeR A k ad sz how = (0, 90) := by unfold placeR; rw [if_neg (fun q => q (by omega)), if_neg (fun q => q hal), if_pos (by omega)]
        rw [e]
        exact QG.rets [.int .u32 0, .int .i64 90] rfl ⟨rfl, rfl, trivial⟩ σ F0 rfl iM
      · skip
        refine CG.region ?_
        refine OG.mv rfl rfl ?_
        refine OG.yield Yield.geqA rfl ?_
        refine OG.mv rfl rfl ?_
        refine OG.gy rfl rfl rfl ?_
        refine OG.mv rfl rfl ?_
        refine OG.gy rfl rfl rfl ?_
        refine OG.yield Yield.eqlA rfl ?_
        refine OG.yield Yield.pickA rfl ?_
        refine OG.sg rfl rfl ?_
        refine OG.nil ?_
        refine QG.then ?_
        refine CG.cond_f rfl ?_
        refine CG.skip ?_
        refine QG.block_normal ?_
        refine QG.then ?_
        refine CG.seq ?_
        refine CG.region ?_
        refine OG.mv rfl rfl ?_
        refine OG.mv rfl rfl ?_
        refine OG.yield (Yield.quo (c := ((ad / 256 : Nat) : Int)) rfl rfl (by decide) (quo_nat32 (b := 256) (by decide) (by omega))) rfl ?_
        refine OG.yield (by first | exact Yield.conv Tryz.underlying3 rfl rfl (w64 (by omega) (by omega)) | exact Yield.conv Tryz.underlying3 rfl rfl rfl) rfl ?_
        refine OG.callo call86 rfl (iM) (find_spec W0 _ (s := s) (m := m) (f := f) (t := t) G hk hb ((ad / 256 : Nat) : Int)) rfl ?_
        rintro σ' hF
        rw [vp_in (show ad / 256 < 4096 by omega)]
        refine OG.mv rfl rfl ?_
        refine OG.yield (Yield.extract rfl rfl) rfl ?_
        refine OG.yield (Yield.extract rfl rfl) rfl ?_
        refine OG.yield (Yield.extract rfl rfl) rfl ?_
        refine OG.sg rfl rfl ?_
        refine OG.sg rfl rfl ?_
        refine OG.sg rfl rfl ?_
        refine OG.nil ?_
        refine QG.then ?_
        refine CG.seq ?_
        refine CG.seq ?_
        rcases (show (A.pg k (ad / 256) = none) ∨ (∃ x, A.pg k (ad / 256) = some x ∧ may x.2 how) ∨ (∃ x, A.pg k (ad / 256) = some x ∧ ¬ may x.2 how) by cases A.pg k (ad / 256) with | none => exact .inl rfl | some x => exact .inr ((Decidable.em (may x.2 how)).elim (fun h => .inl ⟨x, rfl, h⟩) (fun h => .inr ⟨x, rfl, h⟩))) with hx | ⟨x, hx, hm⟩ | ⟨x, hx, hm⟩
        · skip
          rw [wV_none (by omega) hx, hx]
          refine CG.region ?_
          refine OG.mv rfl rfl ?_
          refine OG.yield (Yield.not rfl) rfl ?_
          refine OG.mv rfl rfl ?_
          refine OG.gn rfl rfl rfl rfl rfl ?_
          refine OG.gn rfl rfl rfl rfl rfl ?_
          refine OG.gn rfl rfl rfl rfl rfl ?_
          refine OG.gn rfl rfl rfl rfl rfl ?_
          refine OG.gn rfl rfl rfl rfl rfl ?_
          refine OG.yield Yield.pickA rfl ?_
          refine OG.nil ?_
          refine QG.then ?_
          refine CG.cond_t rfl ?_
          refine CG.seq ?_
          refine CG.region ?_
          refine OG.sg rfl rfl ?_
          refine OG.sg rfl rfl ?_
          refine OG.nil ?_
          refine QG.then ?_
          refine CG.ret ?_
          refine QG.pass_ret ?_
          have e : placeR A k ad sz how = (0, 90) := by unfold placeR; rw [if_neg (fun q => q (by omega)), if_neg (fun q => q hal), if_neg (by omega), hx]
          rw [e]
          exact QG.rets [.int .u32 0, .int .i64 90] rfl ⟨rfl, rfl, trivial⟩ σ' hF rfl iM
        · skip
          rw [wV_some (by omega) hx, hx]
          refine CG.region ?_
          refine OG.mv rfl rfl ?_
          refine OG.yield (Yield.not rfl) rfl ?_
          refine OG.mv rfl rfl ?_
          refine OG.gy rfl rfl rfl ?_
          refine OG.mv rfl rfl ?_
          refine OG.gy rfl rfl rfl ?_
          refine OG.mv rfl rfl ?_
          refine OG.gy rfl rfl rfl ?_
          refine OG.yield (Yield.bitop rfl rfl rfl rfl) rfl ?_
          refine OG.gy rfl rfl rfl ?_
          refine OG.mv rfl rfl ?_
          refine OG.gy rfl rfl rfl ?_
          refine OG.yield (Yield.as (Yield.neq rfl rfl) (v' := .bool false) (by simp [hm])) rfl ?_
          refine OG.yield Yield.pickA rfl ?_
          refine OG.nil ?_
          refine QG.then ?_
          refine CG.cond_f rfl ?_
          refine CG.skip ?_
          refine QG.then ?_
          refine CG.seq ?_
          have hxn := G.plt hx
          refine CG.region ?_
          refine OG.mv rfl rfl ?_
          refine OG.yield (Yield.conv (c := (x.1 : Int)) Tryz.underlying30 rfl rfl (wu32 (by omega) (by omega))) rfl ?_
          refine OG.yield (Yield.mul (c := ((x.1 * 256 : Nat) : Int)) rfl rfl (by rw [wu32 (by omega) (by omega)]; omega)) rfl ?_
          refine OG.mv rfl rfl ?_
          refine OG.yield (Yield.rem (c := ((ad % 256 : Nat) : Int)) rfl rfl (by decide) (tmod_nat ad 256 (by decide))) rfl ?_
          refine OG.yield (Yield.add (c := ((x.1 * 256 + ad % 256 : Nat) : Int)) rfl rfl (by rw [wu32 (by omega) (by omega)]; omega)) rfl ?_
          refine OG.sg rfl rfl ?_
          refine OG.sg rfl rfl ?_
          refine OG.nil ?_
          refine QG.then ?_
          refine CG.ret ?_
          have e : placeR A k ad sz how = (x.1 * 256 + ad % 256, 0) := by unfold placeR; rw [if_neg (fun q => q (by omega)), if_neg (fun q => q hal), if_neg (by omega), hx]; simp only; rw [if_pos hm]
          rw [e]
          exact QG.rets [.int .u32 ((x.1 * 256 + ad % 256 : Nat) : Int), .int .i64 0] rfl ⟨rfl, rfl, trivial⟩ σ' hF rfl iM
        · skip
          rw [wV_some (by omega) hx, hx]
          refine CG.region ?_
          refine OG.mv rfl rfl ?_
          refine OG.yield (Yield.not rfl) rfl ?_
          refine OG.mv rfl rfl ?_
          refine OG.gy rfl rfl rfl ?_
          refine OG.mv rfl rfl ?_
          refine OG.gy rfl rfl rfl ?_
          refine OG.mv rfl rfl ?_
          refine OG.gy rfl rfl rfl ?_
          refine OG.yield (Yield.bitop rfl rfl rfl rfl) rfl ?_
          refine OG.gy rfl rfl rfl ?_
          refine OG.mv rfl rfl ?_
          refine OG.gy rfl rfl rfl ?_
          refine OG.yield (Yield.as (Yield.neq rfl rfl) (v' := .bool true) (by simp [hm])) rfl ?_
          refine OG.yield Yield.pickA rfl ?_
          refine OG.nil ?_
          refine QG.then ?_
          refine CG.cond_t rfl ?_
          refine CG.seq ?_
          refine CG.region ?_
          refine OG.sg rfl rfl ?_
          refine OG.sg rfl rfl ?_
          refine OG.nil ?_
          refine QG.then ?_
          refine CG.ret ?_
          refine QG.pass_ret ?_
          have e : placeR A k ad sz how = (0, 90) := by unfold placeR; rw [if_neg (fun q => q (by omega)), if_neg (fun q => q hal), if_neg (by omega), hx]; simp only; rw [if_neg hm]
          rw [e]
          exact QG.rets [.int .u32 0, .int .i64 90] rfl ⟨rfl, rfl, trivial⟩ σ' hF rfl iM
    · skip
      refine CG.region ?_
      refine OG.mv rfl rfl ?_
      refine OG.mv rfl rfl ?_
      refine OG.yield (Yield.conv (c := sz) Tryz.underlying30 rfl rfl (wu32 (by omega) (by omega))) rfl ?_
      refine OG.yield (Yield.rem (c := (ad : Int) % sz) rfl rfl (by omega) (tmod_pos (by omega) (by omega))) rfl ?_
      refine OG.yield (Yield.as (Yield.neq rfl rfl) (v' := .bool true) (by simp [hal])) rfl ?_
      refine OG.sg rfl rfl ?_
      refine OG.nil ?_
      refine QG.then ?_
      refine CG.cond_t rfl ?_
      refine CG.seq ?_
      refine CG.region ?_
      refine OG.sg rfl rfl ?_
      refine OG.sg rfl rfl ?_
      refine OG.nil ?_
      refine QG.then ?_
      refine CG.ret ?_
      refine QG.block_ret ?_
      refine QG.pass_ret ?_
      have e : placeR A k ad sz how = (0, 30) := by unfold placeR; rw [if_neg (fun q => q (by omega)), if_pos hal]
      rw [e]
      exact QG.rets [.int .u32 0, .int .i64 30] rfl ⟨rfl, rfl, trivial⟩ σ F0 rfl iM
  · skip
    refine CG.region ?_
    refine OG.mv rfl rfl ?_
    refine OG.yield Yield.neqA rfl ?_
    refine OG.mv rfl rfl ?_
    refine OG.gy rfl rfl rfl ?_
    refine OG.mv rfl rfl ?_
    refine OG.gy rfl rfl rfl ?_
    refine OG.yield Yield.neqA rfl ?_
    refine OG.yield Yield.pickA rfl ?_
    refine OG.mv rfl rfl ?_
    refine OG.gy rfl rfl rfl ?_
    refine OG.mv rfl rfl ?_
    refine OG.gy rfl rfl rfl ?_
    refine OG.yield Yield.neqA rfl ?_
    refine OG.yield Yield.pickA rfl ?_
    refine OG.mv rfl rfl ?_
    refine OG.gy rfl rfl rfl ?_
    refine OG.mv rfl rfl ?_
    refine OG.gy rfl rfl rfl ?_
    refine OG.yield Yield.neqA rfl ?_
    refine OG.yield Yield.pickA rfl ?_
    refine OG.sg rfl rfl ?_
    refine OG.nil ?_
    refine QG.then ?_
    refine CG.cond_f rfl ?_
    refine CG.seq ?_
    by_cases hal : (ad : Int) % sz = 0
    · skip
      refine CG.region ?_
      refine OG.mv rfl rfl ?_
      refine OG.mv rfl rfl ?_
      refine OG.yield (Yield.conv (c := sz) Tryz.underlying30 rfl rfl (wu32 (by omega) (by omega))) rfl ?_
      refine OG.yield (Yield.rem (c := (ad : Int) % sz) rfl rfl (by omega) (tmod_pos (by omega) (by omega))) rfl ?_
      refine OG.yield (Yield.as (Yield.neq rfl rfl) (v' := .bool false) (by rw [hal]; rfl)) rfl ?_
      refine OG.sg rfl rfl ?_
      refine OG.nil ?_
      refine QG.then ?_
      refine CG.cond_f rfl ?_
      refine CG.seq ?_
      rcases (show 1048576 ≤ ad ∨ (ad < 1048576 ∧ how = 0) ∨ (ad < 1048576 ∧ how ≠ 0) by omega) with hr | hr | hr
      · skip
        refine CG.region ?_
        refine OG.mv rfl rfl ?_
        refine OG.yield Yield.geqA rfl ?_
        refine OG.mv rfl rfl ?_
        refine OG.gn rfl rfl rfl rfl rfl ?_
        refine OG.gn rfl rfl rfl rfl rfl ?_
        refine OG.yield Yield.pickA rfl ?_
        refine OG.sg rfl rfl ?_
        refine OG.nil ?_
        refine QG.then ?_
        refine CG.cond_t rfl ?_
        refine CG.seq ?_
        refine CG.region ?_
        refine OG.sg rfl rfl ?_
        refine OG.sg rfl rfl ?_
        refine OG.nil ?_
        refine QG.then ?_
        refine CG.ret ?_
        refine QG.block_ret ?_
        refine QG.pass_ret ?_
        have e : placeR A k ad sz how = (0, 90) := by unfold placeR; rw [if_neg (fun q => q (by omega)), if_neg (fun q => q hal), if_pos (by omega)]
        rw [e]
        exact QG.rets [.int .u32 0, .int .i64 90] rfl ⟨rfl, rfl, trivial⟩ σ F0 rfl iM
      · skip
        refine CG.region ?_
        refine OG.mv rfl rfl ?_
        refine OG.yield Yield.geqA rfl ?_
        refine OG.mv rfl rfl ?_
        refine OG.gy rfl rfl rfl ?_
        refine OG.mv rfl rfl ?_
        refine OG.gy rfl rfl rfl ?_
        refine OG.yield Yield.eqlA rfl ?_
        refine OG.yield Yield.pickA rfl ?_
        refine OG.sg rfl rfl ?_
        refine OG.nil ?_
        refine QG.then ?_
        refine CG.cond_t rfl ?_
        refine CG.seq ?_
        refine CG.region ?_
        refine OG.sg rfl rfl ?_
        refine OG.sg rfl rfl ?_
        refine OG.nil ?_
        refine QG.then ?_
        refine CG.ret ?_
        refine QG.block_ret ?_
        refine QG.pass_ret ?_
        have e : placeR A k ad sz how = (0, 90) := by unfold placeR; rw [if_neg (fun q => q (by omega)), if_neg (fun q => q hal), if_pos (by omega)]
        rw [e]
        exact QG.rets [.int .u32 0, .int .i64 90] rfl ⟨rfl, rfl, trivial⟩ σ F0 rfl iM
      · skip
        refine CG.region ?_
        refine OG.mv rfl rfl ?_
        refine OG.yield Yield.geqA rfl ?_
        refine OG.mv rfl rfl ?_
        refine OG.gy rfl rfl rfl ?_
        refine OG.mv rfl rfl ?_
        refine OG.gy rfl rfl rfl ?_
        refine OG.yield Yield.eqlA rfl ?_
        refine OG.yield Yield.pickA rfl ?_
        refine OG.sg rfl rfl ?_
        refine OG.nil ?_
        refine QG.then ?_
        refine CG.cond_f rfl ?_
        refine CG.skip ?_
        refine QG.block_normal ?_
        refine QG.then ?_
        refine CG.seq ?_
        refine CG.region ?_
        refine OG.mv rfl rfl ?_
        refine OG.mv rfl rfl ?_
        refine OG.yield (Yield.quo (c := ((ad / 256 : Nat) : Int)) rfl rfl (by decide) (quo_nat32 (b := 256) (by decide) (by omega))) rfl ?_
        refine OG.yield (by first | exact Yield.conv Tryz.underlying3 rfl rfl (w64 (by omega) (by omega)) | exact Yield.conv Tryz.underlying3 rfl rfl rfl) rfl ?_
        refine OG.callo call86 rfl (iM) (find_spec W0 _ (s := s) (m := m) (f := f) (t := t) G hk hb ((ad / 256 : Nat) : Int)) rfl ?_
        rintro σ' hF
        rw [vp_in (show ad / 256 < 4096 by omega)]
        refine OG.mv rfl rfl ?_
        refine OG.yield (Yield.extract rfl rfl) rfl ?_
        refine OG.yield (Yield.extract rfl rfl) rfl ?_
        refine OG.yield (Yield.extract rfl rfl) rfl ?_
        refine OG.sg rfl rfl ?_
        refine OG.sg rfl rfl ?_
        refine OG.sg rfl rfl ?_
        refine OG.nil ?_
        refine QG.then ?_
        refine CG.seq ?_
        refine CG.seq ?_
        rcases (show (A.pg k (ad / 256) = none) ∨ (∃ x, A.pg k (ad / 256) = some x ∧ may x.2 how) ∨ (∃ x, A.pg k (ad / 256) = some x ∧ ¬ may x.2 how) by cases A.pg k (ad / 256) with | none => exact .inl rfl | some x => exact .inr ((Decidable.em (may x.2 how)).elim (fun h => .inl ⟨x, rfl, h⟩) (fun h => .inr ⟨x, rfl, h⟩))) with hx | ⟨x, hx, hm⟩ | ⟨x, hx, hm⟩
        · skip
          rw [wV_none (by omega) hx, hx]
          refine CG.region ?_
          refine OG.mv rfl rfl ?_
          refine OG.yield (Yield.not rfl) rfl ?_
          refine OG.mv rfl rfl ?_
          refine OG.gn rfl rfl rfl rfl rfl ?_
          refine OG.gn rfl rfl rfl rfl rfl ?_
          refine OG.gn rfl rfl rfl rfl rfl ?_
          refine OG.gn rfl rfl rfl rfl rfl ?_
          refine OG.gn rfl rfl rfl rfl rfl ?_
          refine OG.yield Yield.pickA rfl ?_
          refine OG.nil ?_
          refine QG.then ?_
          refine CG.cond_t rfl ?_
          refine CG.seq ?_
          refine CG.region ?_
          refine OG.sg rfl rfl ?_
          refine OG.sg rfl rfl ?_
          refine OG.nil ?_
          refine QG.then ?_
          refine CG.ret ?_
          refine QG.pass_ret ?_
          have e : placeR A k ad sz how = (0, 90) := by unfold placeR; rw [if_neg (fun q => q (by omega)), if_neg (fun q => q hal), if_neg (by omega), hx]
          rw [e]
          exact QG.rets [.int .u32 0, .int .i64 90] rfl ⟨rfl, rfl, trivial⟩ σ' hF rfl iM
        · skip
          rw [wV_some (by omega) hx, hx]
          refine CG.region ?_
          refine OG.mv rfl rfl ?_
          refine OG.yield (Yield.not rfl) rfl ?_
          refine OG.mv rfl rfl ?_
          refine OG.gy rfl rfl rfl ?_
          refine OG.mv rfl rfl ?_
          refine OG.gy rfl rfl rfl ?_
          refine OG.mv rfl rfl ?_
          refine OG.gy rfl rfl rfl ?_
          refine OG.yield (Yield.bitop rfl rfl rfl rfl) rfl ?_
          refine OG.gy rfl rfl rfl ?_
          refine OG.mv rfl rfl ?_
          refine OG.gy rfl rfl rfl ?_
          refine OG.yield (Yield.as (Yield.neq rfl rfl) (v' := .bool false) (by simp [hm])) rfl ?_
          refine OG.yield Yield.pickA rfl ?_
          refine OG.nil ?_
          refine QG.then ?_
          refine CG.cond_f rfl ?_
          refine CG.skip ?_
          refine QG.then ?_
          refine CG.seq ?_
          have hxn := G.plt hx
          refine CG.region ?_
          refine OG.mv rfl rfl ?_
          refine OG.yield (Yield.conv (c := (x.1 : Int)) Tryz.underlying30 rfl rfl (wu32 (by omega) (by omega))) rfl ?_
          refine OG.yield (Yield.mul (c := ((x.1 * 256 : Nat) : Int)) rfl rfl (by rw [wu32 (by omega) (by omega)]; omega)) rfl ?_
          refine OG.mv rfl rfl ?_
          refine OG.yield (Yield.rem (c := ((ad % 256 : Nat) : Int)) rfl rfl (by decide) (tmod_nat ad 256 (by decide))) rfl ?_
          refine OG.yield (Yield.add (c := ((x.1 * 256 + ad % 256 : Nat) : Int)) rfl rfl (by rw [wu32 (by omega) (by omega)]; omega)) rfl ?_
          refine OG.sg rfl rfl ?_
          refine OG.sg rfl rfl ?_
          refine OG.nil ?_
          refine QG.then ?_
          refine CG.ret ?_
          have e : placeR A k ad sz how = (x.1 * 256 + ad % 256, 0) := by unfold placeR; rw [if_neg (fun q => q (by omega)), if_neg (fun q => q hal), if_neg (by omega), hx]; simp only; rw [if_pos hm]
          rw [e]
          exact QG.rets [.int .u32 ((x.1 * 256 + ad % 256 : Nat) : Int), .int .i64 0] rfl ⟨rfl, rfl, trivial⟩ σ' hF rfl iM
        · skip
          rw [wV_some (by omega) hx, hx]
          refine CG.region ?_
          refine OG.mv rfl rfl ?_
          refine OG.yield (Yield.not rfl) rfl ?_
          refine OG.mv rfl rfl ?_
          refine OG.gy rfl rfl rfl ?_
          refine OG.mv rfl rfl ?_
          refine OG.gy rfl rfl rfl ?_
          refine OG.mv rfl rfl ?_
          refine OG.gy rfl rfl rfl ?_
          refine OG.yield (Yield.bitop rfl rfl rfl rfl) rfl ?_
          refine OG.gy rfl rfl rfl ?_
          refine OG.mv rfl rfl ?_
          refine OG.gy rfl rfl rfl ?_
          refine OG.yield (Yield.as (Yield.neq rfl rfl) (v' := .bool true) (by simp [hm])) rfl ?_
          refine OG.yield Yield.pickA rfl ?_
          refine OG.nil ?_
          refine QG.then ?_
          refine CG.cond_t rfl ?_
          refine CG.seq ?_
          refine CG.region ?_
          refine OG.sg rfl rfl ?_
          refine OG.sg rfl rfl ?_
          refine OG.nil ?_
          refine QG.then ?_
          refine CG.ret ?_
          refine QG.pass_ret ?_
          have e : placeR A k ad sz how = (0, 90) := by unfold placeR; rw [if_neg (fun q => q (by omega)), if_neg (fun q => q hal), if_neg (by omega), hx]; simp only; rw [if_neg hm]
          rw [e]
          exact QG.rets [.int .u32 0, .int .i64 90] rfl ⟨rfl, rfl, trivial⟩ σ' hF rfl iM
    · skip
      refine CG.region ?_
      refine OG.mv rfl rfl ?_
      refine OG.mv rfl rfl ?_
      refine OG.yield (Yield.conv (c := sz) Tryz.underlying30 rfl rfl (wu32 (by omega) (by omega))) rfl ?_
      refine OG.yield (Yield.rem (c := (ad : Int) % sz) rfl rfl (by omega) (tmod_pos (by omega) (by omega))) rfl ?_
      refine OG.yield (Yield.as (Yield.neq rfl rfl) (v' := .bool true) (by simp [hal])) rfl ?_
      refine OG.sg rfl rfl ?_
      refine OG.nil ?_
      refine QG.then ?_
      refine CG.cond_t rfl ?_
      refine CG.seq ?_
      refine CG.region ?_
      refine OG.sg rfl rfl ?_
      refine OG.sg rfl rfl ?_
      refine OG.nil ?_
      refine QG.then ?_
      refine CG.ret ?_
      refine QG.block_ret ?_
      refine QG.pass_ret ?_
      have e : placeR A k ad sz how = (0, 30) := by unfold placeR; rw [if_neg (fun q => q (by omega)), if_pos hal]
      rw [e]
      exact QG.rets [.int .u32 0, .int .i64 30] rfl ⟨rfl, rfl, trivial⟩ σ F0 rfl iM
theorem read_place {A : Ab} {ad : Nat} {sz how : Int} : (placeR A k ad sz how).2 ≠ 0 → readO (obs A σ) k ad sz how = (0, (placeR A k ad sz how).2) := by
  intro h
  by_cases h1 : sz = 1 ∨ sz = 2 ∨ sz = 4 ∨ sz = 8
  · by_cases h2 : (ad : Int) % sz = 0
    · by_cases h3 : 1048576 ≤ ad ∨ how = 0
      · simp [placeR, readO, h1, h2, h3]
      · cases hx : A.pg k (ad / 256) with
        | none => simp [placeR, readO, h1, h2, h3, vw_obs, hx]
        | some x =>
          by_cases h4 : may x.2 how
          · refine absurd ?_ h; unfold placeR; rw [if_neg (fun q => q h1), if_neg (fun q => q h2), if_neg h3, hx]; simp only; rw [if_pos h4]
          · simp [placeR, readO, h1, h2, h3, vw_obs, hx, h4]
    · simp [placeR, readO, h1, h2]
  · simp [placeR, readO, h1]
theorem read_spec (L : Lk n qs rt o c σ) (hk : rt k = some r) (hb : c < 1000000000000000000) {ad : Nat} (had : ad < 4294967296) (sz how : Int) : Ctr Tryz.prog W0 31 [.pointer (some ⟨s, 0, none⟩), .int .u32 ad, .int .i64 sz, .int .i64 how] (WG m f t n qs σ (sb s k r m f t :: Fr)) (fun σ' : St => Lk n qs rt o (c + 1) σ') (fun _ => .tuple #[.int .u64 (readO o k ad sz (Go.bits .and .i64 how 7)).1, .int .i64 (readO o k ad sz (Go.bits .and .i64 how 7)).2]) (fun σ' => WG m f t n qs σ' (sb s k r m f t :: Fr)) := by
  obtain ⟨A, rfl, h0, G, rfl, hcc⟩ := L
  generalize hh : Go.bits .and .i64 how 7 = hw
  have fin : ∀ σ', Fnd n qs A σ σ' → Lk n qs A.rt (obs A σ) (c + 1) σ' := fun σ' F => Lk.intro F.good rfl h0 (by unfold obs; rw [F.bs, F.own]) (by have := F.cnt; omega)
  refine Ctr.of_body Tryz.func31 rfl Tryz.ntmps31 rfl ?_
  refine CG.seq ?_
  refine CG.region ?_
  refine OG.sg rfl rfl ?_
  refine OG.sg rfl rfl ?_
  refine OG.nil ?_
  refine QG.then ?_
  refine CG.seq ?_
  refine CG.region ?_
  refine OG.mv rfl rfl ?_
  refine OG.mv rfl rfl ?_
  refine OG.mv rfl rfl ?_
  refine OG.mv rfl rfl ?_
  refine OG.yield (Yield.bitop (c := hw) rfl rfl rfl hh) rfl ?_
  refine OG.callo call71 rfl (iM) (place_spec W0 _ (s := s) (m := m) (f := f) (t := t) G hk (by omega) had sz hw) rfl ?_
  rintro σ' hF
  refine OG.mv rfl rfl ?_
  refine OG.yield (Yield.extract rfl rfl) rfl ?_
  refine OG.yield (Yield.extract rfl rfl) rfl ?_
  refine OG.sg rfl rfl ?_
  refine OG.sg rfl rfl ?_
  refine OG.nil ?_
  refine QG.then ?_
  refine CG.seq ?_
  refine CG.seq ?_
  rcases place_cases A k ad sz hw with ⟨s', x, rfl, hs, hal, had2, hne, hx, hm, e⟩ | he
  · skip
    rw [e]
    have hl2 := (G.rep.len)
    have hxn := G.plt hx
    have hr : readO (obs A σ) k ad (s' : Int) hw = (leN ((σ.bs.drop (x.1 * 256 + ad % 256)).take s'), 0) := by
      unfold readO
      rw [if_neg (fun q => q (by omega)), if_neg (fun q => q (by rw [← Int.natCast_emod, hal]; rfl)), if_neg (by omega), vw_obs, hx]
      simp only [Option.map_some, Int.toNat_natCast]
      rw [if_pos hm, fr_part (by rcases hs with rfl | rfl | rfl | rfl <;> omega)]
    have hpl := F0len (x := x.1) hs hal
    refine CG.region ?_
    refine OG.mv rfl rfl ?_
    refine OG.yield Yield.neqA rfl ?_
    refine OG.nil ?_
    refine QG.then ?_
    refine CG.cond_f rfl ?_
    refine CG.skip ?_
    refine QG.then ?_
    refine CG.seq ?_
    refine CG.region ?_
    refine OG.mv rfl rfl ?_
    refine OG.yield (Yield.nilCheck rfl) rfl ?_
    refine OG.yield (Yield.fieldAddr fa88_2 rfl) rfl ?_
    refine OG.yield (Yield.loadA ti40 rfl) rfl ?_
    refine OG.mv rfl rfl ?_
    refine OG.mv rfl rfl ?_
    refine OG.callo call72 rfl (iM) (load_ok W0 _ (m := m) (n := n) (a := x.1 * 256 + ad % 256) (s := s') (bs := σ'.bs) hs hpl.1 (by have := hpl.2; omega)) rfl ?_
    rintro ⟨⟩ -
    refine OG.yield (Yield.extract rfl rfl) rfl ?_
    refine OG.yield (Yield.extract rfl rfl) rfl ?_
    refine OG.sg rfl rfl ?_
    refine OG.sg rfl rfl ?_
    refine OG.nil ?_
    refine QG.then ?_
    refine CG.ret ?_
    rw [hr, ← hF.bs]
    exact QG.rets [.int .u64 (leN ((σ'.bs.drop (x.1 * 256 + ad % 256)).take s')), .int .i64 0] rfl ⟨rfl, rfl, trivial⟩ σ' (fin σ' hF) rfl iM
  · skip
    refine CG.region ?_
    refine OG.mv rfl rfl ?_
    refine OG.yield Yield.neqA rfl ?_
    refine OG.nil ?_
    refine QG.then ?_
    refine CG.cond_t rfl ?_
    refine CG.seq ?_
    refine CG.region ?_
    refine OG.mv rfl rfl ?_
    refine OG.sg rfl rfl ?_
    refine OG.sg rfl rfl ?_
    refine OG.nil ?_
    refine QG.then ?_
    refine CG.ret ?_
    refine QG.pass_ret ?_
    have hr := read_place (σ := σ) he
    rw [hr]
    exact QG.rets [.int .u64 ((0 : Nat) : Int), .int .i64 (placeR A k ad sz hw).2] rfl ⟨rfl, rfl, trivial⟩ σ' (fin σ' hF) rfl iM
theorem write_place {A : Ab} {ad v : Nat} {sz : Int} : (placeR A k ad sz 2).2 ≠ 0 → writeO (obs A σ) k ad sz v = ((placeR A k ad sz 2).2, obs A σ) := by
  intro h
  by_cases h1 : sz = 1 ∨ sz = 2 ∨ sz = 4 ∨ sz = 8
  · by_cases h2 : (ad : Int) % sz = 0
    · by_cases h3 : 1048576 ≤ ad
      · simp [placeR, writeO, h1, h2, h3]
      · cases hx : A.pg k (ad / 256) with
        | none => simp [placeR, writeO, h1, h2, h3, vw_obs, hx]
        | some x =>
          by_cases h4 : may x.2 2
          · refine absurd ?_ h; unfold placeR; rw [if_neg (fun q => q h1), if_neg (fun q => q h2), if_neg (by omega), hx]; simp only; rw [if_pos h4]
          · simp [placeR, writeO, h1, h2, h3, vw_obs, hx, h4]
    · simp [placeR, writeO, h1, h2]
  · simp [placeR, writeO, h1]
theorem write_spec (L : Lk n qs rt o c σ) (hk : rt k = some r) (hb : c < 1000000000000000000) {ad v : Nat} (had : ad < 4294967296) (hv : v < 18446744073709551616) (sz : Int) : Ctr Tryz.prog W0 33 [.pointer (some ⟨s, 0, none⟩), .int .u32 ad, .int .i64 sz, .int .u64 v] (WG m f t n qs σ (sb s k r m f t :: Fr)) (fun σ' : St => Lk n qs rt (writeO o k ad sz v).2 (c + 1) σ') (fun _ => .int .i64 (writeO o k ad sz v).1) (fun σ' => WG m f t n qs σ' (sb s k r m f t :: Fr)) := by
  obtain ⟨A, rfl, h0, G, rfl, hcc⟩ := L
  have fin : ∀ σ', Fnd n qs A σ σ' → Lk n qs A.rt (obs A σ) (c + 1) σ' := fun σ' F => Lk.intro F.good rfl h0 (by unfold obs; rw [F.bs, F.own]) (by have := F.cnt; omega)
  refine Ctr.of_body Tryz.func33 rfl Tryz.ntmps33 rfl ?_
  refine CG.seq ?_
  refine CG.region ?_
  refine OG.sg rfl rfl ?_
  refine OG.nil ?_
  refine QG.then ?_
  refine CG.seq ?_
  refine CG.region ?_
  refine OG.mv rfl rfl ?_
  refine OG.mv rfl rfl ?_
  refine OG.mv rfl rfl ?_
  refine OG.callo call71 rfl (iM) (place_spec W0 _ (s := s) (m := m) (f := f) (t := t) G hk (by omega) had sz 2) rfl ?_
  rintro σ' hF
  refine OG.mv rfl rfl ?_
  refine OG.yield (Yield.extract rfl rfl) rfl ?_
  refine OG.yield (Yield.extract rfl rfl) rfl ?_
  refine OG.sg rfl rfl ?_
  refine OG.sg rfl rfl ?_
  refine OG.nil ?_
  refine QG.then ?_
  refine CG.seq ?_
  refine CG.seq ?_
  rcases place_cases A k ad sz 2 with ⟨s', x, rfl, hs, hal, had2, hne, hx, hm, e⟩ | he
  · skip
    rw [e]
    have hpl := F0len (x := x.1) hs hal
    have hxn := G.plt hx
    have hlen := putB_len v s'
    obtain ⟨G2, e2⟩ := hF.good.write (o := ad % 256) (ys := putB v s') hx (by rw [hlen]; exact F0sum hs hal)
    have hw : writeO (obs A σ) k ad (s' : Int) v = (0, ⟨up2 (obs A σ).vw k (ad / 256) (some (x.2, overB (frB σ.bs x.1) (ad % 256) (putB v s'))), (obs A σ).ts, (obs A σ).fr⟩) := by
      unfold writeO
      rw [if_neg (fun q => q (by omega)), if_neg (fun q => q (by rw [← Int.natCast_emod, hal]; rfl)), if_neg (by omega), vw_obs, hx]
      simp only [Option.map_some, Int.toNat_natCast]
      rw [if_pos hm]
    have eo : obs A σ' = obs A σ := by unfold obs; rw [hF.bs, hF.own]
    rw [eo] at e2
    have hcn := hF.cnt
    have L' := Lk.intro (c := c + 1) G2 rfl h0 e2 (by simp only; omega)
    refine CG.region ?_
    refine OG.mv rfl rfl ?_
    refine OG.yield Yield.neqA rfl ?_
    refine OG.nil ?_
    refine QG.then ?_
    refine CG.cond_f rfl ?_
    refine CG.skip ?_
    refine QG.then ?_
    refine CG.seq ?_
    refine CG.region ?_
    refine OG.mv rfl rfl ?_
    refine OG.yield (Yield.nilCheck rfl) rfl ?_
    refine OG.yield (Yield.fieldAddr fa88_2 rfl) rfl ?_
    refine OG.yield (Yield.loadA ti40 rfl) rfl ?_
    refine OG.mv rfl rfl ?_
    refine OG.mv rfl rfl ?_
    refine OG.mv rfl rfl ?_
    refine OG.callo call77 rfl (iM) (store_ok W0 _ (m := m) (n := n) (a := x.1 * 256 + ad % 256) (s := s') (v := v) (bs := σ'.bs) hs hpl.1 (by have := hpl.2; omega) hv) rfl ?_
    rintro ⟨⟩ -
    refine OG.sg rfl rfl ?_
    refine OG.nil ?_
    refine QG.then ?_
    refine CG.ret ?_
    rw [hw, ← hF.bs]
    exact QG.ret1 rfl rfl _ L' rfl iM
  · skip
    refine CG.region ?_
    refine OG.mv rfl rfl ?_
    refine OG.yield Yield.neqA rfl ?_
    refine OG.nil ?_
    refine QG.then ?_
    refine CG.cond_t rfl ?_
    refine CG.seq ?_
    refine CG.region ?_
    refine OG.mv rfl rfl ?_
    refine OG.sg rfl rfl ?_
    refine OG.nil ?_
    refine QG.then ?_
    refine CG.ret ?_
    refine QG.pass_ret ?_
    have hr := write_place (σ := σ) (v := v) he
    rw [hr]
    exact QG.ret1 rfl rfl σ' (fin σ' hF) rfl iM
end
end Go.Proofs.YtmlfcfbblfcpdaaGreat.Sp
/- Bytes where they lie, and a pool of them that is only read. No program in sight. -/
namespace Go.Proofs.YtmlfcfbblfcpdaaGreat.Ms
open Go Go.Sl Go.RowKit Go.Proofs Go.Proofs.YtmlfcfbblfcpdaaGreat.T
set_option maxRecDepth 100000
abbrev B := List UInt8
structure Msg where
  a : Option Addr
  c : Nat
  b : B
def Msg.cell (m : Msg) : Value := .slice m.a m.b.length m.c
abbrev Msg.own (m : Msg) : HProp := oby 5 m.a m.c m.b
abbrev pool (ms : List Msg) : HProp := Star (ms.map Msg.own)
def Msg.nil : Msg := ⟨none, 0, []⟩
theorem Msg.one (m : Msg) : one m.cell = true := rfl
theorem set_self {α : Type} {l : List α} {i : Nat} {x : α} (h : l[i]? = some x) : l.set i x = l := by
  obtain ⟨hi, rfl⟩ := List.getElem?_eq_some_iff.1 h
  exact List.set_getElem_self hi
theorem flat_ones {α : Type} {f : α → List Value} (hf : ∀ x, ∀ v ∈ f x, Sl.one v = true) (l : List α) : ∀ v ∈ (l.map f).flatten, Sl.one v = true := by
  intro v hv
  obtain ⟨x, hx, hvx⟩ := List.mem_flatten.1 hv
  obtain ⟨y, _, rfl⟩ := List.mem_map.1 hx
  exact hf y v hvx
end Go.Proofs.YtmlfcfbblfcpdaaGreat.Ms
/- space.Space: New and Pages. -/
namespace Go.Proofs.YtmlfcfbblfcpdaaGreat.Sp
open Go Go.Sl Go.RowKit Go.Proofs Go.Proofs.YtmlfcfbblfcpdaaGreat.T Go.Proofs.YtmlfcfbblfcpdaaGreat.Me Go.Proofs.YtmlfcfbblfcpdaaGreat.Pe Go.Proofs.YtmlfcfbblfcpdaaGreat.Pg
open Go.Proofs.YtmlfcfbblfcpdaaGreat.Fz (cnt cnt_set inv_take inv_give free_frame isP isF left left_in)
open Go.Proofs.YtmlfcfbblfcpdaaGreat.Tl (Slot hitB putL flushPL put_cases)
set_option maxRecDepth 100000
/-- A space's pages, rising. -/
def pvTo (o : Ob) (k : Nat) : Nat → List (Nat × Nat × List UInt8)
  | 0 => []
  | p + 1 => pvTo o k p ++ match o.vw k p with | some x => [(p, x.1, x.2)] | none => []
abbrev pvs (o : Ob) (k : Nat) : List (Nat × Nat × List UInt8) := pvTo o k 4096
/-- A page's view, where it lies. -/
structure PV where
  p : Nat
  pm : Nat
  a : Option Addr
  c : Nat
  b : List UInt8
def PV.v (x : PV) : Nat × Nat × List UInt8 := (x.p, x.pm, x.b)
def PV.cells (x : PV) : List Value := [.int .i64 x.p, .int .i64 x.pm, .slice x.a x.b.length x.c]
theorem PV.len (x : PV) : x.cells.length = 3 := rfl
theorem PV.ones (x : PV) : ∀ v ∈ x.cells, one v = true := by simp [PV.cells, one]
/-- A list of views of one's own. -/
abbrev PVL (a : Option Addr) (c : Nat) (l : List PV) : List HProp := [osl 61 3 a c l.length ((l.map PV.cells).flatten), Star (l.map fun x => oby 130 x.a x.c x.b)]
abbrev PLO (b : Nat) (z : Option Addr × Nat × List PV) : List HProp := [blk b [.slice z.1 z.2.2.length z.2.1] 49, osl 61 3 z.1 z.2.1 z.2.2.length ((z.2.2.map PV.cells).flatten), Star (z.2.2.map fun x => oby 130 x.a x.c x.b)]
def PL (b : Nat) (l : List (Nat × Nat × List UInt8)) : HProp := fun h => ∃ z : Option Addr × Nat × List PV, z.2.2.map PV.v = l ∧ Star (PLO b z) h
theorem pl_open {b : Nat} {l : List (Nat × Nat × List UInt8)} (y : Heaplet) (h : PL b l y) : ∃ z, z.2.2.map PV.v = l ∧ Star (PLO b z) y := h
theorem pl_close {b : Nat} {l : List (Nat × Nat × List UInt8)} {G : List HProp} (z : Option Addr × Nat × List PV) (hl : z.2.2.map PV.v = l) : Imp (PLO b z ++ G) (PL b l :: G) :=
  Imp.trans star_close (Imp.head fun y hy => ⟨z, hl, hy⟩)
theorem pvTo_len (o : Ob) (k : Nat) : ∀ p, (pvTo o k p).length = cN (fun q => (o.vw k q).isSome) p
  | 0 => rfl
  | p + 1 => by unfold pvTo cN; rw [List.length_append, pvTo_len o k p]; cases o.vw k p <;> rfl
theorem pages_pv {n : Nat} {qs : List Int} {A : Ab} {σ : St} {k r : Nat} (G : Good n qs A σ) (hk : A.rt k = some r) : ∀ p, p ≤ 4096 → (pagesTo n σ.bs r p).map (·.1) = (pvTo (obs A σ) k p).map (·.1) ∧ (pagesTo n σ.bs r p).length = (pvTo (obs A σ) k p).length ∧ ∀ (j q : Nat) (f : Int), (pagesTo n σ.bs r p)[j]? = some (q, f) → ∃ x, A.pg k q = some x ∧ f = (x.1 : Int) ∧ q < 4096 ∧ (pvTo (obs A σ) k p)[j]? = some (q, x.2, frB σ.bs x.1)
  | 0, _ => ⟨rfl, rfl, fun j q f h => by cases h⟩
  | p + 1, hp => by
    obtain ⟨h1, h2, h3⟩ := pages_pv G hk p (by omega)
    have e := (G.rep.tree k r hk).2.2 p (by omega)
    rw [pagesTo, pl_wk, e]
    unfold pvTo
    rw [vw_obs]
    cases hx : A.pg k p with
    | none => simp only [Option.map_none, List.append_nil]; exact ⟨h1, h2, h3⟩
    | some x =>
      simp only [Option.map_some]
      refine ⟨by simp [h1], by simp [h2], fun j q f hj => ?_⟩
      rcases Nat.lt_or_ge j (pagesTo n σ.bs r p).length with hlt | hge
      · rw [List.getElem?_append_left hlt] at hj
        obtain ⟨y, y1, y2, y3, y4⟩ := h3 j q f hj
        exact ⟨y, y1, y2, y3, by rw [List.getElem?_append_left (by omega)]; exact y4⟩
      · rw [List.getElem?_append_right hge] at hj
        have hj0 : j - (pagesTo n σ.bs r p).length = 0 := by
          cases hd : j - (pagesTo n σ.bs r p).length with
          | zero => rfl
          | succ i => rw [hd] at hj; cases hj
        rw [hj0] at hj
        simp only [List.getElem?_cons_zero, Option.some.injEq, Prod.mk.injEq] at hj
        obtain ⟨rfl, rfl⟩ := hj
        exact ⟨x, hx, rfl, by omega, by rw [List.getElem?_append_right (by omega), show j - (pvTo (obs A σ) k p).length = 0 by omega]; rfl⟩
section
variable (W0 : World) (Fr : List HProp)
variable {n : Nat} {qs : List Int} {rt : Nat → Option Nat} {o : Ob} {c : Nat} {σ : St} {k r s m f t : Nat}
theorem new_bad (L : Lk n qs rt o c σ) (hq : ∀ q ∈ qs, 0 ≤ q ∧ q ≤ 1024) {qk : Int} (hqk : qs[k]? = some qk) (hk : rt k = none) (h0 : qk ≤ 0) : Ctr Tryz.prog W0 22 [.int .i64 k, .pointer (some ⟨m, 0, none⟩), .pointer (some ⟨f, 0, none⟩), .pointer (some ⟨t, 0, none⟩)] (WG m f t n qs σ Fr) (fun _ : Unit => True) (fun _ => .tuple #[.pointer none, .int .i64 141]) (fun _ => WG m f t n qs σ Fr) := by
  have hl := left_in (own := σ.own) hqk
  have hkl := (List.getElem?_eq_some_iff.1 hqk).1
  refine Ctr.of_body Tryz.func22 rfl Tryz.ntmps22 rfl ?_
  refine CG.seq ?_
  refine CG.region ?_
  refine OG.sg rfl rfl ?_
  refine OG.sg rfl rfl ?_
  refine OG.nil ?_
  refine QG.then ?_
  refine CG.seq ?_
  refine CG.region ?_
  refine OG.mv rfl rfl ?_
  refine OG.mv rfl rfl ?_
  refine OG.callo call59 rfl (iM) (Fz.take_quota W0 _ (f := f) (own := σ.own) (qs := qs) (k : Int) hq ⟨by omega, by omega⟩ (by rw [hl]; omega)) rfl ?_
  rintro ⟨⟩ -
  refine OG.mv rfl rfl ?_
  refine OG.yield (Yield.extract rfl rfl) rfl ?_
  refine OG.yield (Yield.extract rfl rfl) rfl ?_
  refine OG.sg rfl rfl ?_
  refine OG.sg rfl rfl ?_
  refine OG.nil ?_
  refine QG.then ?_
  refine CG.seq ?_
  refine CG.seq ?_
  refine CG.region ?_
  refine OG.mv rfl rfl ?_
  refine OG.yield Yield.neqA rfl ?_
  refine OG.nil ?_
  refine QG.then ?_
  refine CG.cond_t rfl ?_
  refine CG.seq ?_
  refine CG.region ?_
  refine OG.mv rfl rfl ?_
  refine OG.sg rfl rfl ?_
  refine OG.sg rfl rfl ?_
  refine OG.nil ?_
  refine QG.then ?_
  refine CG.ret ?_
  refine QG.pass_ret ?_
  exact QG.ret2 rfl rfl rfl () trivial rfl iM
theorem cnt_new {A : Ab} (G : Good n qs A σ) (h0 : A.hs = []) (hk : A.rt k = none) : cnt σ.own k = 0 := by
  have hz : ∀ (g : Nat → Bool) m, (∀ q, g q = false) → cN g m = 0 := fun g m hg => by
    induction m with
    | zero => rfl
    | succ m ih => simp [cN, ih, hg]
  have ht : ∀ q, (A.tb k q).isSome = false := fun q => by
    cases h : A.tb k q with
    | none => rfl
    | some y => obtain ⟨_, r, hr⟩ := G.rep.tb0 k q y h; rw [hk] at hr; cases hr
  have hp : ∀ q, (A.pg k q).isSome = false := fun q => by
    cases h : A.pg k q with
    | none => rfl
    | some y => obtain ⟨_, r, hr⟩ := G.rep.pg0 k q y h; rw [hk] at hr; cases hr
  rw [G.own.cnt k, hk, h0, hz _ 64 ht, hz _ 4096 hp]
  rfl
theorem new_ok (L : Lk n qs rt o c σ) (hq : ∀ q ∈ qs, 0 ≤ q ∧ q ≤ 1024) {qk : Int} (hqk : qs[k]? = some qk) (hk : rt k = none) (h0 : 0 < qk) : Ctr Tryz.prog W0 22 [.int .i64 k, .pointer (some ⟨m, 0, none⟩), .pointer (some ⟨f, 0, none⟩), .pointer (some ⟨t, 0, none⟩)] (WG m f t n qs σ Fr) (fun x : Nat × Nat × St => Lk n qs (fun k' => if k' = k then some x.2.1 else rt k') ⟨o.vw, o.ts, o.fr - 1⟩ c x.2.2) (fun x => .tuple #[.pointer (some ⟨x.1, 0, none⟩), .int .i64 0]) (fun x => WG m f t n qs x.2.2 (sb x.1 k x.2.1 m f t :: Fr)) := by
  obtain ⟨A, rfl, hh, G, rfl, hcc⟩ := L
  have hl := left_in (own := σ.own) hqk
  have hkl := (List.getElem?_eq_some_iff.1 hqk).1
  have hc0 := cnt_new G hh hk
  obtain ⟨q, h1, h2⟩ := free_frame G.inv hqk (by omega)
  have hqn : q < n := by rw [← G.ol]; exact (List.getElem?_eq_some_iff.1 h2).1
  obtain ⟨G2, e2⟩ := G.new hh hk h2 hqk (by omega)
  have L' := Lk.intro (c := c) G2 rfl hh e2 hcc
  refine Ctr.of_body Tryz.func22 rfl Tryz.ntmps22 rfl ?_
  refine CG.seq ?_
  refine CG.region ?_
  refine OG.sg rfl rfl ?_
  refine OG.sg rfl rfl ?_
  refine OG.nil ?_
  refine QG.then ?_
  refine CG.seq ?_
  refine CG.region ?_
  refine OG.mv rfl rfl ?_
  refine OG.mv rfl rfl ?_
  refine OG.callo call59 rfl (iM) (Fz.take_ok W0 _ (f := f) (own := σ.own) (qs := qs) (n := q) (k : Int) hq ⟨by omega, by omega⟩ (by rw [hl]; omega) h1) rfl ?_
  rintro ⟨⟩ -
  refine OG.mv rfl rfl ?_
  refine OG.yield (Yield.extract rfl rfl) rfl ?_
  refine OG.yield (Yield.extract rfl rfl) rfl ?_
  refine OG.sg rfl rfl ?_
  refine OG.sg rfl rfl ?_
  refine OG.nil ?_
  refine QG.then ?_
  refine CG.seq ?_
  refine CG.seq ?_
  refine CG.region ?_
  refine OG.mv rfl rfl ?_
  refine OG.yield Yield.neqA rfl ?_
  refine OG.nil ?_
  refine QG.then ?_
  refine CG.cond_f rfl ?_
  refine CG.skip ?_
  refine QG.then ?_
  refine CG.seq ?_
  refine CG.region ?_
  refine OG.mv rfl rfl ?_
  refine OG.mv rfl rfl ?_
  refine OG.callo call49 rfl (iM) (fill_ok W0 _ (m := m) (n := n) (k := q) (bs := σ.bs) (ws := []) (a := none) (c2 := 0) (RdB.of_slR SlR.nil (Nat.le_refl _)) hqn (by decide)) rfl ?_
  rintro ⟨⟩ -
  refine OG.nil ?_
  refine QG.then ?_
  refine CG.seq ?_
  refine CG.region ?_
  refine OG.mv rfl rfl ?_
  refine OG.mv rfl rfl ?_
  refine OG.mv rfl rfl ?_
  refine OG.mv rfl rfl ?_
  refine OG.mv rfl rfl ?_
  refine OG.yield (Yield.build bu88 ti88 rfl (cells := [.int .i64 k, .int .i64 q, .pointer (some ⟨m, 0, none⟩), .pointer (some ⟨f, 0, none⟩), .pointer (some ⟨t, 0, none⟩)]) rfl) rfl ?_
  refine OG.effd (Eff.box rfl) rfl ?_
  rintro b30 -
  refine OG.sg rfl rfl ?_
  refine OG.sg rfl rfl ?_
  refine OG.nil ?_
  refine QG.then ?_
  refine CG.ret ?_
  exact QG.ret2 rfl rfl rfl (b30, q, _) L' rfl iM
set_option maxHeartbeats 4000000 in
theorem pages_of (L : Lk n qs rt o c σ) (hk : rt k = some r) : Ctr Tryz.prog W0 10 [.pointer (some ⟨s, 0, none⟩)] (WG m f t n qs σ (sb s k r m f t :: Fr)) (fun z : Option Addr × Nat × List PV => z.2.2.map PV.v = pvs o k) (fun z => .slice z.1 z.2.2.length z.2.1) (fun z => PVL z.1 z.2.1 z.2.2 ++ WG m f t n qs σ (sb s k r m f t :: Fr)) := by
  obtain ⟨A, rfl, hh, G, rfl, hcc⟩ := L
  obtain ⟨q1, q2, q3⟩ := pages_pv G hk 4096 (Nat.le_refl _)
  have hrn := G.rep.rlt hk
  have hle : (pages n σ.bs r).length ≤ 4096 := by
    have : (pagesTo n σ.bs r 4096).length ≤ 4096 := by rw [q2, pvTo_len]; exact cN_le _ _
    exact this
  refine Ctr.of_bodyM Tryz.func10 rfl Tryz.ntmps10 rfl ?_
  refine CG.seq ?_
  refine CG.region ?_
  refine OG.effd (Eff.box rfl) rfl ?_
  rintro b1 -
  refine OG.sg rfl rfl ?_
  refine OG.nil ?_
  refine QG.then ?_
  refine CG.seq ?_
  refine CG.region ?_
  refine OG.effd (Eff.alloc ti49) rfl ?_
  rintro b3 -
  refine OG.nil ?_
  refine QG.then ?_
  refine CG.seq ?_
  refine CG.seq ?_
  refine CG.draw (.look 0 1 (.look 1 1 (.look 2 1 (.look 3 1 (.look 4 1 (.look 5 1 (.look 6 1 (.look 7 1 (.eff1 8 false (.done)))))))))) [8] [] ([]) ([]) mixed (by kernel_rfl) (Imp.none _) (Imp.none _) ?_
  refine DG.look rfl rfl (Yield.loadA ti48 rfl) rfl ?_
  refine DG.look rfl rfl (Yield.nilCheck rfl) rfl ?_
  refine DG.look rfl rfl (Yield.fieldAddr fa88_2 rfl) rfl ?_
  refine DG.look rfl rfl (Yield.loadA ti40 rfl) rfl ?_
  refine DG.look rfl rfl (Yield.loadA ti48 rfl) rfl ?_
  refine DG.look rfl rfl (Yield.nilCheck rfl) rfl ?_
  refine DG.look rfl rfl (Yield.fieldAddr fa88_1 rfl) rfl ?_
  refine DG.look rfl rfl (Yield.loadA ti3 rfl) rfl ?_
  refine DG.eff1 ?_
  refine Chg.callo rfl rfl call42 rfl (iM) (Pg.pages_spec W0 _ (m := m) (root := (r : Int))) rfl (fun _ => iM) (fun _ => Imp.refl _) (fun _ => iM) ?_
  rintro ⟨bm, br⟩ -
  dsimp only
  refine DG.done ?_
  refine QG.then ?_
  refine CG.block ?_
  refine CG.range (ι := Empty) (pages n σ.bs r).length (pgEnc (pages n σ.bs r)) (fun _ => True) (fun i => i.elim) (fun j => PL b3 ((pvs (obs A σ) k).take j) :: blk br [.int .i64 r] 3 :: blk bm [.pointer (some ⟨m, 0, none⟩)] 40 :: blk b1 [.pointer (some ⟨s, 0, none⟩)] 48 :: WG m f t n qs σ (sb s k r m f t :: Fr)) (fun i => i.elim) rfl call84 rfl (fun _ => rfl) ?_ ?_ ?_ ?_ ?_
  · exact Imp.trans (B := PLO b3 (none, 0, []) ++ (blk br [.int .i64 r] 3 :: blk bm [.pointer (some ⟨m, 0, none⟩)] 40 :: blk b1 [.pointer (some ⟨s, 0, none⟩)] 48 :: WG m f t n qs σ (sb s k r m f t :: Fr))) (Imp.trans (B := blk b3 [.slice none 0 0] 49 :: blk br [.int .i64 r] 3 :: blk bm [.pointer (some ⟨m, 0, none⟩)] 40 :: blk b1 [.pointer (some ⟨s, 0, none⟩)] 48 :: WG m f t n qs σ (sb s k r m f t :: Fr)) iM (Imp.cons (Imp.trans star_nil osl_nil))) (pl_close (none, 0, []) rfl)
  · intro D l q
    exact (pages_hit0 W0 (root := r) (m := m) (bm := bm) (br := br) hrn (Y := fun j => lrec l q .ready none :: dblk D :: PL b3 ((pvs (obs A σ) k).take j) :: blk b1 [.pointer (some ⟨s, 0, none⟩)] 48 :: Fz.F f σ.own qs :: Tl.T t σ.l σ.hand σ.hits σ.miss :: sb s k r m f t :: Fr) (Z := fun i : Empty => i.elim)).conv (fun _ => iM) (fun _ => iM) (fun i => i.elim) (fun i => i.elim)
  · intro D l q j hk'
    obtain ⟨⟨p, fr⟩, hpk⟩ : ∃ y, (pages n σ.bs r)[j]? = some y := ⟨_, List.getElem?_eq_getElem hk'⟩
    obtain ⟨x, hx, rfl, hp4, hpv⟩ := q3 j p fr hpk
    rw [pgEnc_at hpk]
    have hxn := G.plt hx
    have htk : (pvs (obs A σ) k).take (j + 1) = (pvs (obs A σ) k).take j ++ [(p, x.2, frB σ.bs x.1)] := by
      obtain ⟨hjl, hje⟩ := List.getElem?_eq_some_iff.1 hpv
      rw [List.take_succ_eq_append_getElem hjl, hje]
    refine CG.ex (A := PL b3 ((pvs (obs A σ) k).take j)) eX pl_open ?_
    rintro ⟨pa, pc, pl⟩ hpl
    refine CG.imp star_open ?_
    dsimp only [PLO, List.cons_append, List.nil_append] at hpl ⊢
    have hll : pl.length ≤ 4096 := by have := congrArg List.length hpl; rw [List.length_map, List.length_take] at this; omega
    refine CG.seq ?_
    refine CG.region ?_
    refine OG.sg rfl rfl ?_
    refine OG.nil ?_
    refine QG.then ?_
    refine CG.region ?_
    refine OG.sg rfl rfl ?_
    refine OG.nil ?_
    refine QG.begin eX ?_
    refine CG.block ?_
    refine CG.seq ?_
    refine CG.region ?_
    refine OG.yield (Yield.loadA ti48 rfl) rfl ?_
    refine OG.yield (Yield.nilCheck rfl) rfl ?_
    refine OG.yield (Yield.fieldAddr fa88_2 rfl) rfl ?_
    refine OG.yield (Yield.loadA ti40 rfl) rfl ?_
    refine OG.mv rfl rfl ?_
    refine OG.callo call43 rfl (iM) (frame_ok W0 _ (m := m) (n := n) (k := x.1) (bs := σ.bs) hxn) rfl ?_
    rintro bf -
    refine OG.mv rfl rfl ?_
    refine OG.yield (Yield.extract rfl rfl) rfl ?_
    refine OG.yield (Yield.extract rfl rfl) rfl ?_
    refine OG.sg rfl rfl ?_
    refine OG.sg rfl rfl ?_
    refine OG.nil ?_
    refine QG.then ?_
    refine CG.draw (.look 0 2 (.look 1 0 (.look 2 1 (.look 3 1 (.look 5 0 (.eff1 4 false (.look 6 1 (.eff1 7 false (.eff1 8 true (.eff1 9 false (.done))))))))))) [4, 7, 8, 9] [0] ([]) ([blk b3 [.slice pa pl.length pc] 49]) mixed (by kernel_rfl) (Imp.none _) iM ?_
    refine DG.look rfl rfl (Yield.loadA ti49 rfl) rfl ?_
    refine DG.look rfl rfl (Yield.move rfl) rfl ?_
    refine DG.look rfl rfl (Yield.loadA ti48 rfl) rfl ?_
    refine DG.look rfl rfl (Yield.move rfl) rfl ?_
    refine DG.look rfl rfl (Yield.move rfl) rfl ?_
    refine DG.eff1 ?_
    refine Chg.callo rfl rfl call14 rfl (iM) (perm_spec W0 _ (s := s) (m := m) (f := f) (t := t) (qs := qs) (σ := σ) G.rep hk (p : Int)) rfl (fun _ => iM) (fun _ => Imp.refl _) (fun _ => iM) ?_
    rintro ⟨⟩ -
    rw [vp_in hp4, hx]
    dsimp only
    refine DG.look rfl rfl (Yield.build (pvs := [(0, .int .i64 p), (1, .int .i64 x.2), (2, .slice (some ⟨bf, 0, none⟩) (frB σ.bs x.1).length 256)]) bu61 ti61 rfl (cells := PV.cells ⟨p, x.2, some ⟨bf, 0, none⟩, 256, frB σ.bs x.1⟩) rfl) rfl ?_
    refine DG.eff1 ?_
    refine Chg.eff rfl rfl (Eff.lit [.tmp 34] (vs := [.agg (PV.cells ⟨p, x.2, some ⟨bf, 0, none⟩, 256, frB σ.bs x.1⟩).toArray]) (cells := PV.cells ⟨p, x.2, some ⟨bf, 0, none⟩, 256, frB σ.bs x.1⟩) Tryz.underlying49 ti61 rfl rfl rfl rfl (by decide) (by simp [Value.cells, PV.cells]) (by simp [Value.cells])) rfl (fun _ => iM) (fun _ => Imp.refl _) (fun _ => iM) ?_
    rintro b35 -
    refine DG.eff1 ?_
    refine Chg.eff rfl rfl (Eff.append (a := pa) (c := pc) (m := pl.length) (xs := (pl.map PV.cells).flatten) (k := 1) (ys := PV.cells ⟨p, x.2, some ⟨bf, 0, none⟩, 256, frB σ.bs x.1⟩) rfl rfl rfl Tryz.underlying49 Tryz.underlying49 ti61 rfl (by decide) fC (SlR.of_osl (a := some ⟨b35, 0, none⟩) eX) (PV.ones _) (by omega)) rfl (fun _ => iM) (fun _ => Imp.refl _) (fun _ => iM) ?_
    rintro ⟨pa2, pc2⟩ -
    refine DG.eff1 ?_
    refine Chg.eff rfl rfl (Eff.store1 ti49 rfl rfl fC rfl (by first | (simp; done) | decide)) rfl (fun _ => iM) (fun _ => Imp.refl _) (fun _ => iM) ?_
    rintro ⟨⟩ -
    refine DG.done ?_
    refine QG.block_normal ?_
    refine QG.round_next eX ?_
    refine Imp.trans (B := PLO b3 (pa2, pc2, pl ++ [⟨p, x.2, some ⟨bf, 0, none⟩, 256, frB σ.bs x.1⟩]) ++ (lrec l q .ready none :: dblk D :: blk br [.int .i64 r] 3 :: blk bm [.pointer (some ⟨m, 0, none⟩)] 40 :: blk b1 [.pointer (some ⟨s, 0, none⟩)] 48 :: WG m f t n qs σ (sb s k r m f t :: Fr))) ?_ (Imp.trans (pl_close (l := (pvs (obs A σ) k).take (j + 1)) _ (by rw [htk, ← hpl]; simp [PV.v])) iM)
    rw [show PLO b3 (pa2, pc2, pl ++ [⟨p, x.2, some ⟨bf, 0, none⟩, 256, frB σ.bs x.1⟩]) = [blk b3 [.slice pa2 (pl.length + 1) pc2] 49, osl 61 3 pa2 pc2 (pl.length + 1) ((pl.map PV.cells).flatten ++ PV.cells ⟨p, x.2, some ⟨bf, 0, none⟩, 256, frB σ.bs x.1⟩), Star ((pl.map fun x => oby 130 x.a x.c x.b) ++ [oby 130 (some ⟨bf, 0, none⟩) 256 (frB σ.bs x.1)])] by simp [PLO]]
    refine Imp.trans (B := oby 130 (some ⟨bf, 0, none⟩) 256 (frB σ.bs x.1) :: Star (pl.map fun x => oby 130 x.a x.c x.b) :: blk b3 [.slice pa2 (pl.length + 1) pc2] 49 :: osl 61 3 pa2 pc2 (pl.length + 1) ((pl.map PV.cells).flatten ++ PV.cells ⟨p, x.2, some ⟨bf, 0, none⟩, 256, frB σ.bs x.1⟩) :: lrec l q .ready none :: dblk D :: blk br [.int .i64 r] 3 :: blk bm [.pointer (some ⟨m, 0, none⟩)] 40 :: blk b1 [.pointer (some ⟨s, 0, none⟩)] 48 :: WG m f t n qs σ (sb s k r m f t :: Fr)) iM (Imp.trans star_add iM)
  · intro D
    rw [show (pvs (obs A σ) k).take (pages n σ.bs r).length = pvs (obs A σ) k from List.take_of_length_le (by show (pvTo (obs A σ) k 4096).length ≤ (pagesTo n σ.bs r 4096).length; omega)]
    refine QG.block_normal ?_
    refine QG.then ?_
    refine CG.seq ?_
    refine CG.ex (A := PL b3 (pvs (obs A σ) k)) eX pl_open ?_
    rintro ⟨pa, pc, pl⟩ hpl
    refine CG.imp star_open ?_
    dsimp only [PLO, List.cons_append, List.nil_append] at hpl ⊢
    refine CG.region ?_
    refine OG.yield (Yield.loadA ti49 rfl) rfl ?_
    refine OG.sg rfl rfl ?_
    refine OG.nil ?_
    refine QG.then ?_
    refine CG.ret ?_
    refine QG.mark1 (.inl rfl) eX ?_
    exact QG.ret1 rfl rfl (pa, pc, pl) hpl rfl iM
  · intro D i
    exact i.elim
end
end Go.Proofs.YtmlfcfbblfcpdaaGreat.Sp
/- The laws' machine: parts, spaces and the document's world. -/
namespace Go.Proofs.YtmlfcfbblfcpdaaGreat.Sp
open Go Go.Sl Go.RowKit Go.Proofs Go.Proofs.YtmlfcfbblfcpdaaGreat.T Go.Proofs.YtmlfcfbblfcpdaaGreat.Me Go.Proofs.YtmlfcfbblfcpdaaGreat.Pe Go.Proofs.YtmlfcfbblfcpdaaGreat.Pg
open Go.Proofs.YtmlfcfbblfcpdaaGreat.Fz (cnt cnt_set inv_take inv_give free_frame isP isF left left_in iv iv_len iv_get iv_set iv_ones oiv nerr nerr_ok inv_new)
open Go.Proofs.YtmlfcfbblfcpdaaGreat.Tl (Slot hitB putL flushPL put_cases)
set_option maxRecDepth 100000
/-- The document's world. -/
abbrev RWO (b : Nat) (fr : Int) (l : List Int) (z : Option Addr × Nat) : List HProp := [blk b [.int .i64 fr, .slice z.1 l.length z.2] 70, oiv z.1 z.2 l]
def RW (b : Nat) (fr : Int) (l : List Int) : HProp := fun h => ∃ z : Option Addr × Nat, True ∧ Star (RWO b fr l z) h
theorem rw_open {b : Nat} {fr : Int} {l : List Int} (y : Heaplet) (h : RW b fr l y) : ∃ z, True ∧ Star (RWO b fr l z) y := h
theorem rw_close {b : Nat} {fr : Int} {l : List Int} {G : List HProp} (z : Option Addr × Nat) : Imp (RWO b fr l z ++ G) (RW b fr l :: G) := Imp.trans star_close (Imp.head fun y hy => ⟨z, trivial, hy⟩)
theorem iv_shape {W0 : World} {G : List HProp} {a : Option Addr} {l : List Int} (h : SlR W0 G 1 a l.length (iv l)) (h0 : 0 < l.length) (w : World) (hw : Sat W0 G w) : ∃ b o, a = some ⟨b, o, none⟩ :=
  SlR.shape h (by intro q; have := iv_len l; rw [q] at this; simp only [List.length_nil] at this; omega) w hw
theorem storeInt {P : Program} {W0 : World} {e : Env} {G : List HProp} {ty E c : Nat} {t : TypeId} {x y : Operand} {b o o' i : Nat} {z : Int} {bs : List Int} {put : HProp → List HProp} {by' zv ag} (ht : TI P t 1 by' zv ag) (ho : o' = o + i) (hx : e.ev x = some (.pointer (some ⟨b, o', none⟩))) (hy : e.ev y = some (.int .i64 z))
    (fc : Foc G (osl E 1 (some ⟨b, o, none⟩) c bs.length (iv bs)) put) (hi : i < bs.length) : Eff P W0 (.store t x y) ty e G (fun _ : Unit => True) (fun _ => undef) (fun _ => put (osl E 1 (some ⟨b, o, none⟩) c bs.length (iv (bs.set i z)))) := by
  subst ho
  have := Eff.storeElem (P := P) (W0 := W0) (ty := ty) ht hx hy fc rfl (by omega)
  rw [iv_set] at this
  exact this
/-- A space of the program and its fellow of the document. -/
structure SpE where
  k : Nat
  s : Nat
  r : Nat
  b : Nat
def rtOf (sl : List SpE) (k : Nat) : Option Nat := (sl.find? fun e => decide (e.k = k)).map (·.r)
theorem rtOf_snoc {sl : List SpE} {e : SpE} (h : ∀ x ∈ sl, x.k ≠ e.k) : rtOf (sl ++ [e]) = fun k => if k = e.k then some e.r else rtOf sl k := by
  funext k
  unfold rtOf
  rw [List.find?_append]
  by_cases hk : k = e.k
  · subst hk
    have : sl.find? (fun x => decide (x.k = e.k)) = none := by rw [List.find?_eq_none]; intro x hx; simp [h x hx]
    rw [this, if_pos rfl]; simp
  · rw [if_neg hk]
    cases sl.find? (fun x => decide (x.k = k)) with
    | some y => rfl
    | none =>
      have hk2 : ¬ e.k = k := fun q => hk q.symm
      simp [hk2]
theorem rtOf_none {sl : List SpE} {k : Nat} (h : ∀ x ∈ sl, x.k ≠ k) : rtOf sl k = none := by
  unfold rtOf
  rw [List.find?_eq_none.2 (by intro x hx; simp [h x hx])]; rfl
/-- The partitions below i that get a space. -/
def posK (qs : List Int) (i : Nat) : List Nat := (List.range i).filter fun k => decide (0 < qs.getD k 0)
theorem posK_succ (qs : List Int) (i : Nat) : posK qs (i + 1) = if 0 < qs.getD i 0 then posK qs i ++ [i] else posK qs i := by
  unfold posK
  rw [List.range_succ, List.filter_append]
  by_cases h : 0 < qs.getD i 0
  · rw [if_pos h, List.filter_cons, if_pos (by simpa using h)]; rfl
  · rw [if_neg h, List.filter_cons, if_neg (by simpa using h), List.filter_nil, List.append_nil]
theorem posK_lt {qs : List Int} {i k : Nat} (h : k ∈ posK qs i) : k < i := by unfold posK at h; simp at h; exact h.1
/-- The quotas behind i partitions. -/
def lft (qs : List Int) (i : Nat) : List Int := qs.mapIdx fun k q => if k < i ∧ 0 < q then q - 1 else q
theorem lft_len (qs : List Int) (i : Nat) : (lft qs i).length = qs.length := by simp [lft]
theorem lft_get {qs : List Int} {i k : Nat} {q : Int} (h : qs[k]? = some q) : (lft qs i)[k]? = some (if k < i ∧ 0 < q then q - 1 else q) := by
  unfold lft; rw [List.getElem?_mapIdx, h]; rfl
theorem lft_zero (qs : List Int) : lft qs 0 = qs := by
  apply List.ext_getElem?
  intro k
  cases h : qs[k]? with
  | none => rw [List.getElem?_eq_none (by rw [lft_len]; exact List.getElem?_eq_none_iff.1 h)]
  | some q => rw [lft_get h]; simp
theorem lft_yes {qs : List Int} {i : Nat} {q : Int} (h : qs[i]? = some q) (hq : 0 < q) : lft qs (i + 1) = (lft qs i).set i (q - 1) := by
  have hi := (List.getElem?_eq_some_iff.1 h).1
  apply List.ext_getElem?
  intro k
  by_cases hk : i = k
  · subst hk
    rw [List.getElem?_set_self (by rw [lft_len]; exact hi), lft_get h, if_pos ⟨by omega, hq⟩]
  · rw [List.getElem?_set_ne hk]
    cases h2 : qs[k]? with
    | none => rw [List.getElem?_eq_none (by rw [lft_len]; exact List.getElem?_eq_none_iff.1 h2), List.getElem?_eq_none (by rw [lft_len]; exact List.getElem?_eq_none_iff.1 h2)]
    | some q2 =>
      rw [lft_get h2, lft_get h2]
      by_cases h3 : k < i
      · simp [h3, show k < i + 1 by omega]
      · simp [h3, show ¬ k < i + 1 by omega]
theorem lft_no {qs : List Int} {i : Nat} {q : Int} (h : qs[i]? = some q) (hq : ¬ 0 < q) : lft qs (i + 1) = lft qs i := by
  apply List.ext_getElem?
  intro k
  cases h2 : qs[k]? with
  | none => rw [List.getElem?_eq_none (by rw [lft_len]; exact List.getElem?_eq_none_iff.1 h2), List.getElem?_eq_none (by rw [lft_len]; exact List.getElem?_eq_none_iff.1 h2)]
  | some q2 =>
    rw [lft_get h2, lft_get h2]
    by_cases hk : i = k
    · subst hk; rw [h] at h2; cases h2; simp [hq]
    · by_cases h3 : k < i
      · simp [h3, show k < i + 1 by omega]
      · simp [h3, show ¬ k < i + 1 by omega]
section
variable (W0 : World) (Fr : List HProp)
theorem rtake_spec {b : Nat} {fr q : Int} {l : List Int} {k d : Nat} (hk : l[k]? = some q) (hl : l.length ≤ 1024) (hq : -1000000 ≤ q ∧ q ≤ 1000000) (hf : -1000000 ≤ fr ∧ fr ≤ 1000000) (hd : d ≤ 1000000) : Ctr Tryz.prog W0 60 [.pointer (some ⟨b, 0, none⟩), .int .i64 k, .int .i64 d] (RW b fr l :: Fr) (fun _ : Unit => True) (fun _ => .int .i64 (if q < d then 141 else if fr < d then 4 else 0))
    (fun _ => (if q < d ∨ fr < d then RW b fr l else RW b (fr - d) (l.set k (q - d))) :: Fr) := by
  have hkl := (List.getElem?_eq_some_iff.1 hk).1
  refine Ctr.ex Ext.here rw_open ?_
  rintro ⟨aw, c2⟩ -
  refine Ctr.imp star_open ?_
  dsimp only [RWO, List.cons_append, List.nil_append]
  refine Ctr.pure (fun w hw => iv_shape (SlR.of_osl (a := aw) eX) (by omega) w hw) ?_
  rintro ⟨b2, o2, rfl⟩
  refine Ctr.of_body Tryz.func60 rfl Tryz.ntmps60 rfl ?_
  refine CG.seq ?_
  refine CG.region ?_
  refine OG.sg rfl rfl ?_
  refine OG.nil ?_
  refine QG.then ?_
  refine CG.seq ?_
  refine CG.seq ?_
  refine CG.region ?_
  refine OG.mv rfl rfl ?_
  refine OG.yield Yield.lssA rfl ?_
  refine OG.mv rfl rfl ?_
  refine OG.gy rfl rfl rfl ?_
  refine OG.mv rfl rfl ?_
  refine OG.gy rfl rfl rfl ?_
  refine OG.mv rfl rfl ?_
  refine OG.gy rfl rfl rfl ?_
  refine OG.yield (Yield.nilCheck rfl) rfl ?_
  refine OG.gy rfl rfl rfl ?_
  refine OG.yield (Yield.fieldAddr fa70_1 rfl) rfl ?_
  refine OG.gy rfl rfl rfl ?_
  refine OG.yield (Yield.loadA ti22 rfl) rfl ?_
  refine OG.gy rfl rfl rfl ?_
  refine OG.yield (Yield.len_slice Tryz.underlying22 rfl rfl) rfl ?_
  refine OG.gy rfl rfl rfl ?_
  refine OG.yield Yield.geqA rfl ?_
  refine OG.yield Yield.pickA rfl ?_
  refine OG.nil ?_
  refine QG.then ?_
  refine CG.cond_f rfl ?_
  refine CG.skip ?_
  refine QG.then ?_
  refine CG.seq ?_
  refine CG.seq ?_
  rcases (show q < d ∨ (¬ q < d ∧ fr < d) ∨ (¬ q < d ∧ ¬ fr < d) by omega) with hh | hh | hh
  · skip
    refine CG.region ?_
    refine OG.mv rfl rfl ?_
    refine OG.yield (Yield.nilCheck rfl) rfl ?_
    refine OG.yield (Yield.fieldAddr fa70_1 rfl) rfl ?_
    refine OG.yield (Yield.loadA ti22 rfl) rfl ?_
    refine OG.mv rfl rfl ?_
    refine OG.yield (Yield.index_slice Tryz.underlying22 ti3 rfl rfl (by omega) (by omega)) rfl ?_
    refine OG.yield (Yield.load (v := .int .i64 q) ti3 rfl (by rw [show o2 + (k : Int).toNat * 1 = o2 + k by omega]; exact (SlR.of_osl (a := some ⟨b2, o2, none⟩) eX).cel (iv_get hk))) rfl ?_
    refine OG.mv rfl rfl ?_
    refine OG.yield Yield.lssA rfl ?_
    refine OG.nil ?_
    refine QG.then ?_
    refine CG.cond_t rfl ?_
    refine CG.seq ?_
    refine CG.region ?_
    refine OG.sg rfl rfl ?_
    refine OG.nil ?_
    refine QG.then ?_
    refine CG.ret ?_
    refine QG.pass_ret ?_
    rw [if_pos hh, if_pos (.inl hh)]
    exact QG.ret1 rfl rfl () trivial rfl (rw_close (some ⟨b2, o2, none⟩, c2))
  · skip
    refine CG.region ?_
    refine OG.mv rfl rfl ?_
    refine OG.yield (Yield.nilCheck rfl) rfl ?_
    refine OG.yield (Yield.fieldAddr fa70_1 rfl) rfl ?_
    refine OG.yield (Yield.loadA ti22 rfl) rfl ?_
    refine OG.mv rfl rfl ?_
    refine OG.yield (Yield.index_slice Tryz.underlying22 ti3 rfl rfl (by omega) (by omega)) rfl ?_
    refine OG.yield (Yield.load (v := .int .i64 q) ti3 rfl (by rw [show o2 + (k : Int).toNat * 1 = o2 + k by omega]; exact (SlR.of_osl (a := some ⟨b2, o2, none⟩) eX).cel (iv_get hk))) rfl ?_
    refine OG.mv rfl rfl ?_
    refine OG.yield Yield.lssA rfl ?_
    refine OG.nil ?_
    refine QG.then ?_
    refine CG.cond_f rfl ?_
    refine CG.skip ?_
    refine QG.then ?_
    refine CG.seq ?_
    refine CG.seq ?_
    refine CG.region ?_
    refine OG.mv rfl rfl ?_
    refine OG.yield (Yield.nilCheck rfl) rfl ?_
    refine OG.yield (Yield.fieldAddr fa70_0 rfl) rfl ?_
    refine OG.yield (Yield.loadA ti3 rfl) rfl ?_
    refine OG.mv rfl rfl ?_
    refine OG.yield Yield.lssA rfl ?_
    refine OG.nil ?_
    refine QG.then ?_
    refine CG.cond_t rfl ?_
    refine CG.seq ?_
    refine CG.region ?_
    refine OG.sg rfl rfl ?_
    refine OG.nil ?_
    refine QG.then ?_
    refine CG.ret ?_
    refine QG.pass_ret ?_
    rw [if_neg hh.1, if_pos hh.2, if_pos (.inr hh.2)]
    exact QG.ret1 rfl rfl () trivial rfl (rw_close (some ⟨b2, o2, none⟩, c2))
  · skip
    refine CG.region ?_
    refine OG.mv rfl rfl ?_
    refine OG.yield (Yield.nilCheck rfl) rfl ?_
    refine OG.yield (Yield.fieldAddr fa70_1 rfl) rfl ?_
    refine OG.yield (Yield.loadA ti22 rfl) rfl ?_
    refine OG.mv rfl rfl ?_
    refine OG.yield (Yield.index_slice Tryz.underlying22 ti3 rfl rfl (by omega) (by omega)) rfl ?_
    refine OG.yield (Yield.load (v := .int .i64 q) ti3 rfl (by rw [show o2 + (k : Int).toNat * 1 = o2 + k by omega]; exact (SlR.of_osl (a := some ⟨b2, o2, none⟩) eX).cel (iv_get hk))) rfl ?_
    refine OG.mv rfl rfl ?_
    refine OG.yield Yield.lssA rfl ?_
    refine OG.nil ?_
    refine QG.then ?_
    refine CG.cond_f rfl ?_
    refine CG.skip ?_
    refine QG.then ?_
    refine CG.seq ?_
    refine CG.seq ?_
    refine CG.region ?_
    refine OG.mv rfl rfl ?_
    refine OG.yield (Yield.nilCheck rfl) rfl ?_
    refine OG.yield (Yield.fieldAddr fa70_0 rfl) rfl ?_
    refine OG.yield (Yield.loadA ti3 rfl) rfl ?_
    refine OG.mv rfl rfl ?_
    refine OG.yield Yield.lssA rfl ?_
    refine OG.nil ?_
    refine QG.then ?_
    refine CG.cond_f rfl ?_
    refine CG.skip ?_
    refine QG.then ?_
    refine CG.seq ?_
    refine CG.draw (.look 0 1 (.look 1 1 (.look 2 1 (.look 3 1 (.look 4 1 (.look 5 1 (.look 6 1 (.look 7 1 (.look 8 1 (.look 9 1 (.look 10 1 (.look 11 1 (.look 12 1 (.look 13 1 (.look 14 1 (.eff1 15 false (.done))))))))))))))))) [15] [] ([blk b [.int .i64 fr, .slice (some ⟨b2, o2, none⟩) l.length c2] 70]) ([]) mixed (by kernel_rfl) iM (Imp.none _) ?_
    refine DG.look rfl rfl (Yield.move rfl) rfl ?_
    refine DG.look rfl rfl (Yield.nilCheck rfl) rfl ?_
    refine DG.look rfl rfl (Yield.fieldAddr fa70_1 rfl) rfl ?_
    refine DG.look rfl rfl (Yield.loadA ti22 rfl) rfl ?_
    refine DG.look rfl rfl (Yield.move rfl) rfl ?_
    refine DG.look rfl rfl (Yield.move rfl) rfl ?_
    refine DG.look rfl rfl (Yield.nilCheck rfl) rfl ?_
    refine DG.look rfl rfl (Yield.fieldAddr fa70_1 rfl) rfl ?_
    refine DG.look rfl rfl (Yield.loadA ti22 rfl) rfl ?_
    refine DG.look rfl rfl (Yield.move rfl) rfl ?_
    refine DG.look rfl rfl (Yield.index_slice Tryz.underlying22 ti3 rfl rfl (by omega) (by omega)) rfl ?_
    refine DG.look rfl rfl (Yield.load (v := .int .i64 q) ti3 rfl (by rw [show o2 + (k : Int).toNat * 1 = o2 + k by omega]; exact (SlR.of_osl (a := some ⟨b2, o2, none⟩) eX).cel (iv_get hk))) rfl ?_
    refine DG.look rfl rfl (Yield.move rfl) rfl ?_
    refine DG.look rfl rfl (Yield.sub rfl rfl (w64 (by omega) (by omega))) rfl ?_
    refine DG.look rfl rfl (Yield.index_slice Tryz.underlying22 ti3 rfl rfl (by omega) (by omega)) rfl ?_
    refine DG.eff1 ?_
    refine Chg.eff rfl rfl (storeInt (i := k) (z := q - d) ti3 (show o2 + (k : Int).toNat * 1 = o2 + k by omega) rfl rfl fC hkl) rfl (fun _ => iM) (fun _ => Imp.refl _) (fun _ => iM) ?_
    rintro ⟨⟩ -
    refine DG.done ?_
    refine QG.then ?_
    refine CG.seq ?_
    refine CG.region ?_
    refine OG.mv rfl rfl ?_
    refine OG.mv rfl rfl ?_
    refine OG.yield (Yield.nilCheck rfl) rfl ?_
    refine OG.yield (Yield.fieldAddr fa70_0 rfl) rfl ?_
    refine OG.yield (Yield.loadA ti3 rfl) rfl ?_
    refine OG.mv rfl rfl ?_
    refine OG.yield (Yield.sub rfl rfl (w64 (by omega) (by omega))) rfl ?_
    refine OG.yield (Yield.nilCheck rfl) rfl ?_
    refine OG.yield (Yield.fieldAddr fa70_0 rfl) rfl ?_
    refine OG.eff (Eff.store1 ti3 rfl rfl fC rfl (by first | (simp; done) | decide)) rfl ?_
    rintro ⟨⟩ -
    refine OG.nil ?_
    refine QG.then ?_
    refine CG.seq ?_
    refine CG.region ?_
    refine OG.sg rfl rfl ?_
    refine OG.nil ?_
    refine QG.then ?_
    refine CG.ret ?_
    rw [if_neg hh.1, if_neg hh.2, if_neg (by omega)]
    refine QG.ret1 rfl rfl () trivial rfl (Imp.trans iM (Imp.trans (B := RWO b (fr - d) (l.set k (q - d)) (some ⟨b2, o2, none⟩, c2) ++ Fr) ?_ (rw_close (some ⟨b2, o2, none⟩, c2))))
    dsimp only [RWO, oiv]
    rw [List.length_set]
    exact iM
/-- A space of the document that has nothing yet. -/
abbrev rsb0 (b bw k : Nat) : HProp := blk b [.pointer (some ⟨bw, 0, none⟩), .int .i64 k, .slice none 0 0, .slice none 0 0] 109
theorem rnew_ok {b : Nat} {fr q : Int} {l : List Int} {k : Nat} (hk : l[k]? = some q) (hl : l.length ≤ 1024) (hq : 1 ≤ q ∧ q ≤ 1000000) (hf : 1 ≤ fr ∧ fr ≤ 1000000) : Ctr Tryz.prog W0 23 [.pointer (some ⟨b, 0, none⟩), .int .i64 k] (RW b fr l :: Fr) (fun _ : Nat => True) (fun u => .tuple #[.pointer (some ⟨u, 0, none⟩), .int .i64 0])
    (fun u => rsb0 u b k :: RW b (fr - 1) (l.set k (q - 1)) :: Fr) := by
  have ht := rtake_spec W0 Fr (b := b) (fr := fr) (d := 1) hk hl (by omega) (by omega) (by decide)
  rw [if_neg (show ¬ q < ((1 : Nat) : Int) by omega), if_neg (show ¬ fr < ((1 : Nat) : Int) by omega)] at ht
  simp only [show ¬(q < ((1 : Nat) : Int) ∨ fr < ((1 : Nat) : Int)) by omega, if_false] at ht
  refine Ctr.of_body Tryz.func23 rfl Tryz.ntmps23 rfl ?_
  refine CG.seq ?_
  refine CG.region ?_
  refine OG.sg rfl rfl ?_
  refine OG.sg rfl rfl ?_
  refine OG.nil ?_
  refine QG.then ?_
  refine CG.seq ?_
  refine CG.region ?_
  refine OG.mv rfl rfl ?_
  refine OG.mv rfl rfl ?_
  refine OG.callo call60 rfl (iM) (ht) rfl ?_
  rintro ⟨⟩ -
  refine OG.sg rfl rfl ?_
  refine OG.nil ?_
  refine QG.then ?_
  refine CG.seq ?_
  refine CG.seq ?_
  refine CG.region ?_
  refine OG.mv rfl rfl ?_
  refine OG.yield Yield.neqA rfl ?_
  refine OG.nil ?_
  refine QG.then ?_
  refine CG.cond_f rfl ?_
  refine CG.skip ?_
  refine QG.then ?_
  refine CG.seq ?_
  refine CG.region ?_
  refine OG.mv rfl rfl ?_
  refine OG.mv rfl rfl ?_
  refine OG.yield (Yield.build bu109 ti109 rfl (cells := [.pointer (some ⟨b, 0, none⟩), .int .i64 k, .slice none 0 0, .slice none 0 0]) rfl) rfl ?_
  refine OG.effd (Eff.box rfl) rfl ?_
  rintro b16 -
  refine OG.sg rfl rfl ?_
  refine OG.sg rfl rfl ?_
  refine OG.nil ?_
  refine QG.then ?_
  refine CG.ret ?_
  exact QG.ret2 rfl rfl rfl b16 trivial rfl iM
theorem rnew_bad {b : Nat} {fr q : Int} {l : List Int} {k : Nat} (hk : l[k]? = some q) (hl : l.length ≤ 1024) (hq : -1000000 ≤ q ∧ q < 1) (hf : -1000000 ≤ fr ∧ fr ≤ 1000000) : Ctr Tryz.prog W0 23 [.pointer (some ⟨b, 0, none⟩), .int .i64 k] (RW b fr l :: Fr) (fun _ : Unit => True) (fun _ => .tuple #[.pointer none, .int .i64 141])
    (fun _ => RW b fr l :: Fr) := by
  have ht := rtake_spec W0 Fr (b := b) (fr := fr) (d := 1) hk hl (by omega) (by omega) (by decide)
  rw [if_pos (show q < ((1 : Nat) : Int) by omega)] at ht
  simp only [show (q < ((1 : Nat) : Int) ∨ fr < ((1 : Nat) : Int)) by omega, if_true] at ht
  refine Ctr.of_body Tryz.func23 rfl Tryz.ntmps23 rfl ?_
  refine CG.seq ?_
  refine CG.region ?_
  refine OG.sg rfl rfl ?_
  refine OG.sg rfl rfl ?_
  refine OG.nil ?_
  refine QG.then ?_
  refine CG.seq ?_
  refine CG.region ?_
  refine OG.mv rfl rfl ?_
  refine OG.mv rfl rfl ?_
  refine OG.callo call60 rfl (iM) (ht) rfl ?_
  rintro ⟨⟩ -
  refine OG.sg rfl rfl ?_
  refine OG.nil ?_
  refine QG.then ?_
  refine CG.seq ?_
  refine CG.seq ?_
  refine CG.region ?_
  refine OG.mv rfl rfl ?_
  refine OG.yield Yield.neqA rfl ?_
  refine OG.nil ?_
  refine QG.then ?_
  refine CG.cond_t rfl ?_
  refine CG.seq ?_
  refine CG.region ?_
  refine OG.mv rfl rfl ?_
  refine OG.sg rfl rfl ?_
  refine OG.sg rfl rfl ?_
  refine OG.nil ?_
  refine QG.then ?_
  refine CG.ret ?_
  refine QG.pass_ret ?_
  exact QG.ret2 rfl rfl rfl () trivial rfl iM
theorem Lk.free {n : Nat} {qs : List Int} {rt : Nat → Option Nat} {o : Ob} {c : Nat} {σ : St} {k : Nat} {qk : Int} (L : Lk n qs rt o c σ) (hqk : qs[k]? = some qk) (hk : rt k = none) (h0 : 0 < qk) : 1 ≤ o.fr := by
  obtain ⟨A, rfl, hh, G, rfl, hcc⟩ := L
  obtain ⟨q, h1, h2⟩ := free_frame G.inv hqk (by rw [cnt_new G hh hk]; omega)
  exact Fz.cnt_pos h2
/-- What 'made' has made. -/
structure MD where
  m : Nat
  f : Nat
  t : Nat
  bx : Nat
  bw : Nat
  sa : Option Addr
  sc : Nat
  ra : Option Addr
  rc : Nat
  sl : List SpE
  σ : St
abbrev ptrs (l : List Nat) : List Value := l.map fun s => .pointer (some ⟨s, 0, none⟩)
/-- The laws' world: the program's parts and spaces, and the document's. -/
abbrev MG (n : Nat) (qs : List Int) (i : Nat) (z : MD) (Fr : List HProp) : List HProp :=
  blk z.bx [.pointer (some ⟨z.m, 0, none⟩), .pointer (some ⟨z.f, 0, none⟩), .pointer (some ⟨z.t, 0, none⟩), .slice z.sa z.sl.length z.sc, .pointer (some ⟨z.bw, 0, none⟩), .slice z.ra z.sl.length z.rc] 47 ::
  osl 48 1 z.sa z.sc z.sl.length (ptrs (z.sl.map (·.s))) :: osl 73 1 z.ra z.rc z.sl.length (ptrs (z.sl.map (·.b))) :: RW z.bw ((n : Int) - z.sl.length) (lft qs i) ::
  Star (z.sl.map fun e => sb e.s e.k e.r z.m z.f z.t) :: Star (z.sl.map fun e => rsb0 e.b z.bw e.k) :: WG z.m z.f z.t n qs z.σ Fr
theorem ptrs_snoc (l : List SpE) (e : SpE) (g : SpE → Nat) : ptrs ((l ++ [e]).map g) = ptrs (l.map g) ++ [.pointer (some ⟨g e, 0, none⟩)] := by simp [ptrs]
set_option maxHeartbeats 4000000 in
theorem made_spec {n qc : Nat} {qa : Option Addr} {qs : List Int} (hne : nerr n qs = 0) (hqs : SlR W0 Fr 1 qa qs.length (iv qs)) : Ctr Tryz.prog W0 6 [.int .i64 n, .slice qa qs.length qc] Fr
    (fun z : MD => z.sl.map (·.k) = posK qs qs.length ∧ Lk n qs (rtOf z.sl) ⟨fun _ _ => none, fun _ _ => false, n - z.sl.length⟩ 0 z.σ ∧ z.sl.length ≤ n) (fun z => .tuple #[.pointer (some ⟨z.bx, 0, none⟩), .bool true]) (fun z => MG n qs qs.length z Fr) := by
  obtain ⟨hn, hql, hq, hsum⟩ := nerr_ok hne
  have hn1 : 1 ≤ n ∧ n ≤ 1024 := by omega
  have hol := iv_len qs
  obtain ⟨G0, e0⟩ := Good.start (n := n) (m := 4) (inv_new hne) (by decide)
  have L0 := Lk.intro (c := 0) G0 rfl rfl e0 (Nat.le_refl 0)
  refine Ctr.of_body Tryz.func6 rfl Tryz.ntmps6 rfl ?_
  refine CG.seq ?_
  refine CG.region ?_
  refine OG.sg rfl rfl ?_
  refine OG.sg rfl rfl ?_
  refine OG.nil ?_
  refine QG.then ?_
  refine CG.seq ?_
  refine CG.region ?_
  refine OG.mv rfl rfl ?_
  refine OG.callo call19 rfl (Imp.refl _) (Me.new_spec W0 _ (n := n) hn1.1 hn1.2) rfl ?_
  rintro m -
  refine OG.mv rfl rfl ?_
  refine OG.yield (Yield.extract rfl rfl) rfl ?_
  refine OG.yield (Yield.extract rfl rfl) rfl ?_
  refine OG.sg rfl rfl ?_
  refine OG.sg rfl rfl ?_
  refine OG.nil ?_
  refine QG.then ?_
  refine CG.seq ?_
  refine CG.region ?_
  refine OG.mv rfl rfl ?_
  refine OG.effd (Eff.lit0 Tryz.underlying22 ti3 rfl) rfl ?_
  rintro b25 -
  refine OG.mv rfl rfl ?_
  refine OG.effd (Eff.append (a := some ⟨b25, 0, none⟩) (c := 0) (m := 0) (xs := []) (k := qs.length) (ys := iv qs) rfl rfl rfl Tryz.underlying22 Tryz.underlying22 ti3 rfl (by decide) fC (hqs.imp iM) (iv_ones _) (by omega)) rfl ?_
  rintro ⟨a27, c27⟩ -
  rw [Nat.zero_add, List.nil_append]
  refine OG.callo call20 rfl (Imp.refl _) (Fz.new_ok W0 _ (total := n) (qs := qs) (by exact SlR.of_osl (E := 3) (a := a27) (c := c27) eX) hne) rfl ?_
  rintro f -
  refine OG.mv rfl rfl ?_
  refine OG.yield (Yield.extract rfl rfl) rfl ?_
  refine OG.yield (Yield.extract rfl rfl) rfl ?_
  refine OG.sg rfl rfl ?_
  refine OG.sg rfl rfl ?_
  refine OG.nil ?_
  refine QG.then ?_
  refine CG.seq ?_
  refine CG.region ?_
  refine OG.callo call21 rfl (Imp.refl _) (Tl.new_spec W0 _ (n := 4) (by decide) (by decide)) rfl ?_
  rintro t -
  refine OG.mv rfl rfl ?_
  refine OG.yield (Yield.extract rfl rfl) rfl ?_
  refine OG.yield (Yield.extract rfl rfl) rfl ?_
  refine OG.sg rfl rfl ?_
  refine OG.sg rfl rfl ?_
  refine OG.nil ?_
  refine QG.then ?_
  refine CG.seq ?_
  refine CG.seq ?_
  refine CG.region ?_
  refine OG.mv rfl rfl ?_
  refine OG.yield Yield.neqA rfl ?_
  refine OG.mv rfl rfl ?_
  refine OG.gy rfl rfl rfl ?_
  refine OG.mv rfl rfl ?_
  refine OG.gy rfl rfl rfl ?_
  refine OG.yield Yield.neqA rfl ?_
  refine OG.yield Yield.pickA rfl ?_
  refine OG.mv rfl rfl ?_
  refine OG.gy rfl rfl rfl ?_
  refine OG.mv rfl rfl ?_
  refine OG.gy rfl rfl rfl ?_
  refine OG.yield Yield.neqA rfl ?_
  refine OG.yield Yield.pickA rfl ?_
  refine OG.mv rfl rfl ?_
  refine OG.gy rfl rfl rfl ?_
  refine OG.mv rfl rfl ?_
  refine OG.gy rfl rfl rfl ?_
  refine OG.yield (by first | exact Yield.ptr_nil Tryz.underlying40 rfl rfl | exact Yield.nil_nil Tryz.underlying40 rfl rfl) rfl ?_
  refine OG.yield Yield.pickA rfl ?_
  refine OG.mv rfl rfl ?_
  refine OG.gy rfl rfl rfl ?_
  refine OG.mv rfl rfl ?_
  refine OG.gy rfl rfl rfl ?_
  refine OG.yield (by first | exact Yield.ptr_nil Tryz.underlying41 rfl rfl | exact Yield.nil_nil Tryz.underlying41 rfl rfl) rfl ?_
  refine OG.yield Yield.pickA rfl ?_
  refine OG.mv rfl rfl ?_
  refine OG.gy rfl rfl rfl ?_
  refine OG.mv rfl rfl ?_
  refine OG.gy rfl rfl rfl ?_
  refine OG.yield (by first | exact Yield.ptr_nil Tryz.underlying42 rfl rfl | exact Yield.nil_nil Tryz.underlying42 rfl rfl) rfl ?_
  refine OG.yield Yield.pickA rfl ?_
  refine OG.nil ?_
  refine QG.then ?_
  refine CG.cond_f rfl ?_
  refine CG.skip ?_
  refine QG.then ?_
  refine CG.seq ?_
  refine CG.region ?_
  refine OG.mv rfl rfl ?_
  refine OG.mv rfl rfl ?_
  refine OG.mv rfl rfl ?_
  refine OG.mv rfl rfl ?_
  refine OG.effd (Eff.lit0 Tryz.underlying22 ti3 rfl) rfl ?_
  rintro b61 -
  refine OG.mv rfl rfl ?_
  refine OG.effd (Eff.append (a := some ⟨b61, 0, none⟩) (c := 0) (m := 0) (xs := []) (k := qs.length) (ys := iv qs) rfl rfl rfl Tryz.underlying22 Tryz.underlying22 ti3 rfl (by decide) fC (hqs.imp iM) (iv_ones _) (by omega)) rfl ?_
  rintro ⟨a63, c63⟩ -
  rw [Nat.zero_add, List.nil_append]
  refine OG.yield (Yield.build bu70 ti70 rfl (cells := [.int .i64 n, .slice a63 qs.length c63]) rfl) rfl ?_
  refine OG.effd (Eff.box rfl) rfl ?_
  rintro b65 -
  refine OG.yield (Yield.build bu47 ti47 rfl (cells := [.pointer (some ⟨m, 0, none⟩), .pointer (some ⟨f, 0, none⟩), .pointer (some ⟨t, 0, none⟩), .slice none 0 0, .pointer (some ⟨b65, 0, none⟩), .slice none 0 0]) rfl) rfl ?_
  refine OG.effd (Eff.box rfl) rfl ?_
  rintro b67 -
  refine OG.sg rfl rfl ?_
  refine OG.nil ?_
  refine QG.then ?_
  refine CG.seq ?_
  refine CG.seq ?_
  refine CG.region ?_
  refine OG.sg rfl rfl ?_
  refine OG.nil ?_
  refine QG.then ?_
  refine CG.block ?_
  refine CG.loop (fun s : Nat × MD => s.1 ≤ qs.length ∧ s.2.m = m ∧ s.2.f = f ∧ s.2.t = t ∧ s.2.bx = b67 ∧ s.2.bw = b65 ∧ s.2.sl.map (·.k) = posK qs s.1 ∧ Lk n qs (rtOf s.2.sl) ⟨fun _ _ => none, fun _ _ => false, n - s.2.sl.length⟩ 0 s.2.σ ∧ s.2.sl.length ≤ n) (fun s => [(1, .slice qa qs.length qc), (6, .pointer (some ⟨m, 0, none⟩)), (8, .pointer (some ⟨f, 0, none⟩)), (10, .pointer (some ⟨t, 0, none⟩)), (12, .pointer (some ⟨b67, 0, none⟩)), (13, .int .i64 s.1)]) (fun s => MG n qs s.1 s.2 Fr) (fun s => qs.length - s.1) (0, ⟨m, f, t, b67, b65, none, 0, none, 0, [], ⟨List.replicate (n * 256) 0, List.replicate n (-1), List.replicate 4 Slot.zero, 0, 0, 0⟩⟩) ⟨Nat.zero_le _, rfl, rfl, rfl, rfl, rfl, rfl, L0, Nat.zero_le _⟩ eS ?_ ?_
  · dsimp only [MG]
    rw [lft_zero]
    refine Imp.trans (B := RWO b65 n qs (a63, c63) ++ (blk b67 [.pointer (some ⟨m, 0, none⟩), .pointer (some ⟨f, 0, none⟩), .pointer (some ⟨t, 0, none⟩), .slice none 0 0, .pointer (some ⟨b65, 0, none⟩), .slice none 0 0] 47 :: WG m f t n qs ⟨List.replicate (n * 256) 0, List.replicate n (-1), List.replicate 4 Slot.zero, 0, 0, 0⟩ Fr)) iM (Imp.trans (rw_close (a63, c63)) ?_)
    rw [show ((n : Int) - ([] : List SpE).length) = (n : Int) by simp]
    exact Imp.trans (Imp.trans osl_nil (Imp.trans osl_nil (Imp.trans star_nil star_nil))) iM
  rintro ⟨i, z⟩ ⟨hi, rfl, rfl, rfl, rfl, rfl, hk, L, hzl⟩
  dsimp only at hi hk L hzl ⊢
  refine CG.seq ?_
  refine CG.seq ?_
  refine CG.region ?_
  refine OG.mv rfl rfl ?_
  refine OG.mv rfl rfl ?_
  refine OG.yield (Yield.len_slice Tryz.underlying22 rfl rfl) rfl ?_
  refine OG.yield Yield.lssA rfl ?_
  refine OG.nil ?_
  refine QG.then ?_
  refine CG.cond rfl (fun hc => ?_) (fun hc => ?_)
  · try replace hc := of_decide_eq_true hc
    have hi' : i < qs.length := by omega
    have hget : qs[i]? = some qs[i] := by simp [hi']
    have hqi := hq qs[i] (List.getElem_mem hi')
    have hps := posK_succ qs i
    rw [show qs.getD i 0 = qs[i] by rw [List.getD_eq_getElem?_getD, hget]; rfl] at hps
    generalize qs[i] = q at hget hqi hps
    have hno : ∀ x ∈ z.sl, x.k ≠ i := fun x hx e => by
      have : x.k ∈ z.sl.map (·.k) := List.mem_map_of_mem hx
      rw [hk] at this; have := posK_lt this; omega
    have hrn := rtOf_none hno
    have hlg := lft_get (i := i) hget
    have hll := lft_len qs i
    rw [if_neg (by omega)] at hlg
    refine CG.skip ?_
    refine QG.then ?_
    refine CG.seq ?_
    refine CG.block ?_
    refine CG.seq ?_
    rcases (show 0 < q ∨ ¬ 0 < q by omega) with hq0 | hq0
    · skip
      rw [if_pos hq0] at hps
      have hfr := L.free hget hrn hq0
      dsimp only at hfr
      refine CG.region ?_
      refine OG.mv rfl rfl ?_
      refine OG.mv rfl rfl ?_
      refine OG.mv rfl rfl ?_
      refine OG.mv rfl rfl ?_
      refine OG.callo call22 rfl (iM) (new_ok W0 _ (m := z.m) (f := z.f) (t := z.t) (k := i) L hq hget hrn hq0) rfl ?_
      rintro ⟨s', r', σ'⟩ L'
      dsimp only at L' ⊢
      refine OG.mv rfl rfl ?_
      refine OG.yield (Yield.extract rfl rfl) rfl ?_
      refine OG.yield (Yield.extract rfl rfl) rfl ?_
      refine OG.sg rfl rfl ?_
      refine OG.sg rfl rfl ?_
      refine OG.nil ?_
      refine QG.then ?_
      refine CG.seq ?_
      refine CG.region ?_
      refine OG.mv rfl rfl ?_
      refine OG.yield (Yield.nilCheck rfl) rfl ?_
      refine OG.yield (Yield.fieldAddr fa47_4 rfl) rfl ?_
      refine OG.yield (Yield.loadA ti44 rfl) rfl ?_
      refine OG.mv rfl rfl ?_
      refine OG.callo call23 rfl (iM) (rnew_ok W0 _ (b := z.bw) (fr := (n : Int) - z.sl.length) (l := lft qs i) (k := i) hlg (by omega) (by omega) (by omega)) rfl ?_
      rintro b' -
      rw [← lft_yes hget hq0]
      refine OG.mv rfl rfl ?_
      refine OG.yield (Yield.extract rfl rfl) rfl ?_
      refine OG.yield (Yield.extract rfl rfl) rfl ?_
      refine OG.sg rfl rfl ?_
      refine OG.sg rfl rfl ?_
      refine OG.nil ?_
      refine QG.then ?_
      refine CG.seq ?_
      refine CG.seq ?_
      refine CG.region ?_
      refine OG.mv rfl rfl ?_
      refine OG.mv rfl rfl ?_
      refine OG.yield Yield.neqA rfl ?_
      refine OG.mv rfl rfl ?_
      refine OG.gy rfl rfl rfl ?_
      refine OG.mv rfl rfl ?_
      refine OG.gy rfl rfl rfl ?_
      refine OG.yield (by first | exact Yield.ptr_nil Tryz.underlying48 rfl rfl | exact Yield.nil_nil Tryz.underlying48 rfl rfl) rfl ?_
      refine OG.gy rfl rfl rfl ?_
      refine OG.mv rfl rfl ?_
      refine OG.gy rfl rfl rfl ?_
      refine OG.yield (by first | exact Yield.ptr_nil Tryz.underlying73 rfl rfl | exact Yield.nil_nil Tryz.underlying73 rfl rfl) rfl ?_
      refine OG.gy rfl rfl rfl ?_
      refine OG.yield (Yield.as (Yield.bool_neq Tryz.underlying4 rfl rfl) (v' := .bool false) rfl) rfl ?_
      refine OG.yield Yield.pickA rfl ?_
      refine OG.nil ?_
      refine QG.then ?_
      refine CG.cond_f rfl ?_
      refine CG.skip ?_
      refine QG.then ?_
      refine CG.seq ?_
      refine CG.region ?_
      refine OG.mv rfl rfl ?_
      refine OG.yield (by first | exact Yield.ptr_nonnil Tryz.underlying73 rfl rfl | exact Yield.nil_nonnil Tryz.underlying73 rfl rfl) rfl ?_
      refine OG.nil ?_
      refine QG.then ?_
      refine CG.cond_t rfl ?_
      refine CG.seq ?_
      refine CG.region ?_
      refine OG.mv rfl rfl ?_
      refine OG.mv rfl rfl ?_
      refine OG.yield (Yield.nilCheck rfl) rfl ?_
      refine OG.yield (Yield.fieldAddr fa47_3 rfl) rfl ?_
      refine OG.yield (Yield.loadA ti43 rfl) rfl ?_
      refine OG.mv rfl rfl ?_
      refine OG.effd (Eff.lit1 Tryz.underlying43 ti48 rfl rfl rfl) rfl ?_
      rintro b109 -
      refine OG.effd (Eff.append (a := z.sa) (c := z.sc) (m := z.sl.length) (xs := ptrs (z.sl.map (·.s))) (k := 1) (ys := [.pointer (some ⟨s', 0, none⟩)]) rfl rfl rfl Tryz.underlying43 Tryz.underlying43 ti48 rfl (by decide) fC (SlR.of_osl (a := some ⟨b109, 0, none⟩) eX) (by simp [one]) (by omega)) rfl ?_
      rintro ⟨a110, c110⟩ -
      refine OG.yield (Yield.nilCheck rfl) rfl ?_
      refine OG.yield (Yield.fieldAddr fa47_3 rfl) rfl ?_
      refine OG.eff (Eff.store1 ti43 rfl rfl fC rfl (by first | (simp; done) | decide)) rfl ?_
      rintro ⟨⟩ -
      refine OG.nil ?_
      refine QG.then ?_
      refine CG.region ?_
      refine OG.mv rfl rfl ?_
      refine OG.mv rfl rfl ?_
      refine OG.yield (Yield.nilCheck rfl) rfl ?_
      refine OG.yield (Yield.fieldAddr fa47_5 rfl) rfl ?_
      refine OG.yield (Yield.loadA ti45 rfl) rfl ?_
      refine OG.mv rfl rfl ?_
      refine OG.effd (Eff.lit1 Tryz.underlying45 ti73 rfl rfl rfl) rfl ?_
      rintro b119 -
      refine OG.effd (Eff.append (a := z.ra) (c := z.rc) (m := z.sl.length) (xs := ptrs (z.sl.map (·.b))) (k := 1) (ys := [.pointer (some ⟨b', 0, none⟩)]) rfl rfl rfl Tryz.underlying45 Tryz.underlying45 ti73 rfl (by decide) fC (SlR.of_osl (a := some ⟨b119, 0, none⟩) eX) (by simp [one]) (by omega)) rfl ?_
      rintro ⟨a120, c120⟩ -
      refine OG.yield (Yield.nilCheck rfl) rfl ?_
      refine OG.yield (Yield.fieldAddr fa47_5 rfl) rfl ?_
      refine OG.eff (Eff.store1 ti45 rfl rfl fC rfl (by first | (simp; done) | decide)) rfl ?_
      rintro ⟨⟩ -
      refine OG.nil ?_
      refine QG.block_normal ?_
      refine QG.then ?_
      refine CG.region ?_
      refine OG.mv rfl rfl ?_
      refine OG.yield (Yield.add rfl rfl (w64 (by omega) (by omega))) rfl ?_
      refine OG.sg rfl rfl ?_
      refine OG.nil ?_
      have L2 : Lk n qs (rtOf (z.sl ++ [⟨i, s', r', b'⟩])) ⟨fun _ _ => none, fun _ _ => false, n - (z.sl.length + 1)⟩ 0 σ' := by rw [rtOf_snoc (e := ⟨i, s', r', b'⟩) hno, ← Nat.sub_sub]; exact L'
      refine QG.next (i + 1, ⟨z.m, z.f, z.t, z.bx, z.bw, a110, c110, a120, c120, z.sl ++ [⟨i, s', r', b'⟩], σ'⟩) ⟨hi', rfl, rfl, rfl, rfl, rfl, by rw [List.map_append, hk, hps]; rfl, by simp only [List.length_append, List.length_cons, List.length_nil]; exact L2, by simp; omega⟩ (by simp only; omega) eS ?_
      dsimp only [MG]
      rw [ptrs_snoc, ptrs_snoc, List.map_append, List.map_append, List.length_append, show ((n : Int) - ((z.sl.length + [SpE.mk i s' r' b'].length : Nat) : Int)) = (n : Int) - z.sl.length - 1 by simp only [List.length_cons, List.length_nil]; omega]
      refine Imp.trans (B := sb s' i r' z.m z.f z.t :: Star (z.sl.map fun e => sb e.s e.k e.r z.m z.f z.t) :: rsb0 b' z.bw i :: Star (z.sl.map fun e => rsb0 e.b z.bw e.k) :: blk z.bx [.pointer (some ⟨z.m, 0, none⟩), .pointer (some ⟨z.f, 0, none⟩), .pointer (some ⟨z.t, 0, none⟩), .slice a110 (z.sl.length + 1) c110, .pointer (some ⟨z.bw, 0, none⟩), .slice a120 (z.sl.length + 1) c120] 47 :: osl 48 1 a110 c110 (z.sl.length + 1) (ptrs (z.sl.map (·.s)) ++ [.pointer (some ⟨s', 0, none⟩)]) :: osl 73 1 a120 c120 (z.sl.length + 1) (ptrs (z.sl.map (·.b)) ++ [.pointer (some ⟨b', 0, none⟩)]) :: RW z.bw ((n : Int) - z.sl.length - 1) (lft qs (i + 1)) :: WG z.m z.f z.t n qs σ' Fr) iM ?_
      refine Imp.trans star_add ?_
      refine Imp.trans (B := rsb0 b' z.bw i :: Star (z.sl.map fun e => rsb0 e.b z.bw e.k) :: Star ((z.sl.map fun e => sb e.s e.k e.r z.m z.f z.t) ++ [sb s' i r' z.m z.f z.t]) :: blk z.bx [.pointer (some ⟨z.m, 0, none⟩), .pointer (some ⟨z.f, 0, none⟩), .pointer (some ⟨z.t, 0, none⟩), .slice a110 (z.sl.length + 1) c110, .pointer (some ⟨z.bw, 0, none⟩), .slice a120 (z.sl.length + 1) c120] 47 :: osl 48 1 a110 c110 (z.sl.length + 1) (ptrs (z.sl.map (·.s)) ++ [.pointer (some ⟨s', 0, none⟩)]) :: osl 73 1 a120 c120 (z.sl.length + 1) (ptrs (z.sl.map (·.b)) ++ [.pointer (some ⟨b', 0, none⟩)]) :: RW z.bw ((n : Int) - z.sl.length - 1) (lft qs (i + 1)) :: WG z.m z.f z.t n qs σ' Fr) iM ?_
      exact Imp.trans star_add iM
    · skip
      rw [if_neg hq0] at hps
      refine CG.region ?_
      refine OG.mv rfl rfl ?_
      refine OG.mv rfl rfl ?_
      refine OG.mv rfl rfl ?_
      refine OG.mv rfl rfl ?_
      refine OG.callo call22 rfl (iM) (new_bad W0 _ (m := z.m) (f := z.f) (t := z.t) (k := i) L hq hget hrn (by omega)) rfl ?_
      rintro ⟨⟩ -
      refine OG.mv rfl rfl ?_
      refine OG.yield (Yield.extract rfl rfl) rfl ?_
      refine OG.yield (Yield.extract rfl rfl) rfl ?_
      refine OG.sg rfl rfl ?_
      refine OG.sg rfl rfl ?_
      refine OG.nil ?_
      refine QG.then ?_
      refine CG.seq ?_
      refine CG.region ?_
      refine OG.mv rfl rfl ?_
      refine OG.yield (Yield.nilCheck rfl) rfl ?_
      refine OG.yield (Yield.fieldAddr fa47_4 rfl) rfl ?_
      refine OG.yield (Yield.loadA ti44 rfl) rfl ?_
      refine OG.mv rfl rfl ?_
      refine OG.callo call23 rfl (iM) (rnew_bad W0 _ (b := z.bw) (fr := (n : Int) - z.sl.length) (l := lft qs i) (k := i) hlg (by omega) (by omega) (by omega)) rfl ?_
      rintro ⟨⟩ -
      rw [← lft_no hget hq0]
      refine OG.mv rfl rfl ?_
      refine OG.yield (Yield.extract rfl rfl) rfl ?_
      refine OG.yield (Yield.extract rfl rfl) rfl ?_
      refine OG.sg rfl rfl ?_
      refine OG.sg rfl rfl ?_
      refine OG.nil ?_
      refine QG.then ?_
      refine CG.seq ?_
      refine CG.seq ?_
      refine CG.region ?_
      refine OG.mv rfl rfl ?_
      refine OG.mv rfl rfl ?_
      refine OG.yield Yield.neqA rfl ?_
      refine OG.mv rfl rfl ?_
      refine OG.gy rfl rfl rfl ?_
      refine OG.mv rfl rfl ?_
      refine OG.gy rfl rfl rfl ?_
      refine OG.yield (by first | exact Yield.ptr_nil Tryz.underlying48 rfl rfl | exact Yield.nil_nil Tryz.underlying48 rfl rfl) rfl ?_
      refine OG.gy rfl rfl rfl ?_
      refine OG.mv rfl rfl ?_
      refine OG.gy rfl rfl rfl ?_
      refine OG.yield (by first | exact Yield.ptr_nil Tryz.underlying73 rfl rfl | exact Yield.nil_nil Tryz.underlying73 rfl rfl) rfl ?_
      refine OG.gy rfl rfl rfl ?_
      refine OG.yield (Yield.as (Yield.bool_neq Tryz.underlying4 rfl rfl) (v' := .bool false) rfl) rfl ?_
      refine OG.yield Yield.pickA rfl ?_
      refine OG.nil ?_
      refine QG.then ?_
      refine CG.cond_f rfl ?_
      refine CG.skip ?_
      refine QG.then ?_
      refine CG.seq ?_
      refine CG.region ?_
      refine OG.mv rfl rfl ?_
      refine OG.yield (by first | exact Yield.ptr_nonnil Tryz.underlying73 rfl rfl | exact Yield.nil_nonnil Tryz.underlying73 rfl rfl) rfl ?_
      refine OG.nil ?_
      refine QG.then ?_
      refine CG.cond_f rfl ?_
      refine CG.skip ?_
      refine QG.block_normal ?_
      refine QG.then ?_
      refine CG.region ?_
      refine OG.mv rfl rfl ?_
      refine OG.yield (Yield.add rfl rfl (w64 (by omega) (by omega))) rfl ?_
      refine OG.sg rfl rfl ?_
      refine OG.nil ?_
      exact QG.next (i + 1, z) ⟨hi', rfl, rfl, rfl, rfl, rfl, by rw [hk, hps], L, hzl⟩ (by simp only; omega) eS iM
  · try replace hc := of_decide_eq_false hc
    refine CG.exit ?_
    refine QG.pass_exit ?_
    refine QG.pass_exit ?_
    refine QG.block_exit ?_
    refine QG.then ?_
    refine CG.seq ?_
    refine CG.region ?_
    refine OG.mv rfl rfl ?_
    refine OG.sg rfl rfl ?_
    refine OG.sg rfl rfl ?_
    refine OG.nil ?_
    refine QG.then ?_
    refine CG.ret ?_
    obtain rfl : i = qs.length := by omega
    exact QG.ret2 rfl rfl rfl z ⟨hk, L, hzl⟩ rfl iM
end
end Go.Proofs.YtmlfcfbblfcpdaaGreat.Sp
/- Spaces: how many frames are used; Left and Free; the laws' machine of two partitions; the example of the chapter. -/
namespace Go.Proofs.YtmlfcfbblfcpdaaGreat.Sp
open Go Go.Sl Go.RowKit Go.Proofs Go.Proofs.YtmlfcfbblfcpdaaGreat.T Go.Proofs.YtmlfcfbblfcpdaaGreat.Me Go.Proofs.YtmlfcfbblfcpdaaGreat.Pe Go.Proofs.YtmlfcfbblfcpdaaGreat.Pg
open Go.Proofs.YtmlfcfbblfcpdaaGreat.Fz (cnt cnt_set inv_take inv_give free_frame isP isF left left_in iv iv_len iv_get iv_set iv_ones oiv nerr nerr_ok inv_new)
open Go.Proofs.YtmlfcfbblfcpdaaGreat.Tl (Slot hitB putL flushPL put_cases)
set_option maxRecDepth 100000
theorem Lk.mono {n : Nat} {qs : List Int} {rt : Nat → Option Nat} {o : Ob} {c d : Nat} {σ : St} (L : Lk n qs rt o c σ) (h : c ≤ d) : Lk n qs rt o d σ := by
  obtain ⟨A, h1, h2, h3, h4, h5⟩ := L; exact ⟨A, h1, h2, h3, h4, Nat.le_trans h5 h⟩
theorem cN_zero (m : Nat) : cN (fun _ => false) m = 0 := by
  induction m with
  | zero => rfl
  | succ m ih => simp [cN, ih]
theorem used_zero {fr k : Nat} : used ⟨fun _ _ => none, fun _ _ => false, fr⟩ k = 1 := by
  unfold used
  rw [show (fun p => ((none : Option (Nat × List UInt8))).isSome) = fun _ : Nat => false from rfl, cN_zero, cN_zero]
theorem cN_ts {h : Nat → Nat → Bool} {k g k' m : Nat} (hg : g < m) : cN (up2 h k g true k') m = cN (h k') m + (if k = k' ∧ h k g = false then 1 else 0) := by
  by_cases hk : k = k'
  · subst hk
    have := cN_upd (f := h k) (g := up2 h k g true k) (i := g) (fun q hq => up2_ne (by omega)) m hg
    rw [up2_at] at this
    cases hh : h k g <;> simp [hh] at this ⊢ <;> omega
  · rw [cN_congr (f := up2 h k g true k') (g := h k') m fun q _ => up2_ne (by omega)]
    simp [hk]
theorem used_vw {o : Ob} {k p k' : Nat} {v : Option (Nat × List UInt8)} {fr : Nat} (hp : p < 4096) : used ⟨up2 o.vw k p v, o.ts, fr⟩ k' + (if k = k' ∧ (o.vw k p).isSome then 1 else 0) = used o k' + (if k = k' ∧ v.isSome then 1 else 0) := by
  have := cN_up2 (h := o.vw) (k := k) (p := p) (k' := k') (v := v) hp
  unfold used
  dsimp only
  omega
theorem map_cases (qk : Int) (o : Ob) (k : Nat) (p pm : Int) : mapO qk o k p pm = (2, o) ∨ mapO qk o k p pm = (91, o) ∨ mapO qk o k p pm = (141, o) ∨
    (((0 ≤ p ∧ p < 4096) ∧ 1 ≤ pm ∧ pm ≤ 7) ∧ o.vw k p.toNat = none ∧ ((if o.ts k (p.toNat / 64) then 1 else 2 : Nat) : Int) ≤ qk - used o k ∧ mapO qk o k p pm = (0, ⟨up2 o.vw k p.toNat (some (pm.toNat, zs)), up2 o.ts k (p.toNat / 64) true, o.fr - (if o.ts k (p.toNat / 64) then 1 else 2)⟩)) := by
  unfold mapO
  by_cases h1 : (0 ≤ p ∧ p < 4096) ∧ 1 ≤ pm ∧ pm ≤ 7
  · rw [if_neg (fun q => q h1)]
    cases h2 : o.vw k p.toNat with
    | some x => exact .inr (.inl (if_pos rfl))
    | none =>
      rw [if_neg (by simp)]
      by_cases h3 : qk - used o k < (if o.ts k (p.toNat / 64) then 1 else 2 : Nat)
      · rw [if_pos h3]; exact .inr (.inr (.inl rfl))
      · rw [if_neg h3]; exact .inr (.inr (.inr ⟨h1, rfl, by omega, rfl⟩))
  · rw [if_pos h1]; exact .inl rfl
theorem used_map {qk : Int} {o : Ob} {k k' : Nat} {p pm : Int} (h : (mapO qk o k p pm).1 = 0) : used (mapO qk o k p pm).2 k' = used o k' + (if k = k' then (if o.ts k (p.toNat / 64) then 1 else 2) else 0) := by
  rcases map_cases qk o k p pm with e | e | e | ⟨h1, h2, h3, e⟩
  · rw [e] at h; cases h
  · rw [e] at h; cases h
  · rw [e] at h; cases h
  · rw [e]
    have a1 := used_vw (o := ⟨o.vw, up2 o.ts k (p.toNat / 64) true, 0⟩) (k := k) (p := p.toNat) (k' := k') (v := some (pm.toNat, zs)) (fr := o.fr - (if o.ts k (p.toNat / 64) then 1 else 2)) (by omega)
    have a2 := cN_ts (h := o.ts) (k := k) (g := p.toNat / 64) (k' := k') (m := 64) (by omega)
    have a3 : used ⟨o.vw, up2 o.ts k (p.toNat / 64) true, 0⟩ k' = used o k' + (if k = k' ∧ o.ts k (p.toNat / 64) = false then 1 else 0) := by unfold used; dsimp only; omega
    dsimp only at a1 ⊢
    rw [h2] at a1
    generalize used ⟨up2 o.vw k p.toNat (some (pm.toNat, zs)), up2 o.ts k (p.toNat / 64) true, o.fr - (if o.ts k (p.toNat / 64) then 1 else 2)⟩ k' = u1 at a1 ⊢
    generalize used ⟨o.vw, up2 o.ts k (p.toNat / 64) true, 0⟩ k' = u2 at a1 a3
    by_cases hk : k = k'
    · subst hk
      cases ht : o.ts k (p.toNat / 64) <;> simp [ht] at a1 a3 ⊢ <;> omega
    · simp [hk] at a1 a3 ⊢; omega
theorem used_unmap {o : Ob} {k k' : Nat} {p : Int} : used (unmapO o k p).2 k' + (if k = k' ∧ (unmapO o k p).1 = 0 then 1 else 0) = used o k' := by
  unfold unmapO
  split
  · simp
  · rename_i h1
    split
    · rename_i h2
      have := used_vw (o := o) (k := k) (p := p.toNat) (k' := k') (v := none) (fr := o.fr + 1) (by omega)
      simp only [h2, and_true, Option.isSome_none, Bool.false_eq_true, and_false, if_false] at this ⊢
      omega
    · simp
section
variable (W0 : World) (Fr : List HProp)
variable {n : Nat} {qs : List Int} {rt : Nat → Option Nat} {o : Ob} {c : Nat} {σ : St} {k r s m f t : Nat}
theorem left_lk (L : Lk n qs rt o c σ) (hq : ∀ q ∈ qs, 0 ≤ q ∧ q ≤ 1024) {qk : Int} (hqk : qs[k]? = some qk) (hk : rt k = some r) : Ctr Tryz.prog W0 11 [.pointer (some ⟨f, 0, none⟩), .int .i64 k] (WG m f t n qs σ Fr) (fun _ : Unit => True) (fun _ => .int .i64 (qk - used o k)) (fun _ => WG m f t n qs σ Fr) := by
  obtain ⟨A, rfl, hh, G, rfl, hcc⟩ := L
  have h1 := Fz.left_spec W0 (M m n σ.bs :: Tl.T t σ.l σ.hand σ.hits σ.miss :: Fr) (f := f) (own := σ.own) (qs := qs) (k : Int) hq
  rw [left_in hqk, used_cnt G hh hk] at h1
  exact Ctr.imp iM (h1.to id (fun _ h => h) (fun _ => rfl) (fun _ => iM))
structure M2 where
  m : Nat
  f : Nat
  t : Nat
  bx : Nat
  bw : Nat
  sa : Option Addr
  sc : Nat
  ra : Option Addr
  rc : Nat
  s0 : Nat
  r0 : Nat
  s1 : Nat
  r1 : Nat
  σ : St
def rt2 (r0 r1 : Nat) (k : Nat) : Option Nat := if k = 0 then some r0 else if k = 1 then some r1 else none
theorem sl_two {l : List SpE} (h : l.map (·.k) = [0, 1]) : ∃ s0 r0 b0 s1 r1 b1, l = [⟨0, s0, r0, b0⟩, ⟨1, s1, r1, b1⟩] := by
  match l, h with
  | [⟨k0, s0, r0, b0⟩, ⟨k1, s1, r1, b1⟩], h =>
    simp only [List.map_cons, List.map_nil, List.cons.injEq, and_true] at h
    obtain ⟨rfl, rfl⟩ := h
    exact ⟨s0, r0, b0, s1, r1, b1, rfl⟩
theorem rtOf_two {s0 r0 b0 s1 r1 b1 : Nat} : rtOf [⟨0, s0, r0, b0⟩, ⟨1, s1, r1, b1⟩] = rt2 r0 r1 := by
  funext k
  unfold rtOf rt2
  by_cases h0 : k = 0
  · subst h0; simp
  · by_cases h1 : k = 1
    · subst h1; simp
    · have e0 : ¬ 0 = k := fun q => h0 q.symm
      have e1 : ¬ 1 = k := fun q => h1 q.symm
      simp [h0, h1, e0, e1]
abbrev MG2 (n : Nat) (qs : List Int) (z : M2) (Fr : List HProp) : List HProp :=
  blk z.bx [.pointer (some ⟨z.m, 0, none⟩), .pointer (some ⟨z.f, 0, none⟩), .pointer (some ⟨z.t, 0, none⟩), .slice z.sa 2 z.sc, .pointer (some ⟨z.bw, 0, none⟩), .slice z.ra 2 z.rc] 47 ::
  osl 48 1 z.sa z.sc 2 [.pointer (some ⟨z.s0, 0, none⟩), .pointer (some ⟨z.s1, 0, none⟩)] :: sb z.s0 0 z.r0 z.m z.f z.t :: sb z.s1 1 z.r1 z.m z.f z.t :: WG z.m z.f z.t n qs z.σ Fr
theorem made2 {n qc : Nat} {qa : Option Addr} {q0 q1 : Int} (hne : nerr n [q0, q1] = 0) (hp0 : 0 < q0) (hp1 : 0 < q1) (hqs : SlR W0 Fr 1 qa 2 (iv [q0, q1])) : Ctr Tryz.prog W0 6 [.int .i64 n, .slice qa 2 qc] Fr
    (fun z : M2 => Lk n [q0, q1] (rt2 z.r0 z.r1) ⟨fun _ _ => none, fun _ _ => false, n - 2⟩ 0 z.σ) (fun z => .tuple #[.pointer (some ⟨z.bx, 0, none⟩), .bool true]) (fun z => MG2 n [q0, q1] z Fr) := by
  intro w hw
  refine (made_spec W0 Fr (qs := [q0, q1]) hne hqs w hw).mono ?_
  rintro e w' ⟨z, ⟨hk, L, -⟩, he, hs⟩
  have hpk : posK [q0, q1] 2 = [0, 1] := by rw [posK_succ, posK_succ]; simp [posK, hp0, hp1]
  obtain ⟨s0, r0, b0, s1, r1, b1, hsl⟩ := sl_two (hk.trans hpk)
  obtain ⟨m, f, t, bx, bw, sa, sc, ra, rc, sl, σ⟩ := z
  dsimp only at hsl L he hs
  subst hsl
  rw [rtOf_two] at L
  refine ⟨⟨m, f, t, bx, bw, sa, sc, ra, rc, s0, r0, s1, r1, σ⟩, L, he, hs.imp ?_⟩
  exact Imp.trans (B := Star [sb s0 0 r0 m f t, sb s1 1 r1 m f t] :: blk bx [.pointer (some ⟨m, 0, none⟩), .pointer (some ⟨f, 0, none⟩), .pointer (some ⟨t, 0, none⟩), .slice sa 2 sc, .pointer (some ⟨bw, 0, none⟩), .slice ra 2 rc] 47 :: osl 48 1 sa sc 2 [.pointer (some ⟨s0, 0, none⟩), .pointer (some ⟨s1, 0, none⟩)] :: WG m f t n [q0, q1] σ Fr) iM (Imp.trans star_open iM)
theorem works_spec : Ctr Tryz.prog W0 9 [] Fr (fun _ : Unit => True) (fun _ => .bool true) (fun _ => Fr) := by
  have hq : ∀ q ∈ ([5, 3] : List Int), 0 ≤ q ∧ q ≤ 1024 := by decide
  obtain ⟨o0, ho0⟩ : ∃ o : Ob, o = ⟨fun _ _ => none, fun _ _ => false, 6⟩ := ⟨_, rfl⟩
  have u0 : used o0 0 = 1 := by rw [ho0]; exact used_zero
  have e1 : mapO 5 o0 0 1 3 = (0, ⟨up2 o0.vw 0 1 (some (3, zs)), up2 o0.ts 0 0 true, 4⟩) := by
    unfold mapO; rw [if_neg (by decide), if_neg (by rw [ho0]; decide), if_neg (by rw [u0, ho0]; decide)]; rw [ho0]; rfl
  obtain ⟨o1, ho1⟩ : ∃ o : Ob, o = ⟨up2 o0.vw 0 1 (some (3, zs)), up2 o0.ts 0 0 true, 4⟩ := ⟨_, rfl⟩
  rw [← ho1] at e1
  have u1 : used o1 0 = 3 := by have := used_map (qk := 5) (o := o0) (k := 0) (k' := 0) (p := 1) (pm := 3) (by rw [e1]); rw [e1, u0, ho0] at this; exact this
  have e2 : mapO 5 o1 0 2 1 = (0, ⟨up2 o1.vw 0 2 (some (1, zs)), up2 o1.ts 0 0 true, 3⟩) := by
    unfold mapO; rw [if_neg (by decide), if_neg (by rw [ho1, ho0]; decide), if_neg (by rw [u1, ho1, ho0]; decide)]; rw [ho1, ho0]; rfl
  obtain ⟨o2, ho2⟩ : ∃ o : Ob, o = ⟨up2 o1.vw 0 2 (some (1, zs)), up2 o1.ts 0 0 true, 3⟩ := ⟨_, rfl⟩
  rw [← ho2] at e2
  have u2 : used o2 0 = 4 := by have := used_map (qk := 5) (o := o1) (k := 0) (k' := 0) (p := 2) (pm := 1) (by rw [e2]); rw [e2, u1, ho1, ho0] at this; exact this
  have e3 : mapO 5 o2 0 64 1 = (141, o2) := by
    unfold mapO; rw [if_neg (by decide), if_neg (by rw [ho2, ho1, ho0]; decide), if_pos (by rw [u2, ho2, ho1, ho0]; decide)]
  have v2 : o2.vw 0 1 = some (3, zs) := by rw [ho2, ho1, ho0]; rfl
  have e4 : writeO o2 0 256 4 7 = (0, ⟨up2 o2.vw 0 1 (some (3, overB zs 0 (putB 7 4))), o2.ts, o2.fr⟩) := by
    unfold writeO; rw [if_neg (by decide), if_neg (by decide), if_neg (by decide), show 256 / 256 = 1 from rfl, v2]; simp only; rw [if_pos (by decide)]; rfl
  obtain ⟨o4, ho4⟩ : ∃ o : Ob, o = ⟨up2 o2.vw 0 1 (some (3, overB zs 0 (putB 7 4))), o2.ts, o2.fr⟩ := ⟨_, rfl⟩
  rw [← ho4] at e4
  have v4 : o4.vw 0 1 = some (3, overB zs 0 (putB 7 4)) := by rw [ho4]; show up2 o2.vw 0 1 (some (3, overB zs 0 (putB 7 4))) 0 1 = _; rw [up2_at]
  have u4 : used o4 0 = 4 := by
    have := used_vw (o := o2) (k := 0) (p := 1) (k' := 0) (v := some (3, overB zs 0 (putB 7 4))) (fr := o2.fr) (by decide)
    rw [← ho4, v2, u2] at this; simpa using this
  have e5 : readO o4 0 256 4 (Go.bits .and .i64 1 7) = (7, 0) := by
    rw [show Go.bits .and .i64 1 7 = 1 by decide]
    unfold readO; rw [if_neg (by decide), if_neg (by decide), if_neg (by decide), show 256 / 256 = 1 from rfl, v4]; simp only; rw [if_pos (by decide)]; decide
  have e6 : readO o4 0 256 4 (Go.bits .and .i64 4 7) = (0, 90) := by
    rw [show Go.bits .and .i64 4 7 = 4 by decide]
    unfold readO; rw [if_neg (by decide), if_neg (by decide), if_neg (by decide), show 256 / 256 = 1 from rfl, v4]; simp only; rw [if_neg (by decide)]
  refine Ctr.of_body Tryz.func9 rfl Tryz.ntmps9 rfl ?_
  refine CG.seq ?_
  refine CG.region ?_
  refine OG.sg rfl rfl ?_
  refine OG.nil ?_
  refine QG.then ?_
  refine CG.seq ?_
  refine CG.region ?_
  refine OG.effd (Eff.lit [.const (.int .i64 5), .const (.int .i64 3)] (vs := [.int .i64 5, .int .i64 3]) (cells := iv [5, 3]) Tryz.underlying22 ti3 rfl rfl rfl rfl (by decide) (by simp [Value.cells]) (by simp [Value.cells]; rfl)) rfl ?_
  rintro b13 -
  refine OG.callo call6 rfl (Imp.refl _) (made2 W0 _ (n := 8) (q0 := 5) (q1 := 3) (by decide) (by decide) (by decide) (by exact SlR.of_osl (a := some ⟨b13, 0, none⟩) eX)) rfl ?_
  rintro ⟨m, f, t, bx, bw, sa, sc, ra, rc, s0, r0, s1, r1, σ⟩ L
  dsimp only at L ⊢
  rw [show (8 - 2 : Nat) = 6 from rfl, ← ho0] at L
  refine OG.mv rfl rfl ?_
  refine OG.yield (Yield.extract rfl rfl) rfl ?_
  refine OG.yield (Yield.extract rfl rfl) rfl ?_
  refine OG.sg rfl rfl ?_
  refine OG.sg rfl rfl ?_
  refine OG.nil ?_
  refine QG.then ?_
  refine CG.seq ?_
  refine CG.seq ?_
  refine CG.region ?_
  refine OG.mv rfl rfl ?_
  refine OG.yield (Yield.not rfl) rfl ?_
  refine OG.mv rfl rfl ?_
  refine OG.gy rfl rfl rfl ?_
  refine OG.mv rfl rfl ?_
  refine OG.gy rfl rfl rfl ?_
  refine OG.yield (Yield.nilCheck rfl) rfl ?_
  refine OG.gy rfl rfl rfl ?_
  refine OG.yield (Yield.fieldAddr fa47_3 rfl) rfl ?_
  refine OG.gy rfl rfl rfl ?_
  refine OG.yield (Yield.loadA ti43 rfl) rfl ?_
  refine OG.gy rfl rfl rfl ?_
  refine OG.yield (Yield.len_slice Tryz.underlying43 rfl rfl) rfl ?_
  refine OG.gy rfl rfl rfl ?_
  refine OG.yield Yield.neqA rfl ?_
  refine OG.yield Yield.pickA rfl ?_
  refine OG.nil ?_
  refine QG.then ?_
  refine CG.cond_f rfl ?_
  refine CG.skip ?_
  refine QG.then ?_
  refine CG.seq ?_
  refine CG.pure (fun w hw => SlR.shape (SlR.of_osl (W0 := W0) (a := sa) eX) (by simp) w hw) ?_
  rintro ⟨sbb, so, rfl⟩
  refine CG.region ?_
  refine OG.mv rfl rfl ?_
  refine OG.yield (Yield.nilCheck rfl) rfl ?_
  refine OG.yield (Yield.fieldAddr fa47_3 rfl) rfl ?_
  refine OG.yield (Yield.loadA ti43 rfl) rfl ?_
  refine OG.yield (Yield.index_slice Tryz.underlying43 ti48 rfl rfl (by omega) (by omega)) rfl ?_
  refine OG.yield (Yield.load (v := .pointer (some ⟨s0, 0, none⟩)) ti48 rfl ((SlR.of_osl (W0 := W0) (a := some ⟨sbb, so, none⟩) eX).cel (i := 0) rfl)) rfl ?_
  refine OG.sg rfl rfl ?_
  refine OG.nil ?_
  refine QG.then ?_
  refine CG.seq ?_
  refine CG.region ?_
  refine OG.mv rfl rfl ?_
  refine OG.callo call24 rfl (iM) (map_spec W0 _ (s := s0) (m := m) (f := f) (t := t) (k := 0) (r := r0) L hq (qk := 5) rfl rfl 1 3) rfl ?_
  rintro σ1 L1
  rw [e1] at L1 ⊢
  refine OG.mv rfl rfl ?_
  refine OG.callo call24 rfl (iM) (map_spec W0 _ (s := s0) (m := m) (f := f) (t := t) (k := 0) (r := r0) L1 hq (qk := 5) rfl rfl 2 1) rfl ?_
  rintro σ2 L2
  rw [e2] at L2 ⊢
  refine OG.mv rfl rfl ?_
  refine OG.callo call24 rfl (iM) (map_spec W0 _ (s := s0) (m := m) (f := f) (t := t) (k := 0) (r := r0) L2 hq (qk := 5) rfl rfl 64 1) rfl ?_
  rintro σ3 L3
  rw [e3] at L3 ⊢
  refine OG.sg rfl rfl ?_
  refine OG.sg rfl rfl ?_
  refine OG.sg rfl rfl ?_
  refine OG.nil ?_
  refine QG.then ?_
  refine CG.seq ?_
  refine CG.region ?_
  refine OG.mv rfl rfl ?_
  refine OG.callo call33 rfl (iM) (write_spec W0 _ (s := s0) (m := m) (f := f) (t := t) (k := 0) (r := r0) L3 rfl (by decide) (ad := 256) (v := 7) (by decide) (by decide) 4) rfl ?_
  rintro σ4 L4
  rw [e4] at L4 ⊢
  refine OG.sg rfl rfl ?_
  refine OG.nil ?_
  refine QG.then ?_
  refine CG.seq ?_
  refine CG.region ?_
  refine OG.mv rfl rfl ?_
  refine OG.callo call31 rfl (iM) (read_spec W0 _ (s := s0) (m := m) (f := f) (t := t) (k := 0) (r := r0) L4 rfl (by decide) (ad := 256) (by decide) 4 1) rfl ?_
  rintro σ5 L5
  rw [e5]
  refine OG.mv rfl rfl ?_
  refine OG.yield (Yield.extract rfl rfl) rfl ?_
  refine OG.yield (Yield.extract rfl rfl) rfl ?_
  refine OG.sg rfl rfl ?_
  refine OG.sg rfl rfl ?_
  refine OG.nil ?_
  refine QG.then ?_
  refine CG.seq ?_
  refine CG.region ?_
  refine OG.mv rfl rfl ?_
  refine OG.callo call31 rfl (iM) (read_spec W0 _ (s := s0) (m := m) (f := f) (t := t) (k := 0) (r := r0) L5 rfl (by decide) (ad := 256) (by decide) 4 4) rfl ?_
  rintro σ6 L6
  rw [e6]
  refine OG.mv rfl rfl ?_
  refine OG.yield (Yield.extract rfl rfl) rfl ?_
  refine OG.yield (Yield.extract rfl rfl) rfl ?_
  refine OG.sg rfl rfl ?_
  refine OG.sg rfl rfl ?_
  refine OG.nil ?_
  refine QG.then ?_
  refine CG.seq ?_
  refine CG.region ?_
  refine OG.mv rfl rfl ?_
  refine OG.yield Yield.eqlA rfl ?_
  refine OG.mv rfl rfl ?_
  refine OG.gy rfl rfl rfl ?_
  refine OG.mv rfl rfl ?_
  refine OG.gy rfl rfl rfl ?_
  refine OG.yield Yield.eqlA rfl ?_
  refine OG.yield Yield.pickA rfl ?_
  refine OG.mv rfl rfl ?_
  refine OG.gy rfl rfl rfl ?_
  refine OG.mv rfl rfl ?_
  refine OG.gy rfl rfl rfl ?_
  refine OG.yield Yield.eqlA rfl ?_
  refine OG.yield Yield.pickA rfl ?_
  refine OG.mv rfl rfl ?_
  refine OG.gy rfl rfl rfl ?_
  refine OG.mv rfl rfl ?_
  refine OG.gy rfl rfl rfl ?_
  refine OG.yield Yield.eqlA rfl ?_
  refine OG.yield Yield.pickA rfl ?_
  refine OG.mv rfl rfl ?_
  refine OG.gy rfl rfl rfl ?_
  refine OG.mv rfl rfl ?_
  refine OG.gy rfl rfl rfl ?_
  refine OG.yield Yield.eqlA rfl ?_
  refine OG.yield Yield.pickA rfl ?_
  refine OG.mv rfl rfl ?_
  refine OG.gy rfl rfl rfl ?_
  refine OG.mv rfl rfl ?_
  refine OG.gy rfl rfl rfl ?_
  refine OG.yield Yield.eqlA rfl ?_
  refine OG.yield Yield.pickA rfl ?_
  refine OG.mv rfl rfl ?_
  refine OG.gy rfl rfl rfl ?_
  refine OG.mv rfl rfl ?_
  refine OG.gy rfl rfl rfl ?_
  refine OG.yield Yield.eqlA rfl ?_
  refine OG.yield Yield.pickA rfl ?_
  refine OG.mv rfl rfl ?_
  refine OG.gy rfl rfl rfl ?_
  refine OG.mv rfl rfl ?_
  refine OG.gy rfl rfl rfl ?_
  refine OG.yield (Yield.nilCheck rfl) rfl ?_
  refine OG.gy rfl rfl rfl ?_
  refine OG.yield (Yield.fieldAddr fa47_1 rfl) rfl ?_
  refine OG.gy rfl rfl rfl ?_
  refine OG.yield (Yield.loadA ti41 rfl) rfl ?_
  refine OG.gy rfl rfl rfl ?_
  refine OG.callo call11 rfl (iM) (left_lk W0 _ (m := m) (f := f) (t := t) (k := 0) (r := r0) L6 hq (qk := 5) rfl rfl) rfl ?_
  rintro ⟨⟩ -
  rw [u4]
  refine OG.gy rfl rfl rfl ?_
  refine OG.yield Yield.eqlA rfl ?_
  refine OG.yield Yield.pickA rfl ?_
  refine OG.sg rfl rfl ?_
  refine OG.nil ?_
  refine QG.then ?_
  refine CG.ret ?_
  exact QG.ret1 rfl rfl () trivial rfl iM
end
end Go.Proofs.YtmlfcfbblfcpdaaGreat.Sp
/- What the space laws share: the acts. -/
namespace Go.Proofs.YtmlfcfbblfcpdaaGreat.Sp
open Go Go.Sl Go.RowKit Go.Proofs Go.Proofs.YtmlfcfbblfcpdaaGreat.T Go.Proofs.YtmlfcfbblfcpdaaGreat.Me Go.Proofs.YtmlfcfbblfcpdaaGreat.Pe Go.Proofs.YtmlfcfbblfcpdaaGreat.Pg
set_option maxRecDepth 100000
structure SSec where
  Page : Int
  Perm : Int
  Bytesa : Option Go.Addr
  Bytesc : Nat
  Bytes : List UInt8
def SSec.cells (o : SSec) : List Value := [.int .i64 o.Page, .int .i64 o.Perm, .slice o.Bytesa o.Bytes.length o.Bytesc]
structure SSec.OK (W : World) (o : SSec) : Prop where
  mk ::
  Page : (Lit.int .i64 o.Page).wf = true
  Perm : (Lit.int .i64 o.Perm).wf = true
  Bytesc : o.Bytes.length ≤ o.Bytesc
  Bytes : SlAt W 1 o.Bytesa o.Bytes.length (bytesV o.Bytes)
  Bytesm : o.Bytes.length ≤ reachBytes
theorem SSec.opn (W : World) : Opn Tryz.prog W 82 (fun cs => ∃ o : SSec, cs = o.cells ∧ o.OK W) := (Opn.of_fields Tryz.underlying82 (by kernel_rfl) (by kernel_rfl) (.cons (s := 1) (Opn.int Tryz.underlying3) (.cons (s := 1) (Opn.int Tryz.underlying3) (.cons (s := 1) (Opn.bytes Tryz.underlying32 Tryz.underlying5 (by kernel_rfl) (by kernel_rfl)) .nil)))).mono fun cs h => by
  obtain ⟨_, _, rfl, _, ⟨xPage, rfl, wPage⟩, ⟨_, _, rfl, _, ⟨xPerm, rfl, wPerm⟩, ⟨_, _, rfl, _, ⟨xBytesa, xBytesc, xBytes, rfl, wBytesc, wBytes, wBytesm⟩, rfl⟩⟩⟩ := h
  exact ⟨⟨xPage, xPerm, xBytesa, xBytesc, xBytes⟩, rfl, ⟨wPage, wPerm, wBytesc, wBytes, wBytesm⟩⟩
theorem SSec.len (o : SSec) : o.cells.length = 3 := rfl
theorem SSec.ones (o : SSec) : ∀ v ∈ o.cells, one v = true := by simp [SSec.cells, one]
theorem SSec.list (W : World) : Opn Tryz.prog W 33 (fun cs => ∃ a c, ∃ xs : List SSec, cs = [.slice a xs.length c] ∧ xs.length ≤ c ∧ (∀ x ∈ xs, SSec.OK W x) ∧ SlAt W 3 a xs.length ((xs.map SSec.cells).flatten) ∧ xs.length * 40 ≤ reachBytes) :=
  Opn.recs (sz := 3) (by' := 40) Tryz.underlying33 (by kernel_rfl) (by decide) (by kernel_rfl) (SSec.opn W)
structure SOp where
  Kind : Int
  Who : Int
  Page : Int
  Perm : Int
  Addr : Int
  Size : Int
  V : Int
  Ba : Option Go.Addr
  Bc : Nat
  B : List UInt8
  I_Entry : Int
  I_Sectionsa : Option Go.Addr
  I_Sectionsc : Nat
  I_Sections : List SSec
def SOp.cells (o : SOp) : List Value := [.int .i64 o.Kind, .int .i64 o.Who, .int .i64 o.Page, .int .i64 o.Perm, .int .u32 o.Addr, .int .i64 o.Size, .int .u64 o.V, .slice o.Ba o.B.length o.Bc, .int .u32 o.I_Entry, .slice o.I_Sectionsa o.I_Sections.length o.I_Sectionsc]
structure SOp.OK (W : World) (o : SOp) : Prop where
  mk ::
  Kind : (Lit.int .i64 o.Kind).wf = true
  Who : (Lit.int .i64 o.Who).wf = true
  Page : (Lit.int .i64 o.Page).wf = true
  Perm : (Lit.int .i64 o.Perm).wf = true
  Addr : (Lit.int .u32 o.Addr).wf = true
  Size : (Lit.int .i64 o.Size).wf = true
  V : (Lit.int .u64 o.V).wf = true
  Bc : o.B.length ≤ o.Bc
  B : SlAt W 1 o.Ba o.B.length (bytesV o.B)
  Bm : o.B.length ≤ reachBytes
  I_Entry : (Lit.int .u32 o.I_Entry).wf = true
  I_Sectionsc : o.I_Sections.length ≤ o.I_Sectionsc
  I_Sectionsk : ∀ x ∈ o.I_Sections, SSec.OK W x
  I_Sections : SlAt W 3 o.I_Sectionsa o.I_Sections.length ((o.I_Sections.map SSec.cells).flatten)
  I_Sectionsm : o.I_Sections.length * 40 ≤ reachBytes
theorem SOp.opn (W : World) : Opn Tryz.prog W 37 (fun cs => ∃ o : SOp, cs = o.cells ∧ o.OK W) := (Opn.of_fields Tryz.underlying37 (by kernel_rfl) (by kernel_rfl) (.cons (s := 1) (Opn.int Tryz.underlying3) (.cons (s := 1) (Opn.int Tryz.underlying3) (.cons (s := 1) (Opn.int Tryz.underlying3) (.cons (s := 1) (Opn.int Tryz.underlying3) (.cons (s := 1) (Opn.int Tryz.underlying30) (.cons (s := 1) (Opn.int Tryz.underlying3) (.cons (s := 1) (Opn.int Tryz.underlying31) (.cons (s := 1) (Opn.bytes Tryz.underlying32 Tryz.underlying5 (by kernel_rfl) (by kernel_rfl)) (.cons (s := 2) (Opn.of_fields Tryz.underlying35 (by kernel_rfl) (by kernel_rfl) (.cons (s := 1) (Opn.int Tryz.underlying30) (.cons (s := 1) (Opn.recs (sz := 3) (by' := 40) Tryz.underlying33 (by kernel_rfl) (by decide) (by kernel_rfl) (SSec.opn W)) .nil))) .nil)))))))))).mono fun cs h => by
  obtain ⟨_, _, rfl, _, ⟨xKind, rfl, wKind⟩, ⟨_, _, rfl, _, ⟨xWho, rfl, wWho⟩, ⟨_, _, rfl, _, ⟨xPage, rfl, wPage⟩, ⟨_, _, rfl, _, ⟨xPerm, rfl, wPerm⟩, ⟨_, _, rfl, _, ⟨xAddr, rfl, wAddr⟩, ⟨_, _, rfl, _, ⟨xSize, rfl, wSize⟩, ⟨_, _, rfl, _, ⟨xV, rfl, wV⟩, ⟨_, _, rfl, _, ⟨xBa, xBc, xB, rfl, wBc, wB, wBm⟩, ⟨_, _, rfl, _, ⟨_, _, rfl, _, ⟨xI_Entry, rfl, wI_Entry⟩, ⟨_, _, rfl, _, ⟨xI_Sectionsa, xI_Sectionsc, xI_Sections, rfl, wI_Sectionsc, wI_Sectionsk, wI_Sections, wI_Sectionsm⟩, rfl⟩⟩, rfl⟩⟩⟩⟩⟩⟩⟩⟩⟩ := h
  exact ⟨⟨xKind, xWho, xPage, xPerm, xAddr, xSize, xV, xBa, xBc, xB, xI_Entry, xI_Sectionsa, xI_Sectionsc, xI_Sections⟩, rfl, ⟨wKind, wWho, wPage, wPerm, wAddr, wSize, wV, wBc, wB, wBm, wI_Entry, wI_Sectionsc, wI_Sectionsk, wI_Sections, wI_Sectionsm⟩⟩
theorem SOp.len (o : SOp) : o.cells.length = 10 := rfl
theorem SOp.ones (o : SOp) : ∀ v ∈ o.cells, one v = true := by simp [SOp.cells, one]
theorem SOp.list (W : World) : Opn Tryz.prog W 23 (fun cs => ∃ a c, ∃ xs : List SOp, cs = [.slice a xs.length c] ∧ xs.length ≤ c ∧ (∀ x ∈ xs, SOp.OK W x) ∧ SlAt W 10 a xs.length ((xs.map SOp.cells).flatten) ∧ xs.length * 112 ≤ reachBytes) :=
  Opn.recs (sz := 10) (by' := 112) Tryz.underlying23 (by kernel_rfl) (by decide) (by kernel_rfl) (SOp.opn W)
theorem unmap_two (o : Ob) (k : Nat) (p : Int) : ((unmapO o k p).1 ≠ 0 ∧ (unmapO o k p).2 = o ∧ vI o k p = none) ∨ (∃ (q : Nat) (x : Nat × List UInt8), p = q ∧ q < 4096 ∧ o.vw k q = some x ∧ unmapO o k p = (0, ⟨up2 o.vw k q none, o.ts, o.fr + 1⟩)) := by
  unfold unmapO vI
  by_cases h : 0 ≤ p ∧ p < 4096
  · rw [if_neg (fun q => q h), if_pos h]
    cases hx : o.vw k p.toNat with
    | none => exact .inl ⟨by rw [if_neg (by simp)]; exact (show (90 : Int) ≠ 0 by decide), by rw [if_neg (by simp)], rfl⟩
    | some x => exact .inr ⟨p.toNat, x, by omega, by omega, hx, if_pos rfl⟩
  · rw [if_pos h, if_neg h]; exact .inl ⟨show (2 : Int) ≠ 0 by decide, rfl, rfl⟩
theorem write_some (o : Ob) (k ad : Nat) (sz : Int) (v : Nat) : (∀ k' p, ((writeO o k ad sz v).2.vw k' p).isSome = (o.vw k' p).isSome) ∧ (writeO o k ad sz v).2.ts = o.ts ∧ (∀ k' p, k' ≠ k → (writeO o k ad sz v).2.vw k' p = o.vw k' p) ∧ (writeO o k ad sz v).2.fr = o.fr := by
  unfold writeO
  split
  · exact ⟨fun _ _ => rfl, rfl, fun _ _ _ => rfl, rfl⟩
  split
  · exact ⟨fun _ _ => rfl, rfl, fun _ _ _ => rfl, rfl⟩
  split
  · exact ⟨fun _ _ => rfl, rfl, fun _ _ _ => rfl, rfl⟩
  cases hx : o.vw k (ad / 256) with
  | none => exact ⟨fun _ _ => rfl, rfl, fun _ _ _ => rfl, rfl⟩
  | some x =>
    simp only
    split
    · refine ⟨fun k' p => ?_, rfl, fun k' p hne => up2_ne (fun q => hne q.1), rfl⟩
      dsimp only
      by_cases h : k' = k ∧ p = ad / 256
      · obtain ⟨rfl, rfl⟩ := h; rw [up2_at, hx]; rfl
      · rw [up2_ne h]
    · exact ⟨fun _ _ => rfl, rfl, fun _ _ _ => rfl, rfl⟩
theorem used_some {o o' : Ob} (h1 : ∀ k p, (o'.vw k p).isSome = (o.vw k p).isSome) (h2 : o'.ts = o.ts) (k : Nat) : used o' k = used o k := by
  unfold used
  rw [h2, cN_congr 4096 fun p _ => h1 k p]
end Go.Proofs.YtmlfcfbblfcpdaaGreat.Sp
