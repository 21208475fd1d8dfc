/- TlbKeeps: as long as there are not more translations than lines each is found, and one more gives up just one: the law returns true and changes nothing that was there. -/
import Derived.Test.YtjdaglakhiifjaaTkeep
import Derived.Test.YtjdaglakhiifjaaRows
namespace Go.Proofs.Ytjdaglakhiifjaa.Tl
open Go Go.Sl Go.RowKit Go.Proofs Go.Proofs.Ytjdaglakhiifjaa.T
set_option linter.unusedVariables false
set_option linter.unusedSimpArgs false
set_option maxRecDepth 100000
section
variable (W0 : World) (Fr : List HProp)
theorem num_spec (n : Int) : Ctr Try.prog W0 15 [.int .i64 n] Fr (fun _ : Unit => True) (fun _ => .int .i64 n) (fun _ => Fr) := by
  refine Ctr.of_body Try.func15 rfl Try.ntmps15 rfl ?_
  refine CG.seq ?_
  refine CG.region ?_
  refine OG.yield (Yield.assign rfl) rfl ?_
  refine OG.nil ?_
  refine QG.then ?_
  refine CG.seq ?_
  refine CG.region ?_
  refine OG.yield (Yield.move rfl) rfl ?_
  refine OG.yield (Yield.assign rfl) rfl ?_
  refine OG.nil ?_
  refine QG.then ?_
  refine CG.ret ?_
  exact QG.ret1 rfl rfl () trivial rfl (Imp.refl _)
theorem works_spec : Ctr Try.prog W0 13 [] Fr (fun _ : Unit => True) (fun _ => .bool true) (fun _ => Fr) := by
  refine Ctr.of_body Try.func13 rfl Try.ntmps13 rfl ?_
  refine CG.seq ?_
  refine CG.region ?_
  refine OG.yield (Yield.assign rfl) rfl ?_
  refine OG.nil ?_
  refine QG.then ?_
  refine CG.seq ?_
  refine CG.region ?_
  refine OG.callo call14 rfl ((by repeat (first | exact Imp.refl _ | exact Imp.none _ | apply Imp.pull (by repeat (first | exact Ext.here | apply Ext.there)) | apply Imp.trans Imp.drop))) (new_spec W0 Fr (n := 2) (by decide) (by decide)) rfl ?_
  rintro t -
  refine OG.yield (Yield.move rfl) rfl ?_
  refine OG.yield (Yield.extract rfl rfl) rfl ?_
  refine OG.yield (Yield.extract rfl rfl) rfl ?_
  refine OG.yield (Yield.assign rfl) rfl ?_
  refine OG.yield (Yield.assign rfl) rfl ?_
  refine OG.nil ?_
  refine QG.then ?_
  refine CG.seq ?_
  refine CG.seq ?_
  refine CG.region ?_
  refine OG.yield (Yield.move rfl) rfl ?_
  refine OG.callo call15 rfl (Imp.refl _) (num_spec W0 _ _) rfl ?_
  rintro ⟨⟩ -
  refine OG.yield (by first | exact Yield.as (Yield.neq rfl rfl) (bT (by omega)) | exact Yield.as (Yield.neq rfl rfl) (bF (by omega)) | exact Yield.neq rfl rfl) rfl ?_
  refine OG.yield (Yield.move rfl) rfl ?_
  refine OG.guard_yes rfl rfl rfl (by decide) ?_
  refine OG.yield (Yield.move rfl) rfl ?_
  refine OG.guard_yes rfl rfl rfl (by decide) ?_
  refine OG.yield (by first | exact Yield.ptr_nil Try.underlying25 rfl rfl | exact Yield.nil_nil Try.underlying25 rfl rfl) rfl ?_
  refine OG.yield (by first | exact Yield.pick_t rfl rfl | exact Yield.pick_f rfl rfl | exact Yield.pick rfl (fun _ => rfl) (fun _ => rfl)) rfl ?_
  refine OG.nil ?_
  refine QG.then ?_
  refine CG.cond_f rfl ?_
  refine CG.skip ?_
  refine QG.then ?_
  refine CG.seq ?_
  refine CG.region ?_
  refine OG.yield (Yield.move rfl) rfl ?_
  refine OG.callo call16 rfl ((by repeat (first | exact Imp.refl _ | exact Imp.none _ | apply Imp.pull (by repeat (first | exact Ext.here | apply Ext.there)) | apply Imp.trans Imp.drop))) (put_spec W0 Fr 1 5 9 3 (by decide) (by decide)) rfl ?_
  rintro ⟨⟩ -
  rw [show putL (List.replicate 2 Slot.zero) 0 ⟨true, 1, 5, 9, 3⟩ = ([⟨true, 1, 5, 9, 3⟩, Slot.zero], 0) by decide]
  refine OG.nil ?_
  refine QG.then ?_
  refine CG.seq ?_
  refine CG.region ?_
  refine OG.yield (Yield.move rfl) rfl ?_
  refine OG.callo call16 rfl ((by repeat (first | exact Imp.refl _ | exact Imp.none _ | apply Imp.pull (by repeat (first | exact Ext.here | apply Ext.there)) | apply Imp.trans Imp.drop))) (put_spec W0 Fr 1 6 8 1 (by decide) (by decide)) rfl ?_
  rintro ⟨⟩ -
  rw [show putL [⟨true, 1, 5, 9, 3⟩, Slot.zero] 0 ⟨true, 1, 6, 8, 1⟩ = ([⟨true, 1, 5, 9, 3⟩, ⟨true, 1, 6, 8, 1⟩], 0) by decide]
  refine OG.nil ?_
  refine QG.then ?_
  refine CG.seq ?_
  refine CG.region ?_
  refine OG.yield (Yield.move rfl) rfl ?_
  refine OG.callo call16 rfl ((by repeat (first | exact Imp.refl _ | exact Imp.none _ | apply Imp.pull (by repeat (first | exact Ext.here | apply Ext.there)) | apply Imp.trans Imp.drop))) (put_spec W0 Fr 2 5 7 1 (by decide) (by decide)) rfl ?_
  rintro ⟨⟩ -
  rw [show putL [⟨true, 1, 5, 9, 3⟩, ⟨true, 1, 6, 8, 1⟩] 0 ⟨true, 2, 5, 7, 1⟩ = ([⟨true, 2, 5, 7, 1⟩, ⟨true, 1, 6, 8, 1⟩], 1) by decide]
  refine OG.nil ?_
  refine QG.then ?_
  refine CG.seq ?_
  refine CG.region ?_
  refine OG.yield (Yield.move rfl) rfl ?_
  refine OG.callo call17 rfl ((by repeat (first | exact Imp.refl _ | exact Imp.none _ | apply Imp.pull (by repeat (first | exact Ext.here | apply Ext.there)) | apply Imp.trans Imp.drop))) (look_miss W0 Fr 1 5 (by decide) (by decide) (by decide)) rfl ?_
  rintro ⟨⟩ -
  refine OG.yield (Yield.move rfl) rfl ?_
  refine OG.yield (Yield.extract rfl rfl) rfl ?_
  refine OG.yield (Yield.extract rfl rfl) rfl ?_
  refine OG.yield (Yield.extract rfl rfl) rfl ?_
  refine OG.yield (Yield.assign rfl) rfl ?_
  refine OG.yield (Yield.assign rfl) rfl ?_
  refine OG.yield (Yield.assign rfl) rfl ?_
  refine OG.nil ?_
  refine QG.then ?_
  refine CG.seq ?_
  refine CG.region ?_
  refine OG.yield (Yield.move rfl) rfl ?_
  refine OG.callo call17 rfl ((by repeat (first | exact Imp.refl _ | exact Imp.none _ | apply Imp.pull (by repeat (first | exact Ext.here | apply Ext.there)) | apply Imp.trans Imp.drop))) (look_hit W0 Fr 1 6 (by decide) (by decide) (i := 1) (s := ⟨true, 1, 6, 8, 1⟩) (by decide) rfl) rfl ?_
  rintro ⟨⟩ -
  refine OG.yield (Yield.move rfl) rfl ?_
  refine OG.yield (Yield.extract rfl rfl) rfl ?_
  refine OG.yield (Yield.extract rfl rfl) rfl ?_
  refine OG.yield (Yield.extract rfl rfl) rfl ?_
  refine OG.yield (Yield.assign rfl) rfl ?_
  refine OG.yield (Yield.assign rfl) rfl ?_
  refine OG.yield (Yield.assign rfl) rfl ?_
  refine OG.nil ?_
  refine QG.then ?_
  refine CG.seq ?_
  refine CG.region ?_
  refine OG.yield (Yield.move rfl) rfl ?_
  refine OG.callo call17 rfl ((by repeat (first | exact Imp.refl _ | exact Imp.none _ | apply Imp.pull (by repeat (first | exact Ext.here | apply Ext.there)) | apply Imp.trans Imp.drop))) (look_hit W0 Fr 2 5 (by decide) (by decide) (i := 0) (s := ⟨true, 2, 5, 7, 1⟩) (by decide) rfl) rfl ?_
  rintro ⟨⟩ -
  refine OG.yield (Yield.move rfl) rfl ?_
  refine OG.yield (Yield.extract rfl rfl) rfl ?_
  refine OG.yield (Yield.extract rfl rfl) rfl ?_
  refine OG.yield (Yield.extract rfl rfl) rfl ?_
  refine OG.yield (Yield.assign rfl) rfl ?_
  refine OG.yield (Yield.assign rfl) rfl ?_
  refine OG.yield (Yield.assign rfl) rfl ?_
  refine OG.nil ?_
  refine QG.then ?_
  refine CG.seq ?_
  refine CG.region ?_
  refine OG.yield (Yield.move rfl) rfl ?_
  refine OG.yield (Yield.not rfl) rfl ?_
  refine OG.yield (Yield.move rfl) rfl ?_
  refine OG.guard_yes rfl rfl rfl (by decide) ?_
  refine OG.yield (Yield.move rfl) rfl ?_
  refine OG.yield (by first | exact Yield.pick_t rfl rfl | exact Yield.pick_f rfl rfl | exact Yield.pick rfl (fun _ => rfl) (fun _ => rfl)) rfl ?_
  refine OG.yield (Yield.move rfl) rfl ?_
  refine OG.guard_yes rfl rfl rfl (by decide) ?_
  refine OG.yield (Yield.move rfl) rfl ?_
  refine OG.guard_yes rfl rfl rfl (by decide) ?_
  refine OG.yield (by first | exact Yield.as (Yield.eql rfl rfl) (bT (by omega)) | exact Yield.as (Yield.eql rfl rfl) (bF (by omega)) | exact Yield.eql rfl rfl) rfl ?_
  refine OG.yield (by first | exact Yield.pick_t rfl rfl | exact Yield.pick_f rfl rfl | exact Yield.pick rfl (fun _ => rfl) (fun _ => rfl)) rfl ?_
  refine OG.yield (Yield.move rfl) rfl ?_
  refine OG.guard_yes rfl rfl rfl (by decide) ?_
  refine OG.yield (Yield.move rfl) rfl ?_
  refine OG.guard_yes rfl rfl rfl (by decide) ?_
  refine OG.yield (by first | exact Yield.as (Yield.eql rfl rfl) (bT (by omega)) | exact Yield.as (Yield.eql rfl rfl) (bF (by omega)) | exact Yield.eql rfl rfl) rfl ?_
  refine OG.yield (by first | exact Yield.pick_t rfl rfl | exact Yield.pick_f rfl rfl | exact Yield.pick rfl (fun _ => rfl) (fun _ => rfl)) rfl ?_
  refine OG.yield (Yield.move rfl) rfl ?_
  refine OG.guard_yes rfl rfl rfl (by decide) ?_
  refine OG.yield (Yield.move rfl) rfl ?_
  refine OG.yield (by first | exact Yield.pick_t rfl rfl | exact Yield.pick_f rfl rfl | exact Yield.pick rfl (fun _ => rfl) (fun _ => rfl)) rfl ?_
  refine OG.yield (Yield.move rfl) rfl ?_
  refine OG.guard_yes rfl rfl rfl (by decide) ?_
  refine OG.yield (Yield.move rfl) rfl ?_
  refine OG.guard_yes rfl rfl rfl (by decide) ?_
  refine OG.yield (by first | exact Yield.as (Yield.eql rfl rfl) (bT (by omega)) | exact Yield.as (Yield.eql rfl rfl) (bF (by omega)) | exact Yield.eql rfl rfl) rfl ?_
  refine OG.yield (by first | exact Yield.pick_t rfl rfl | exact Yield.pick_f rfl rfl | exact Yield.pick rfl (fun _ => rfl) (fun _ => rfl)) rfl ?_
  refine OG.yield (Yield.assign rfl) rfl ?_
  refine OG.nil ?_
  refine QG.then ?_
  refine CG.ret ?_
  exact QG.ret1 rfl rfl () trivial rfl (by repeat (first | exact Imp.refl _ | exact Imp.none _ | apply Imp.pull (by repeat (first | exact Ext.here | apply Ext.there)) | apply Imp.trans Imp.drop))
end
end Go.Proofs.Ytjdaglakhiifjaa.Tl
namespace Go.Proofs.Ytjdaglakhiifjaa.tlbKeeps
open Go Go.Sl Go.RowKit Go.Proofs Go.Proofs.Ytjdaglakhiifjaa.T Go.Proofs.Ytjdaglakhiifjaa.Tl
set_option linter.unusedVariables false
set_option linter.unusedSimpArgs false
set_option maxRecDepth 100000
structure St where
  i : Nat
  put : List Int
  a : Option Addr
  c : Nat
  l : List Slot
  hand : Nat
  hits : Nat
  miss : Nat
abbrev oin (a : Option Addr) (c : Nat) (xs : List Int) : HProp := osl 3 1 a c xs.length ((xs.map (intC .i64)).flatten)
def St.env (n : Nat) (tag : Int) (a2 : Option Addr) (m c2 t : Nat) (s : St) : Env := [(0, .int .i64 n), (1, .int .i64 tag), (2, .slice a2 m c2), (7, .pointer (some ⟨t, 0, none⟩)), (9, .slice s.a s.put.length s.c), (10, .int .i64 s.i)]
abbrev St.G (W : World) (t : Nat) (s : St) : List HProp := [T t s.l s.hand s.hits s.miss, oin s.a s.c s.put, old W]
structure St.OK (n : Nat) (tag : Int) (m : Nat) (s : St) : Prop where
  hk : Keeps tag n s.put s.l
  hh : s.hand < n
  pl : s.put.length ≤ n + 1
  b : s.hits + s.miss ≤ 1000 * s.i
  im : s.i ≤ m
theorem keeps0 {tag : Int} {n : Nat} : Keeps tag n [] (List.replicate n Slot.zero) := by
  have h : up (List.replicate n Slot.zero) = [] := by
    unfold up
    rw [List.filter_eq_nil_iff.2 (fun s hs => by rw [List.eq_of_mem_replicate hs]; decide)]; rfl
  exact ⟨by simp, fun s hs hu => (by rw [List.eq_of_mem_replicate hs] at hu; cases hu), by rw [h]; simp, by rw [h]; simp, by simp, by rw [h]; simp⟩
theorem take_succ {α : Type} {xs : List α} {k : Nat} {x : α} (h : xs[k]? = some x) : xs.take (k + 1) = xs.take k ++ [x] := by
  obtain ⟨hk, e⟩ := List.getElem?_eq_some_iff.1 h
  rw [List.take_succ_eq_append_getElem hk, e]
theorem look_cases {tag : Int} {l : List Slot} (ht : ∀ s ∈ l, s.used = true → s.tag = tag) (p : Int) : (∃ i s, l.findIdx? (hitB tag p) = some i ∧ l[i]? = some s ∧ p ∈ up l) ∨ (l.findIdx? (hitB tag p) = none ∧ p ∉ up l) := by
  cases h : l.findIdx? (hitB tag p) with
  | none => exact .inr ⟨rfl, (find_none ht).1 h⟩
  | some i =>
    obtain ⟨h1, h2, _⟩ := List.findIdx?_eq_some_iff_getElem.1 h
    simp only [hitB, Bool.and_eq_true, beq_iff_eq] at h2
    exact .inl ⟨i, l[i], rfl, by simp [h1], mem_up.2 ⟨l[i], List.getElem_mem h1, h2.1, h2.2.2⟩⟩
theorem ints_append (xs : List Int) (x : Int) : ((xs.map (intC .i64)).flatten) ++ [Value.int .i64 x] = (((xs ++ [x]).map (intC .i64)).flatten) := by simp [intC]
theorem ints_ones (xs : List Int) : ∀ v ∈ ((xs.map (intC .i64)).flatten), one v = true := by
  intro v hv; simp only [List.mem_flatten, List.mem_map, intC] at hv
  obtain ⟨l, ⟨x, _, rfl⟩, hv⟩ := hv
  simp only [List.mem_singleton] at hv; subst hv; rfl
set_option maxHeartbeats 4000000 in
theorem walk (W : World) {n0 tag : Int} {a2 : Option Addr} {c2 : Nat} {pages : List Int} (hpg : SlAt W 1 a2 pages.length ((pages.map (intC .i64)).flatten)) :
    Ctr Try.prog W 3 [.int .i64 n0, .int .i64 tag, .slice a2 pages.length c2] [old W] (fun _ : Unit => True) (fun _ => .bool true) (fun _ => [old W]) := by
  have hw := wrap_u64_range n0
  refine Ctr.of_body Try.func3 rfl Try.ntmps3 rfl ?_
  refine CG.seq ?_
  refine CG.region ?_
  refine OG.yield (Yield.assign rfl) rfl ?_
  refine OG.nil ?_
  refine QG.then ?_
  refine CG.seq ?_
  refine CG.seq ?_
  refine CG.region ?_
  refine OG.callo call13 rfl (Imp.refl _) (works_spec W _) rfl ?_
  rintro ⟨⟩ -
  refine OG.yield (Yield.not rfl) rfl ?_
  refine OG.nil ?_
  refine QG.then ?_
  refine CG.cond_f rfl ?_
  refine CG.skip ?_
  refine QG.then ?_
  refine CG.seq ?_
  refine CG.region ?_
  refine OG.yield (Yield.move rfl) rfl ?_
  refine OG.yield (Yield.conv Try.underlying24 rfl rfl rfl) rfl ?_
  generalize IntKind.u64.wrap n0 = wr at hw ⊢
  refine OG.yield (Yield.rem rfl rfl (by omega) (tmod_pos (by omega) (by omega))) rfl ?_
  refine OG.yield (Yield.conv (c := wr % 20) Try.underlying3 rfl rfl (w64 (by omega) (by omega))) rfl ?_
  refine OG.yield (Yield.add rfl rfl (w64 (by omega) (by omega))) rfl ?_
  refine OG.yield (Yield.assign rfl) rfl ?_
  refine OG.nil ?_
  obtain ⟨n, hn⟩ : ∃ n : Nat, 1 + wr % 20 = (n : Int) := ⟨(1 + wr % 20).toNat, by omega⟩
  rw [hn]
  have hn1 : 1 ≤ n ∧ n ≤ 20 := by omega
  refine QG.then ?_
  refine CG.seq ?_
  refine CG.region ?_
  refine OG.yield (Yield.move rfl) rfl ?_
  refine OG.callo call14 rfl ((by repeat (first | exact Imp.refl _ | exact Imp.none _ | apply Imp.pull (by repeat (first | exact Ext.here | apply Ext.there)) | apply Imp.trans Imp.drop))) (new_spec W _ hn1.1 (by omega)) rfl ?_
  rintro t -
  refine OG.yield (Yield.move rfl) rfl ?_
  refine OG.yield (Yield.extract rfl rfl) rfl ?_
  refine OG.yield (Yield.extract rfl rfl) rfl ?_
  refine OG.yield (Yield.assign rfl) rfl ?_
  refine OG.yield (Yield.assign rfl) rfl ?_
  refine OG.nil ?_
  refine QG.then ?_
  refine CG.seq ?_
  refine CG.seq ?_
  rcases (show pages.length ≤ 200 ∨ 200 < pages.length by omega) with hp | hp
  · skip
    refine CG.region ?_
    refine OG.yield (Yield.move rfl) rfl ?_
    refine OG.callo call15 rfl (Imp.refl _) (num_spec W _ _) rfl ?_
    rintro ⟨⟩ -
    refine OG.yield (by first | exact Yield.as (Yield.neq rfl rfl) (bT (by omega)) | exact Yield.as (Yield.neq rfl rfl) (bF (by omega)) | exact Yield.neq rfl rfl) rfl ?_
    refine OG.yield (Yield.move rfl) rfl ?_
    refine OG.guard_yes rfl rfl rfl (by decide) ?_
    refine OG.yield (Yield.move rfl) rfl ?_
    refine OG.guard_yes rfl rfl rfl (by decide) ?_
    refine OG.yield (by first | exact Yield.ptr_nil Try.underlying25 rfl rfl | exact Yield.nil_nil Try.underlying25 rfl rfl) rfl ?_
    refine OG.yield (by first | exact Yield.pick_t rfl rfl | exact Yield.pick_f rfl rfl | exact Yield.pick rfl (fun _ => rfl) (fun _ => rfl)) rfl ?_
    refine OG.yield (Yield.move rfl) rfl ?_
    refine OG.guard_yes rfl rfl rfl (by decide) ?_
    refine OG.yield (Yield.move rfl) rfl ?_
    refine OG.guard_yes rfl rfl rfl (by decide) ?_
    refine OG.yield (Yield.len_slice Try.underlying22 rfl rfl) rfl ?_
    refine OG.guard_yes rfl rfl rfl (by decide) ?_
    refine OG.yield (by first | exact Yield.as (Yield.gtr rfl rfl) (bT (by omega)) | exact Yield.as (Yield.gtr rfl rfl) (bF (by omega)) | exact Yield.gtr rfl rfl) rfl ?_
    refine OG.yield (by first | exact Yield.pick_t rfl rfl | exact Yield.pick_f rfl rfl | exact Yield.pick rfl (fun _ => rfl) (fun _ => rfl)) rfl ?_
    refine OG.nil ?_
    refine QG.then ?_
    refine CG.cond_f rfl ?_
    refine CG.skip ?_
    refine QG.then ?_
    refine CG.seq ?_
    refine CG.region ?_
    refine OG.yield (Yield.assign rfl) rfl ?_
    refine OG.nil ?_
    refine QG.then ?_
    refine CG.seq ?_
    refine CG.seq ?_
    refine CG.region ?_
    refine OG.yield (Yield.assign rfl) rfl ?_
    refine OG.nil ?_
    refine QG.then ?_
    refine CG.block ?_
    refine CG.loop (fun s : St => s.OK n tag pages.length) (St.env n tag a2 pages.length c2 t) (St.G W t) (fun s => pages.length - s.i) ⟨0, [], none, 0, List.replicate n Slot.zero, 0, 0, 0⟩ ⟨keeps0, hn1.1, by simp, by simp, Nat.zero_le _⟩ (by repeat (first | exact Env.sub_nil _ | refine Env.sub_cons rfl ?_)) (Imp.trans (osl_nil (E := 3) (sz := 1)) (by repeat (first | exact Imp.refl _ | exact Imp.none _ | apply Imp.pull (by repeat (first | exact Ext.here | apply Ext.there)) | apply Imp.trans Imp.drop))) ?_
    rintro ⟨i, put, a, c, l, hand, hits, miss⟩ ⟨hk, hh, pl, hb, im⟩
    unfold St.env
    dsimp only at hk hh pl hb im ⊢
    refine CG.seq ?_
    refine CG.seq ?_
    refine CG.region ?_
    refine OG.yield (Yield.move rfl) rfl ?_
    refine OG.yield (Yield.move rfl) rfl ?_
    refine OG.yield (Yield.len_slice Try.underlying22 rfl rfl) rfl ?_
    refine OG.yield (by first | exact Yield.as (Yield.lss rfl rfl) (bT (by omega)) | exact Yield.as (Yield.lss rfl rfl) (bF (by omega)) | exact Yield.lss rfl rfl) rfl ?_
    refine OG.nil ?_
    refine QG.then ?_
    refine CG.cond rfl (fun hc => ?_) (fun hc => ?_)
    · try replace hc := of_decide_eq_true hc
      refine CG.skip ?_
      refine QG.then ?_
      refine CG.seq ?_
      refine CG.block ?_
      have h1 : i < pages.length := by omega
      have hget : pages[i]? = some pages[i] := by simp [h1]
      generalize pages[i] = page at hget
      refine CG.pure (fun w hw => (hpg.old (G := St.G W t ⟨i, put, a, c, l, hand, hits, miss⟩) (by repeat (first | exact Ext.here | apply Ext.there))).elem_shape (fun _ => rfl) (by decide) h1 w hw) ?_
      rintro ⟨b, o, rfl⟩
      have hrow : ∀ {G R : List HProp}, Ext G (old W) R → Row W G b (o + i * 1) (intC .i64 page) := fun x => (hpg.old x).elem (fun _ => rfl) hget
      refine CG.seq ?_
      refine CG.region ?_
      refine OG.yield (Yield.assign rfl) rfl ?_
      refine OG.nil ?_
      refine QG.then ?_
      refine CG.seq ?_
      refine CG.seq ?_
      refine CG.region ?_
      refine OG.yield (Yield.assign rfl) rfl ?_
      refine OG.nil ?_
      refine QG.then ?_
      refine CG.block ?_
      refine CG.loop (fun k : Nat × Bool => k.1 ≤ put.length ∧ (k.2 = true ↔ page ∈ put.take k.1)) (fun k => (11, .bool k.2) :: (12, .int .i64 k.1) :: St.env n tag (some ⟨b, o, none⟩) pages.length c2 t ⟨i, put, a, c, l, hand, hits, miss⟩) (fun _ => St.G W t ⟨i, put, a, c, l, hand, hits, miss⟩) (fun k => put.length - k.1) (0, false) ⟨Nat.zero_le _, by simp⟩ (by repeat (first | exact Env.sub_nil _ | refine Env.sub_cons rfl ?_)) (Imp.refl _) ?_
      rintro ⟨k, fb⟩ ⟨hk1, hk2⟩
      dsimp only at hk1 hk2
      unfold St.env
      dsimp only
      refine CG.seq ?_
      refine CG.seq ?_
      refine CG.region ?_
      refine OG.yield (Yield.move rfl) rfl ?_
      refine OG.yield (Yield.move rfl) rfl ?_
      refine OG.yield (Yield.len_slice Try.underlying22 rfl rfl) rfl ?_
      refine OG.yield (by first | exact Yield.as (Yield.lss rfl rfl) (bT (by omega)) | exact Yield.as (Yield.lss rfl rfl) (bF (by omega)) | exact Yield.lss rfl rfl) rfl ?_
      refine OG.nil ?_
      refine QG.then ?_
      refine CG.cond rfl (fun hc => ?_) (fun hc => ?_)
      · try replace hc := of_decide_eq_true hc
        have hk3 : k < put.length := by omega
        have hgk : put[k]? = some put[k] := by simp [hk3]
        generalize put[k] = x at hgk
        refine CG.pure (fun w hw => (SlR.of_osl (W0 := W) (E := 3) (sz := 1) (a := a) (c := c) (m := put.length) (xs := (put.map (intC .i64)).flatten) (by repeat (first | exact Ext.here | apply Ext.there))).elem_shape (fun _ => rfl) (by decide) hk3 w hw) ?_
        rintro ⟨b2, o2, rfl⟩
        refine CG.skip ?_
        refine QG.then ?_
        refine CG.seq ?_
        refine CG.block ?_
        rcases Bool.eq_false_or_eq_true fb with hfb | hfb
        · skip
          subst hfb
          refine CG.draw (.look 0 1 (.look 1 1 (.look 2 1 (.look 3 1 (.look 4 1 (.look 5 1 (.look 6 1 (.look 7 1 (.look 8 1 (.look 9 1 (.look 10 1 (.look 11 1 (.look 12 1 (.done)))))))))))))) [] [] ([]) ([]) mixed (by kernel_rfl) (Imp.none _) (Imp.none _) ?_
          refine DG.look rfl rfl (Yield.move rfl) rfl ?_
          refine DG.look rfl rfl (Yield.move rfl) rfl ?_
          refine DG.pass rfl rfl rfl ?_
          refine DG.pass rfl rfl rfl ?_
          refine DG.pass rfl rfl rfl ?_
          refine DG.pass rfl rfl rfl ?_
          refine DG.pass rfl rfl rfl ?_
          refine DG.pass rfl rfl rfl ?_
          refine DG.pass rfl rfl rfl ?_
          refine DG.pass rfl rfl rfl ?_
          refine DG.pass rfl rfl rfl ?_
          refine DG.look rfl rfl (by first | exact Yield.pick_t rfl rfl | exact Yield.pick_f rfl rfl | exact Yield.pick rfl (fun _ => rfl) (fun _ => rfl)) rfl ?_
          refine DG.look rfl rfl (Yield.assign rfl) rfl ?_
          refine DG.done ?_
          refine QG.block_normal ?_
          refine QG.then ?_
          refine CG.region ?_
          refine OG.yield (Yield.move rfl) rfl ?_
          refine OG.yield (Yield.add rfl rfl (w64 (by omega) (by omega))) rfl ?_
          refine OG.yield (Yield.assign rfl) rfl ?_
          refine OG.nil ?_
          refine QG.next (k + 1, true) ⟨by simp only; omega, ?_⟩ (by simp only; omega) (by repeat (first | exact Env.sub_nil _ | refine Env.sub_cons rfl ?_)) (by repeat (first | exact Imp.refl _ | exact Imp.none _ | apply Imp.pull (by repeat (first | exact Ext.here | apply Ext.there)) | apply Imp.trans Imp.drop))
          have h3 := hk2.1 rfl
          simp only [true_iff]
          rw [take_succ hgk]; simp [h3]
        · skip
          subst hfb
          refine CG.draw (.look 0 1 (.look 1 1 (.look 2 1 (.look 3 1 (.look 4 1 (.look 5 1 (.look 6 1 (.look 7 1 (.look 8 1 (.look 9 1 (.look 10 1 (.look 11 1 (.look 12 1 (.done)))))))))))))) [] [] ([]) ([]) mixed (by kernel_rfl) (Imp.none _) (Imp.none _) ?_
          refine DG.look rfl rfl (Yield.move rfl) rfl ?_
          refine DG.look rfl rfl (Yield.move rfl) rfl ?_
          refine DG.look rfl rfl (Yield.move rfl) rfl ?_
          refine DG.look rfl rfl (Yield.move rfl) rfl ?_
          refine DG.look rfl rfl (Yield.index_slice Try.underlying22 ti3 rfl rfl (by omega) (by omega)) rfl ?_
          refine DG.look rfl rfl (Yield.load (v := .int .i64 x) ti3 rfl (((SlR.of_osl (by repeat (first | exact Ext.here | apply Ext.there))).elem (f := intC .i64) (fun _ => rfl) hgk) 0 _ rfl)) rfl ?_
          refine DG.look rfl rfl (Yield.move rfl) rfl ?_
          refine DG.look rfl rfl (Yield.move rfl) rfl ?_
          refine DG.look rfl rfl (Yield.index_slice Try.underlying22 ti3 rfl rfl (by omega) (by omega)) rfl ?_
          refine DG.look rfl rfl (Yield.load (v := .int .i64 page) ti3 rfl ((hrow (by repeat (first | exact Ext.here | apply Ext.there))) 0 _ rfl)) rfl ?_
          refine DG.look rfl rfl (Yield.eql rfl rfl) rfl ?_
          refine DG.look rfl rfl (by first | exact Yield.pick_t rfl rfl | exact Yield.pick_f rfl rfl | exact Yield.pick rfl (fun _ => rfl) (fun _ => rfl)) rfl ?_
          refine DG.look rfl rfl (Yield.assign rfl) rfl ?_
          refine DG.done ?_
          refine QG.block_normal ?_
          refine QG.then ?_
          refine CG.region ?_
          refine OG.yield (Yield.move rfl) rfl ?_
          refine OG.yield (Yield.add rfl rfl (w64 (by omega) (by omega))) rfl ?_
          refine OG.yield (Yield.assign rfl) rfl ?_
          refine OG.nil ?_
          refine QG.next (k + 1, decide (x = page)) ⟨by simp only; omega, ?_⟩ (by simp only; omega) (by repeat (first | exact Env.sub_nil _ | refine Env.sub_cons rfl ?_)) (by repeat (first | exact Imp.refl _ | exact Imp.none _ | apply Imp.pull (by repeat (first | exact Ext.here | apply Ext.there)) | apply Imp.trans Imp.drop))
          have h3 : page ∉ put.take k := fun h => by have := hk2.2 h; cases this
          simp only [decide_eq_true_eq]
          rw [take_succ hgk]; simp [h3, eq_comm]
      · try replace hc := of_decide_eq_false hc
        refine CG.exit ?_
        refine QG.pass_exit ?_
        refine QG.pass_exit ?_
        refine QG.block_exit ?_
        refine QG.then ?_
        refine CG.cut (fun x : List Int × Option Addr × Nat => x.1 = if page ∈ put then put else put ++ [page]) (fun x => St.env n tag (some ⟨b, o, none⟩) pages.length c2 t ⟨i, x.1, x.2.1, x.2.2, l, hand, hits, miss⟩) (fun x => St.G W t ⟨i, x.1, x.2.1, x.2.2, l, hand, hits, miss⟩) ?_ ?_
        · skip
          refine CG.seq ?_
          refine CG.region ?_
          refine OG.yield (Yield.move rfl) rfl ?_
          refine OG.yield (Yield.not rfl) rfl ?_
          refine OG.nil ?_
          refine QG.then ?_
          refine CG.cond rfl (fun hc => ?_) (fun hc => ?_)
          · try replace hc := of_decide_eq_true hc
            have hcf : fb = false := by simpa using hc
            have hkl : k = put.length := by omega
            subst hkl
            rw [List.take_length] at hk2
            have hnp : page ∉ put := fun h => by rw [hk2.2 h] at hcf; cases hcf
            refine CG.region ?_
            refine OG.yield (Yield.move rfl) rfl ?_
            refine OG.yield (Yield.move rfl) rfl ?_
            refine OG.yield (Yield.move rfl) rfl ?_
            refine OG.yield (Yield.index_slice Try.underlying22 ti3 rfl rfl (by omega) (by omega)) rfl ?_
            refine OG.yield (Yield.load (v := .int .i64 page) ti3 rfl ((hrow (by repeat (first | exact Ext.here | apply Ext.there))) 0 _ rfl)) rfl ?_
            refine OG.effd (Eff.lit1 Try.underlying22 ti3 rfl rfl rfl) rfl ?_
            rintro b75 -
            refine OG.effd (Eff.append (k := 1) (ys := [.int .i64 page]) rfl rfl rfl Try.underlying22 Try.underlying22 ti3 rfl (by decide) (by repeat (first | exact Foc.here | apply Foc.there)) (SlR.of_osl (by repeat (first | exact Ext.here | apply Ext.there))) (by simp [one]) (by omega)) rfl ?_
            rintro ⟨a76, c76⟩ -
            rw [show put.length + 1 = (put ++ [page]).length by simp, ints_append]
            refine OG.yield (Yield.assign rfl) rfl ?_
            refine OG.nil ?_
            exact QG.mid (put ++ [page], a76, c76) (by simp only; rw [if_neg hnp]) (by repeat (first | exact Env.sub_nil _ | refine Env.sub_cons rfl ?_)) (by repeat (first | exact Imp.refl _ | exact Imp.none _ | apply Imp.pull (by repeat (first | exact Ext.here | apply Ext.there)) | apply Imp.trans Imp.drop))
          · try replace hc := of_decide_eq_false hc
            have hcf : fb = true := by simpa using hc
            have hkl : k = put.length := by omega
            subst hkl
            rw [List.take_length] at hk2
            have hyp : page ∈ put := hk2.1 hcf
            refine CG.skip ?_
            exact QG.mid (put, a, c) (by simp only; rw [if_pos hyp]) (by repeat (first | exact Env.sub_nil _ | refine Env.sub_cons rfl ?_)) (by repeat (first | exact Imp.refl _ | exact Imp.none _ | apply Imp.pull (by repeat (first | exact Ext.here | apply Ext.there)) | apply Imp.trans Imp.drop))
        clear hk1 hk2
        rintro ⟨put', a', c'⟩ hpe
        dsimp only at hpe
        have hpl : put.length ≤ put'.length ∧ put'.length ≤ put.length + 1 := by rw [hpe]; split <;> simp
        unfold St.env
        dsimp only
        refine CG.seq ?_
        refine CG.seq ?_
        refine CG.region ?_
        refine OG.yield (Yield.move rfl) rfl ?_
        refine OG.yield (Yield.len_slice Try.underlying22 rfl rfl) rfl ?_
        refine OG.yield (Yield.move rfl) rfl ?_
        refine OG.yield (Yield.add rfl rfl (w64 (by omega) (by omega))) rfl ?_
        refine OG.yield (by first | exact Yield.as (Yield.gtr rfl rfl) (bT (by omega)) | exact Yield.as (Yield.gtr rfl rfl) (bF (by omega)) | exact Yield.gtr rfl rfl) rfl ?_
        refine OG.nil ?_
        refine QG.then ?_
        refine CG.cond rfl (fun hc => ?_) (fun hc => ?_)
        · try replace hc := of_decide_eq_true hc
          refine CG.seq ?_
          refine CG.region ?_
          refine OG.yield (Yield.assign rfl) rfl ?_
          refine OG.nil ?_
          refine QG.then ?_
          refine CG.ret ?_
          refine QG.pass_ret ?_
          refine QG.block_ret ?_
          refine QG.pass_ret ?_
          refine QG.pass_ret ?_
          refine QG.block_ret ?_
          refine QG.pass_ret ?_
          exact QG.ret1 rfl rfl () trivial rfl (by repeat (first | exact Imp.refl _ | exact Imp.none _ | apply Imp.pull (by repeat (first | exact Ext.here | apply Ext.there)) | apply Imp.trans Imp.drop))
        · try replace hc := of_decide_eq_false hc
          refine CG.skip ?_
          refine QG.then ?_
          refine CG.seq ?_
          refine CG.region ?_
          refine OG.yield (Yield.move rfl) rfl ?_
          refine OG.yield (Yield.move rfl) rfl ?_
          refine OG.yield (Yield.move rfl) rfl ?_
          refine OG.yield (Yield.move rfl) rfl ?_
          refine OG.yield (Yield.index_slice Try.underlying22 ti3 rfl rfl (by omega) (by omega)) rfl ?_
          refine OG.yield (Yield.load (v := .int .i64 page) ti3 rfl ((hrow (by repeat (first | exact Ext.here | apply Ext.there))) 0 _ rfl)) rfl ?_
          refine OG.yield (Yield.move rfl) rfl ?_
          refine OG.callo call16 rfl ((by repeat (first | exact Imp.refl _ | exact Imp.none _ | apply Imp.pull (by repeat (first | exact Ext.here | apply Ext.there)) | apply Imp.trans Imp.drop))) (put_spec W _ tag page i 7 (by rw [hk.len]; omega) (by rw [hk.len]; exact hh)) rfl ?_
          rintro ⟨⟩ -
          obtain ⟨hk', hh'⟩ := keeps_put (frame := (i : Int)) (perm := 7) hk (by rw [hk.len]; exact hh) hpe
          generalize putL l hand ⟨true, tag, page, i, 7⟩ = r at hk' hh' ⊢
          obtain ⟨l', hand'⟩ := r
          dsimp only at hk' hh' ⊢
          refine OG.nil ?_
          refine QG.then ?_
          refine CG.seq ?_
          refine CG.region ?_
          refine OG.yield (Yield.assign rfl) rfl ?_
          refine OG.nil ?_
          refine QG.then ?_
          refine CG.seq ?_
          refine CG.seq ?_
          refine CG.region ?_
          refine OG.yield (Yield.assign rfl) rfl ?_
          refine OG.nil ?_
          refine QG.then ?_
          refine CG.block ?_
          refine CG.loop (fun k : Nat × Nat × Nat => k.1 ≤ put'.length ∧ k.2.1 + k.2.2 ≤ 1000 * i + k.1) (fun k => (13, .int .i64 ((put'.take k.1).countP (fun x => decide (x ∈ up l')) : Nat)) :: (14, .int .i64 k.1) :: St.env n tag (some ⟨b, o, none⟩) pages.length c2 t ⟨i, put', a', c', l', hand', k.2.1, k.2.2⟩) (fun k => St.G W t ⟨i, put', a', c', l', hand', k.2.1, k.2.2⟩) (fun k => put'.length - k.1) (0, hits, miss) ⟨Nat.zero_le _, by simp only; omega⟩ (by repeat (first | exact Env.sub_nil _ | refine Env.sub_cons rfl ?_)) (by repeat (first | exact Imp.refl _ | exact Imp.none _ | apply Imp.pull (by repeat (first | exact Ext.here | apply Ext.there)) | apply Imp.trans Imp.drop)) ?_
          rintro ⟨k, hits, miss⟩ ⟨hk1, hk2⟩
          dsimp only at hk1 hk2
          unfold St.env
          dsimp only
          refine CG.seq ?_
          refine CG.seq ?_
          refine CG.region ?_
          refine OG.yield (Yield.move rfl) rfl ?_
          refine OG.yield (Yield.move rfl) rfl ?_
          refine OG.yield (Yield.len_slice Try.underlying22 rfl rfl) rfl ?_
          refine OG.yield (by first | exact Yield.as (Yield.lss rfl rfl) (bT (by omega)) | exact Yield.as (Yield.lss rfl rfl) (bF (by omega)) | exact Yield.lss rfl rfl) rfl ?_
          refine OG.nil ?_
          refine QG.then ?_
          refine CG.cond rfl (fun hc => ?_) (fun hc => ?_)
          · try replace hc := of_decide_eq_true hc
            refine CG.skip ?_
            refine QG.then ?_
            have hk3 : k < put'.length := by omega
            have hcp : List.countP (fun x => decide (x ∈ up l')) (put'.take k) ≤ k := Nat.le_trans List.countP_le_length (by simp; omega)
            have hgk : put'[k]? = some put'[k] := by simp [hk3]
            generalize put'[k] = x at hgk
            refine CG.pure (fun w hw => (SlR.of_osl (W0 := W) (E := 3) (sz := 1) (a := a') (c := c') (m := put'.length) (xs := (put'.map (intC .i64)).flatten) (by repeat (first | exact Ext.here | apply Ext.there))).elem_shape (fun _ => rfl) (by decide) hk3 w hw) ?_
            rintro ⟨b2, o2, rfl⟩
            refine CG.seq ?_
            refine CG.block ?_
            refine CG.seq ?_
            rcases look_cases hk'.tags x with hx | hx
            · skip
              obtain ⟨j, s, hf, hs, hin⟩ := hx
              refine CG.region ?_
              refine OG.yield (Yield.move rfl) rfl ?_
              refine OG.yield (Yield.move rfl) rfl ?_
              refine OG.yield (Yield.move rfl) rfl ?_
              refine OG.yield (Yield.move rfl) rfl ?_
              refine OG.yield (Yield.index_slice Try.underlying22 ti3 rfl rfl (by omega) (by omega)) rfl ?_
              refine OG.yield (Yield.load (v := .int .i64 x) ti3 rfl (((SlR.of_osl (by repeat (first | exact Ext.here | apply Ext.there))).elem (f := intC .i64) (fun _ => rfl) hgk) 0 _ rfl)) rfl ?_
              refine OG.callo call17 rfl ((by repeat (first | exact Imp.refl _ | exact Imp.none _ | apply Imp.pull (by repeat (first | exact Ext.here | apply Ext.there)) | apply Imp.trans Imp.drop))) (look_hit W _ (hits := hits) (miss := miss) tag x (by rw [hk'.len]; omega) (by omega) hf hs) rfl ?_
              rintro ⟨⟩ -
              refine OG.yield (Yield.move rfl) rfl ?_
              refine OG.yield (Yield.extract rfl rfl) rfl ?_
              refine OG.yield (Yield.extract rfl rfl) rfl ?_
              refine OG.yield (Yield.extract rfl rfl) rfl ?_
              refine OG.yield (Yield.assign rfl) rfl ?_
              refine OG.yield (Yield.assign rfl) rfl ?_
              refine OG.yield (Yield.assign rfl) rfl ?_
              refine OG.nil ?_
              refine QG.then ?_
              refine CG.seq ?_
              refine CG.region ?_
              refine OG.yield (Yield.move rfl) rfl ?_
              refine OG.nil ?_
              refine QG.then ?_
              refine CG.cond_t rfl ?_
              refine CG.region ?_
              refine OG.yield (Yield.move rfl) rfl ?_
              refine OG.yield (Yield.add rfl rfl (w64 (by omega) (by omega))) rfl ?_
              refine OG.yield (Yield.assign rfl) rfl ?_
              refine OG.nil ?_
              refine QG.block_normal ?_
              refine QG.then ?_
              refine CG.region ?_
              refine OG.yield (Yield.move rfl) rfl ?_
              refine OG.yield (Yield.add rfl rfl (w64 (by omega) (by omega))) rfl ?_
              refine OG.yield (Yield.assign rfl) rfl ?_
              refine OG.nil ?_
              refine QG.next (k + 1, hits + 1, miss) ⟨by simp only; omega, by simp only; omega⟩ (by simp only; omega) ?_ (by repeat (first | exact Imp.refl _ | exact Imp.none _ | apply Imp.pull (by repeat (first | exact Ext.here | apply Ext.there)) | apply Imp.trans Imp.drop))
              dsimp only
              rw [take_succ hgk, List.countP_append, show List.countP (fun x => decide (x ∈ up l')) [x] = 1 by simp [hin]]
              exact (by repeat (first | exact Env.sub_nil _ | refine Env.sub_cons rfl ?_))
            · skip
              obtain ⟨hf, hin⟩ := hx
              refine CG.region ?_
              refine OG.yield (Yield.move rfl) rfl ?_
              refine OG.yield (Yield.move rfl) rfl ?_
              refine OG.yield (Yield.move rfl) rfl ?_
              refine OG.yield (Yield.move rfl) rfl ?_
              refine OG.yield (Yield.index_slice Try.underlying22 ti3 rfl rfl (by omega) (by omega)) rfl ?_
              refine OG.yield (Yield.load (v := .int .i64 x) ti3 rfl (((SlR.of_osl (by repeat (first | exact Ext.here | apply Ext.there))).elem (f := intC .i64) (fun _ => rfl) hgk) 0 _ rfl)) rfl ?_
              refine OG.callo call17 rfl ((by repeat (first | exact Imp.refl _ | exact Imp.none _ | apply Imp.pull (by repeat (first | exact Ext.here | apply Ext.there)) | apply Imp.trans Imp.drop))) (look_miss W _ (hits := hits) (miss := miss) tag x (by rw [hk'.len]; omega) (by omega) hf) rfl ?_
              rintro ⟨⟩ -
              refine OG.yield (Yield.move rfl) rfl ?_
              refine OG.yield (Yield.extract rfl rfl) rfl ?_
              refine OG.yield (Yield.extract rfl rfl) rfl ?_
              refine OG.yield (Yield.extract rfl rfl) rfl ?_
              refine OG.yield (Yield.assign rfl) rfl ?_
              refine OG.yield (Yield.assign rfl) rfl ?_
              refine OG.yield (Yield.assign rfl) rfl ?_
              refine OG.nil ?_
              refine QG.then ?_
              refine CG.seq ?_
              refine CG.region ?_
              refine OG.yield (Yield.move rfl) rfl ?_
              refine OG.nil ?_
              refine QG.then ?_
              refine CG.cond_f rfl ?_
              refine CG.skip ?_
              refine QG.block_normal ?_
              refine QG.then ?_
              refine CG.region ?_
              refine OG.yield (Yield.move rfl) rfl ?_
              refine OG.yield (Yield.add rfl rfl (w64 (by omega) (by omega))) rfl ?_
              refine OG.yield (Yield.assign rfl) rfl ?_
              refine OG.nil ?_
              refine QG.next (k + 1, hits, miss + 1) ⟨by simp only; omega, by simp only; omega⟩ (by simp only; omega) ?_ (by repeat (first | exact Imp.refl _ | exact Imp.none _ | apply Imp.pull (by repeat (first | exact Ext.here | apply Ext.there)) | apply Imp.trans Imp.drop))
              dsimp only
              rw [take_succ hgk, List.countP_append, show List.countP (fun x => decide (x ∈ up l')) [x] = 0 by simp [hin], Nat.add_zero]
              exact (by repeat (first | exact Env.sub_nil _ | refine Env.sub_cons rfl ?_))
          · try replace hc := of_decide_eq_false hc
            refine CG.exit ?_
            refine QG.pass_exit ?_
            refine QG.pass_exit ?_
            refine QG.block_exit ?_
            refine QG.then ?_
            refine CG.seq ?_
            have hkl : k = put'.length := by omega
            subst hkl
            have hcn := count_sub hk'.nd hk'.pnd hk'.sub
            have hct := hk'.cnt
            rw [List.take_length, hcn]
            refine CG.region ?_
            refine OG.yield (Yield.move rfl) rfl ?_
            refine OG.yield (Yield.move rfl) rfl ?_
            refine OG.yield (Yield.len_slice Try.underlying22 rfl rfl) rfl ?_
            refine OG.yield (Yield.move rfl) rfl ?_
            refine OG.yield (Yield.min2 rfl rfl) rfl ?_
            refine OG.yield (by first | exact Yield.as (Yield.neq rfl rfl) (bT (by omega)) | exact Yield.as (Yield.neq rfl rfl) (bF (by omega)) | exact Yield.neq rfl rfl) rfl ?_
            refine OG.nil ?_
            refine QG.then ?_
            refine CG.cond_f rfl ?_
            refine CG.skip ?_
            refine QG.block_normal ?_
            refine QG.then ?_
            refine CG.region ?_
            refine OG.yield (Yield.move rfl) rfl ?_
            refine OG.yield (Yield.add rfl rfl (w64 (by omega) (by omega))) rfl ?_
            refine OG.yield (Yield.assign rfl) rfl ?_
            refine OG.nil ?_
            exact QG.next ⟨i + 1, put', a', c', l', hand', hits, miss⟩ ⟨hk', hh', by simp only; omega, by simp only; omega, by simp only; omega⟩ (by simp only; omega) (by repeat (first | exact Env.sub_nil _ | refine Env.sub_cons rfl ?_)) (by repeat (first | exact Imp.refl _ | exact Imp.none _ | apply Imp.pull (by repeat (first | exact Ext.here | apply Ext.there)) | apply Imp.trans Imp.drop))
    · try replace hc := of_decide_eq_false hc
      refine CG.exit ?_
      refine QG.pass_exit ?_
      refine QG.pass_exit ?_
      refine QG.block_exit ?_
      refine QG.then ?_
      refine CG.seq ?_
      refine CG.region ?_
      refine OG.yield (Yield.assign rfl) rfl ?_
      refine OG.nil ?_
      refine QG.then ?_
      refine CG.ret ?_
      exact QG.ret1 rfl rfl () trivial rfl (by repeat (first | exact Imp.refl _ | exact Imp.none _ | apply Imp.pull (by repeat (first | exact Ext.here | apply Ext.there)) | apply Imp.trans Imp.drop))
  · skip
    refine CG.region ?_
    refine OG.yield (Yield.move rfl) rfl ?_
    refine OG.callo call15 rfl (Imp.refl _) (num_spec W _ _) rfl ?_
    rintro ⟨⟩ -
    refine OG.yield (by first | exact Yield.as (Yield.neq rfl rfl) (bT (by omega)) | exact Yield.as (Yield.neq rfl rfl) (bF (by omega)) | exact Yield.neq rfl rfl) rfl ?_
    refine OG.yield (Yield.move rfl) rfl ?_
    refine OG.guard_yes rfl rfl rfl (by decide) ?_
    refine OG.yield (Yield.move rfl) rfl ?_
    refine OG.guard_yes rfl rfl rfl (by decide) ?_
    refine OG.yield (by first | exact Yield.ptr_nil Try.underlying25 rfl rfl | exact Yield.nil_nil Try.underlying25 rfl rfl) rfl ?_
    refine OG.yield (by first | exact Yield.pick_t rfl rfl | exact Yield.pick_f rfl rfl | exact Yield.pick rfl (fun _ => rfl) (fun _ => rfl)) rfl ?_
    refine OG.yield (Yield.move rfl) rfl ?_
    refine OG.guard_yes rfl rfl rfl (by decide) ?_
    refine OG.yield (Yield.move rfl) rfl ?_
    refine OG.guard_yes rfl rfl rfl (by decide) ?_
    refine OG.yield (Yield.len_slice Try.underlying22 rfl rfl) rfl ?_
    refine OG.guard_yes rfl rfl rfl (by decide) ?_
    refine OG.yield (by first | exact Yield.as (Yield.gtr rfl rfl) (bT (by omega)) | exact Yield.as (Yield.gtr rfl rfl) (bF (by omega)) | exact Yield.gtr rfl rfl) rfl ?_
    refine OG.yield (by first | exact Yield.pick_t rfl rfl | exact Yield.pick_f rfl rfl | exact Yield.pick rfl (fun _ => rfl) (fun _ => rfl)) rfl ?_
    refine OG.nil ?_
    refine QG.then ?_
    refine CG.cond_t rfl ?_
    refine CG.seq ?_
    refine CG.region ?_
    refine OG.yield (Yield.move rfl) rfl ?_
    refine OG.yield (by first | exact Yield.ptr_nonnil Try.underlying25 rfl rfl | exact Yield.nil_nonnil Try.underlying25 rfl rfl) rfl ?_
    refine OG.yield (Yield.assign rfl) rfl ?_
    refine OG.nil ?_
    refine QG.then ?_
    refine CG.ret ?_
    refine QG.pass_ret ?_
    exact QG.ret1 rfl rfl () trivial rfl (by repeat (first | exact Imp.refl _ | exact Imp.none _ | apply Imp.pull (by repeat (first | exact Ext.here | apply Ext.there)) | apply Imp.trans Imp.drop))
open Go.ChangeShapes Go.WideShapes Go.ChangeAt
theorem own : ownKnob Try.prog.godebug = none := by kernel_rfl
theorem laid : laidOutB Try.prog = true := by kernel_rfl
set_option maxRecDepth 100000 in
theorem lifted (os : Os) (started : os.Started) (H : Type) (enc : TypeId × Value → H) :
    ReturnsInHanded {} Try.checked os 3 .any (Rows.tlbKeepsSpec.pre6 enc Try.prog Try.f3 Rows.tlbKeepsRow.domain false) (Rows.tlbKeepsSpec.post enc Try.prog Try.f3 false true false false) := by
  refine returnsInHanded_of_change_sized (C := Try.checked) own started (by kernel_rfl) Try.func3
    (ChangeSpec.witness6 (enc := enc) (C := Try.checked) false ⟨#[], #[.int .i64 0, .int .i64 0, .slice none 0 0], []⟩ 8 (by kernel_rfl) (by kernel_rfl) (by kernel_rfl) (by kernel_rfl)) ?_
  intro W base args ds gs before hval0 hW hcnd hsz0 _
  have hsz : (DataW.weightsEach Try.prog (Try.f3.params.toList ++ Rows.tlbKeepsSpec.plain.varTypes Try.prog) (ds ++ gs)).all (· ≤ reachBytes) = true := hsz0
  have hval : ∀ (j : Nat) t v, Try.f3.params[j]? = some t → args[j]? = some v → Value.okWide Try.prog W .any base t v := hval0
  have hW' := hW
  obtain ⟨p, q, hA0, hV, rfl, hfz, hnd⟩ := hW
  have hA : DataW.TrodAll enc Try.prog W 0 (fun _ => true) true Try.f3.params.toList args.toList ds p := hA0
  rw [Try.params3] at hA hval hsz
  obtain ⟨v0, vs0, d0, ds0, p0, q0, hargs, rfl, rfl, h0, r0⟩ := trodAll_cons hA
  obtain ⟨v1, vs1, d1, ds1, p1, q1, rfl, rfl, rfl, h1, r1⟩ := trodAll_cons r0
  obtain ⟨v2, vs2, d2, ds2, p2, q2, rfl, rfl, rfl, h2, r2⟩ := trodAll_cons r1
  obtain ⟨rfl, rfl, rfl⟩ := trodAll_nil r2
  obtain rfl : args = #[v0, v1, v2] := by cases args; simp_all
  obtain ⟨rfl, rfl⟩ := trodVars_none hV
  obtain ⟨a0, rfl, rfl, rfl, w0⟩ := open_int Try.underlying3 (hval 0 3 v0 rfl rfl) h0
  obtain ⟨a1, rfl, rfl, rfl, w1⟩ := open_int Try.underlying3 (hval 1 3 v1 rfl rfl) h1
  have k2 := weights_le hsz 2 (t := 22) (d := d2) rfl rfl
  have s2 := Opn.param Try.underlying22 (Opn.ints (by' := 8) Try.underlying22 Try.underlying3 (by kernel_rfl) (by kernel_rfl)) (hval 2 22 v2 rfl rfl) h2 k2
  obtain ⟨x2, c2, xs, e2, l2, ok2, s2, m2⟩ := s2
  cases e2
  clear hA0 hval0 hsz0 hsz
  refine ((walk W s2) W (Sat.start W)).mono fun e W' he => ?_
  obtain ⟨_, _, he, hs⟩ := he
  subst he
  exact ⟨_, rfl, law_post laid (params_ok (by kernel_rfl)) rfl Try.underlying4 hW' rfl rfl (Sat.below (by repeat (first | exact Ext.here | apply Ext.there)) hs)⟩
theorem over : Rows.tlbKeepsRow.holds Try.pinned (OpenSpec.ofChange Rows.tlbKeepsSpec) :=
  OpenClaim.holds_of_wide 3 Try.f3 rfl rfl rfl rfl rfl rfl rfl ⟨rfl, rfl, rfl, rfl, rfl⟩ rfl rfl rfl rfl rfl (by kernel_rfl) Try.func3 (by kernel_rfl)
    (of_decide_eq_true (by kernel_rfl)) (by unfold Func.isWrapper; first | (rw [if_pos (by decide +kernel)]; kernel_rfl) | (rw [if_neg (by decide +kernel)]; exact ⟨rfl, rfl⟩))
    (fun os started H enc _ => lifted os started H enc)
theorem proved : Rows.TlbKeepsSaid := over
#print axioms proved
end Go.Proofs.Ytjdaglakhiifjaa.tlbKeeps
