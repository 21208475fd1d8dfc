/- Rules for steps of the model, and what functions of the program do. -/
import Derived.Test.YtphljkplokjonaaGreatZa2
import Derived.RangeFuncLeaves
import Derived.RangeFuncNested
set_option linter.unusedVariables false
set_option linter.unusedSimpArgs false
set_option linter.unusedSectionVars false
set_option maxRecDepth 100000
namespace Go.Proofs.YtphljkplokjonaaGreat.Pg
open Go Go.Sl Go.RowKit Go.Proofs Go.Proofs.YtphljkplokjonaaGreat.T Go.Proofs.YtphljkplokjonaaGreat.Me Go.Proofs.YtphljkplokjonaaGreat.Pe Tryz
def stW (bs : List UInt8) (t i v : Nat) : List UInt8 := overB bs (t * 256 + i * 4) (putB v 4)
def setR (n : Nat) (bs : List UInt8) (root p e : Nat) (spare : Int) : Bool × Int × List UInt8 :=
 if (secR n bs root p).2 = true then (false, 0, stW bs (secR n bs root p).1.toNat (p % 64) e)
 else if 0 ≤ spare ∧ spare < n then (true, 0, stW (stW (overB bs (spare.toNat * 256) (fillB [])) root (p / 64) (entryOf spare 0).toNat) spare.toNat (p % 64) e)
 else (false, 4, bs)
theorem walkR_0 {n : Nat} {bs : List UInt8} {root p : Nat} : ((walkR n bs root p).2.2 = 0 ∧ (secR n bs root p).2 = true) ∨ (walkR n bs root p).2.2 = 90 := by
 unfold walkR
 split
 ·rename_i h; exact .inl ⟨rfl, h.1⟩
 ·exact .inr J
section
variable (W0 : World) (Fr : List HProp)
theorem set_spec {m n root p e : Nat} {f pm spare : Int} {bs : List UInt8} (hr : root < n) (hp : p < 4096) (he : entryOf f pm = e) (he0 : e ≠ 0) (hf : 0 ≤ f ∧ f < n) : Ctr prog W0 136 [.pointer (some ⟨m, 0, none⟩), .int .i64 root, .int .i64 p, .int .i64 f, .int .i64 pm, .int .i64 spare] (M m n bs :: Fr) (fun _ : Unit => True) (fun _ => .tuple #[.bool (setR n bs root p e spare).1, .int .i64 (setR n bs root p e spare).2.1]) (fun _ => M m n (setR n bs root p e spare).2.2 :: Fr) := by
 have her := entryOf_range f pm
 rw [he] at her
 refine Ctr.pure (fun w hw => m_facts (m := m) (n := n) (bs := bs) Ext.here w hw) ?_
 rintro ⟨hl, hn1, hn2⟩
 have hi : p % 64 < 64 := Nat.mod_lt _ (by decide)
 have hi2 : p / 64 < 64 := by omega
 refine Ctr.of_body func136 J ntmps136 J (eZ (aZ (gZ J (gZ J (fZ (bZ (eZ (aZ (dZ J (dZ J (oZ call190 J (Imp.refl _) (entry_spec W0 _ f pm) J ?_)))))))))))
 rintro ⟨⟩ -
 rw [he]
 refine gZ J (fZ (bZ (eZ (eZ (aZ (dZ J (dZ J (oZ call143 J (Imp.refl _) (has_spec W0 _ (m := m) (n := n) (bs := bs) (root : Int)) J ?_))))))))
 rintro ⟨⟩ -
 rw [decide_eq_true (p := 0 ≤ (root : Int) ∧ (root : Int) < (n : Int)) (by omega)]
 refine cZ (pQ J) (dZ J (iZ J J (dZ J (iZ J J (oZ call144 J (Imp.refl _) (known_spec W0 _ (p : Int)) J ?_)))))
 rintro ⟨⟩ -
 rw [decide_eq_true (p := 0 ≤ (p : Int) ∧ (p : Int) < 4096) (by omega)]
 refine iZ J J (cZ (pQ J) (cZ jZ ?_))
 refine dZ J (iZ J J (dZ J (iZ J J (cZ (dQ (bX J J) (bF (by omega))) ?_))))
 refine cZ jZ ?_
 refine dZ J (iZ J J (dZ J (iZ J J (dZ J (iZ J J (oZ call143 J (Imp.refl _) (has_spec W0 _ (m := m) (n := n) (bs := bs) f) J ?_))))))
 rintro ⟨⟩ -
 rw [decide_eq_true (p := 0 ≤ f ∧ f < (n : Int)) hf]
 refine iZ J J (cZ (pQ J) (cZ jZ ?_))
 refine fZ (bZ (qZ J (wZ (bZ (eZ (aZ (dZ J (dZ J (dZ J (oZ call145 J (Imp.refl _) (second_spec W0 _ (m := m) (n := n) (root := root) (p := p) (bs := bs) hr hp) J ?_))))))))))
 rintro ⟨⟩ -
 refine dZ J (cZ (uZ J J) (cZ (uZ J J) (gZ J (gZ J (fZ (bZ (eZ (eZ ?_))))))))
 rcases (show (secR n bs root p).2 = true ∨ ((secR n bs root p).2 = false ∧ (0 ≤ spare ∧ spare < (n : Int))) ∨ ((secR n bs root p).2 = false ∧ ¬(0 ≤ spare ∧ spare < (n : Int))) by cases (secR n bs root p).2 <;> simp <;> omega) with hs | ⟨hs, hsp⟩ | ⟨hs, hsp⟩
 ·obtain ⟨t, ht, htn⟩ := secR_in hs
  have hset : setR n bs root p e spare = (false, 0, stW bs t (p % 64) e) := by unfold setR; rw [if_pos hs, ht, Int.toNat_natCast]
  rw [hset, hs, ht]
  refine aZ (dZ J (cZ (pQ J) (fZ (bZ (qZ J (wZ (bZ (eZ (aZ (dZ J (dZ J (dZ J (cZ (tX (c := ((p % 64 : Nat) : Int)) J J (by decide) (tmod_nat p 64 (by decide))) (oZ call192 J (Imp.refl _) (slot_spec W0 _ (t := t) (i := p % 64) (by omega) hi) J ?_))))))))))))))
  rintro ⟨⟩ -
  refine dZ J (cZ (uQ (c := (e : Int)) underlying24 J J (by rw [IntKind.wrap_u64]; omega)) ?_)
  refine oZ call191 J (Imp.refl _) (store_ok W0 _ (m := m) (n := n) (a := t * 256 + p % 64 * 4) (s := 4) (v := e) (bs := bs) (by omega) (by omega) (by omega) (by omega)) J ?_
  rintro ⟨⟩ -
  exact fZ (bZ (eZ (aZ (dZ J (cZ (pQ J) (gZ J (gZ J (fZ (bZ (tZ (pX J J J () trivial J (Imp.refl _))))))))))))
 ·obtain ⟨q, rfl⟩ := Int.eq_ofNat_of_zero_le hsp.1
  have hqn : q < n := by omega
  have hset : setR n bs root p e (q : Int) = (true, 0, stW (stW (overB bs (q * 256) (fillB [])) root (p / 64) (entryOf (q : Int) 0).toNat) q (p % 64) e) := by unfold setR; rw [if_neg (by rw [hs]; decide), if_pos hsp, Int.toNat_natCast]
  rw [hset, hs]
  have heq := entryOf_range (q : Int) 0
  refine aZ (dZ J (cZ (pQ J) (fZ (bZ (gQ J (eZ (eZ (aZ (dZ J (dZ J (oZ call143 J (Imp.refl _) (has_spec W0 _ (m := m) (n := n) (bs := bs) (q : Int)) J ?_)))))))))))
  rintro ⟨⟩ -
  rw [decide_eq_true (p := 0 ≤ (q : Int) ∧ (q : Int) < (n : Int)) hsp]
  refine cZ (pQ J) (fZ (bZ (qZ J (wZ (bZ (eZ (aZ (dZ J (gZ J (fZ (bZ (eZ (aZ (dZ J (dZ J (oZ call90 J (Imp.refl _) (fill_ok W0 _ (m := m) (n := n) (k := q) (bs := bs) (ws := []) (a := none) (c2 := 0) (RdB.of_slR SlR.nil (Nat.le_refl _)) hqn (by decide)) J ?_))))))))))))))))
  rintro ⟨⟩ -
  refine fZ (bZ (aZ (dZ J (dZ J (dZ J (cZ (kV (c := ((p / 64 : Nat) : Int)) J J (by decide) (quo_nat (b := 64) (by decide) (by omega))) ?_))))))
  refine oZ call192 J (Imp.refl _) (slot_spec W0 _ (t := root) (i := p / 64) (by omega) hi2) J ?_
  rintro ⟨⟩ -
  refine dZ J (oZ call190 J (Imp.refl _) (entry_spec W0 _ (q : Int) 0) J ?_)
  rintro ⟨⟩ -
  refine cZ (uQ (c := ((entryOf (q : Int) 0).toNat : Int)) underlying24 J J (by rw [IntKind.wrap_u64]; omega)) ?_
  refine oZ call191 J (Imp.refl _) (store_ok W0 _ (m := m) (n := n) (a := root * 256 + p / 64 * 4) (s := 4) (v := (entryOf (q : Int) 0).toNat) (bs := overB bs (q * 256) (fillB [])) (by omega) (by omega) (by omega) (by omega)) J ?_
  rintro ⟨⟩ -
  refine fZ (bZ (eZ (aZ (dZ J (dZ J (dZ J (cZ (tX (c := ((p % 64 : Nat) : Int)) J J (by decide) (tmod_nat p 64 (by decide))) (oZ call192 J (Imp.refl _) (slot_spec W0 _ (t := q) (i := p % 64) (by omega) hi) J ?_))))))))
  rintro ⟨⟩ -
  refine dZ J (cZ (uQ (c := (e : Int)) underlying24 J J (by rw [IntKind.wrap_u64]; omega)) ?_)
  refine oZ call191 J (Imp.refl _) (store_ok W0 _ (m := m) (n := n) (a := q * 256 + p % 64 * 4) (s := 4) (v := e) (bs := stW (overB bs (q * 256) (fillB [])) root (p / 64) (entryOf (q : Int) 0).toNat) (by omega) (by omega) (by omega) (by omega)) J ?_
  rintro ⟨⟩ -
  exact fZ (bZ (eZ (aZ (dZ J (cZ (pQ J) (gZ J (gZ J (fZ (bZ (tZ (pX J J J () trivial J (Imp.refl _))))))))))))
 ·have hset : setR n bs root p e spare = (false, 4, bs) := by unfold setR; rw [if_neg (by rw [hs]; decide), if_neg hsp]
  rw [hset, hs]
  refine aZ (dZ J (cZ (pQ J) (fZ (bZ (gQ J (eZ (eZ (aZ (dZ J (dZ J (oZ call143 J (Imp.refl _) (has_spec W0 _ (m := m) (n := n) (bs := bs) spare) J ?_)))))))))))
  rintro ⟨⟩ -
  rw [decide_eq_false hsp]
  exact cZ (pQ J) (fZ (bZ (gQ J (eZ (aZ (gZ J (gZ J (fZ (bZ (tZ (vZ (vZ (pX J J J () trivial J (Imp.refl _))))))))))))))
end
end Go.Proofs.YtphljkplokjonaaGreat.Pg
namespace Go.Proofs.YtphljkplokjonaaGreat.Pg
open Go Go.Sl Go.RowKit Go.Proofs Go.Proofs.YtphljkplokjonaaGreat.T Go.Proofs.YtphljkplokjonaaGreat.Me Go.Proofs.YtphljkplokjonaaGreat.Pe
theorem overB_lo {bs ys : List UInt8} {a p : Nat} (h : p < a) (ha : a + ys.length ≤ bs.length) : (overB bs a ys)[p]? = bs[p]? := by
 unfold overB; rw [List.append_assoc, List.getElem?_append_left (by rw [List.length_take]; omega), List.getElem?_take, if_pos h]
theorem overB_hi {bs ys : List UInt8} {a p : Nat} (h : a + ys.length ≤ p) (ha : a + ys.length ≤ bs.length) : (overB bs a ys)[p]? = bs[p]? := by
 have e : (bs.take a ++ ys).length = a + ys.length := by rw [List.length_append, List.length_take]; omega
 unfold overB; rw [List.getElem?_append_right (by rw [e]; exact h), e, List.getElem?_drop]; congr 1; omega
theorem word_ext {bs cs : List UInt8} {A : Nat} (h : ∀ j, j < 4 → bs[A + j]? = cs[A + j]?) : leN ((bs.drop A).take 4) = leN ((cs.drop A).take 4) := by
 congr 1
 apply List.ext_getElem?
 intro j
 rw [List.getElem?_take, List.getElem?_take]
 split
 ·rename_i hj
  rw [List.getElem?_drop, List.getElem?_drop]; exact h j hj
 ·rfl
theorem word_st {bs : List UInt8} {n t i v t' i' : Nat} (hl : bs.length = n * 256) (ht : t < n) (hi : i < 64) (ht' : t' < n) (hi' : i' < 64) : word (stW bs t i v) t' i' = if t' = t ∧ i' = i then v % 4294967296 else word bs t' i' := by
 have hp := putB_len v 4
 unfold word stW
 split
 ·rename_i h
  obtain ⟨rfl, rfl⟩ := h
  have := overB_at (bs := bs) (ys := putB v 4) (a := t' * 256 + i' * 4) (by omega)
  rw [hp] at this
  rw [this, leN_putB]
 ·rename_i h
  refine word_ext fun j hj => ?_
  rcases (show t' * 256 + i' * 4 + j < t * 256 + i * 4 ∨ t * 256 + i * 4 + 4 ≤ t' * 256 + i' * 4 + j by omega) with q | q
  ·exact overB_lo q (by omega)
  ·exact overB_hi (by omega) (by omega)
theorem stW_len {bs : List UInt8} {n t i v : Nat} (hl : bs.length = n * 256) (ht : t < n) (hi : i < 64) : (stW bs t i v).length = n * 256 := by
 unfold stW; rw [overB_len (by rw [putB_len]; omega), hl]
theorem leN_zeros (k : Nat) : leN (List.replicate k 0) = 0 := by
 induction k with
 | zero => rfl
 | succ k ih => rw [List.replicate_succ]; show (0 : UInt8).toNat + 256 * leN (List.replicate k 0) = 0; rw [ih]; rfl
theorem fillB_nil : fillB [] = List.replicate 256 0 := rfl
theorem word_fill {bs : List UInt8} {n q t' i' : Nat} (hl : bs.length = n * 256) (hq : q < n) (ht' : t' < n) (hi' : i' < 64) : word (overB bs (q * 256) (fillB [])) t' i' = if t' = q then 0 else word bs t' i' := by
 have hf : (fillB []).length = 256 := rfl
 unfold word
 split
 ·rename_i h
  subst h
  have e : ((overB bs (t' * 256) (fillB [])).drop (t' * 256 + i' * 4)).take 4 = List.replicate 4 0 := by
   have := overB_at (bs := bs) (ys := fillB []) (a := t' * 256) (by omega)
   rw [hf, fillB_nil] at this
   rw [← List.drop_drop]
   have h2 : ((overB bs (t' * 256) (fillB [])).drop (t' * 256)) = List.replicate 256 0 ++ ((overB bs (t' * 256) (fillB [])).drop (t' * 256)).drop 256 := by
    conv => lhs; rw [← List.take_append_drop 256 ((overB bs (t' * 256) (fillB [])).drop (t' * 256))]
    rw [fillB_nil, this]
   rw [h2, List.drop_append_of_le_length (by simp; omega), List.take_append_of_le_length (by simp; omega), List.drop_replicate, List.take_replicate, show min 4 (256 - i' * 4) = 4 by omega]
  rw [e, leN_zeros]
 ·rename_i h
  refine word_ext fun j hj => ?_
  rcases (show t' * 256 + i' * 4 + j < q * 256 ∨ q * 256 + 256 ≤ t' * 256 + i' * 4 + j by omega) with r | r
  ·exact overB_lo r (by rw [hf]; omega)
  ·exact overB_hi (by rw [hf]; omega) (by rw [hf]; omega)
theorem fill_len {bs : List UInt8} {n q : Nat} (hl : bs.length = n * 256) (hq : q < n) : (overB bs (q * 256) (fillB [])).length = n * 256 := by
 rw [overB_len (by show q * 256 + 256 ≤ _; omega), hl]
theorem sp_entry {f p : Nat} (hf : f < 1024) (hp : p ≤ 7) : entryOf f p = ((1 + p * 2 + f * 256 : Nat) : Int) ∧ sp (1 + p * 2 + f * 256) = ((f : Int), (p : Int), true) := by
 have h1 : entryOf f p = ((1 + p * 2 + f * 256 : Nat) : Int) := by unfold entryOf; rw [if_pos (by omega)]; omega
 have e1 : (1 + p * 2 + f * 256) / 256 = f := by omega
 have e2 : (1 + p * 2 + f * 256) / 2 % 8 = p := by omega
 refine ⟨h1, ?_⟩
 have hi : isEntry ((1 + p * 2 + f * 256 : Nat) : Int) := by
  refine ⟨by omega, ?_⟩
  rw [show ((1 + p * 2 + f * 256 : Nat) : Int) / 256 = (f : Int) by omega, show ((1 + p * 2 + f * 256 : Nat) : Int) / 2 % 8 = (p : Int) by omega]
  exact h1
 unfold sp
 rw [if_pos hi, e1, e2]
theorem sp_zero : sp 0 = (0, 0, false) := by unfold sp; rw [if_neg (fun h => h.1 J)]
end Go.Proofs.YtphljkplokjonaaGreat.Pg
namespace Go.Sl
open Go Go.RowKit
def lst (q : Loop) (s : LoopState) (p : Option Code) : Loop := { q with state := s, pending := p }
abbrev lrec (l : Nat) (q : Loop) (s : LoopState) (p : Option Code) : HProp := obj l (.loop (lst q s p))
abbrev dblk (d : Nat) : HProp := obj d (.deferred (some []))
def YCtr (P : Program) (W0 : World) (l : Nat) (args : List Value) (G : List HProp) {α : Type} (φ : α → Prop) (v : α → Value) (G' : α → List HProp) : Prop :=
 ∀ w, Sat W0 G w → ∃ fn tmps assign body, (Instr.yield l args.toArray).run P w = .ok (.round l fn tmps assign body) w ∧
  RoundIn (Fz none) 0 P l fn tmps assign body w fun e w' => ∃ x, φ x ∧ e = .returned (v x) ∧ Sat W0 (G' x) w'
abbrev yv (l : Nat) : Value := .func (.yield l) #[] #[]
theorem Sat.put {W0 w : World} {G : List HProp} {b : Nat} {o o' : Obj} {put : HProp → List HProp} (fc : Foc G (obj b o) put) (s : Sat W0 G w) : Sat W0 (put (obj b o')) (w.putObj b o') := by
 obtain ⟨R, x⟩ := foc_ext fc
 refine Sat.write fc s (Sat.get_obj x s) fun f _ hA => ⟨hA, ?_⟩
 unfold obj updH; rw [if_pos J]
section
variable {P : Program} {W0 : World} {n : Nat} {ds : List Deferred} {e : Env} {G R : List HProp}
theorem OG.yieldc {ops : Array Oper} {Q : Exit → Act → World → Prop} {rest : List Oper} {d : Nat} {ty : TypeId} {pos : String} {af : Array Edge} {x : Operand} {l : Nat} {args : List Operand} {ats : Array TypeId} {vs : List Value} {G1 : List HProp} {α : Type} {φ : α → Prop} {v : α → Value} {G' : α → List HProp}
 (hx : e.ev x = some (yv l)) (ha : e.evs args = some vs) (hi : Imp G G1) (hs : YCtr P W0 l vs G1 φ v G') (hd : Nat.ble (d + 1) n = true)
 (k : ∀ x, φ x → OG P W0 n ds ops Q rest ((d, v x) :: e) (G' x)) :
 OG P W0 n ds ops Q (⟨some d, .call { callee := .value x, args := args.toArray, argTypes := ats }, ty, pos, af, none⟩ :: rest) e G := fun a w hat hw => by
 unfold wpL
 rw [if_pos (by simp [Region.wanted])]
 obtain ⟨fn, tmps, assign, body, hr, hR⟩ := hs w (hw.imp hi)
 refine Or.inr ⟨l, fn, tmps, assign, body, w, ?_, hR.mono ?_⟩
 ·have h1 : a.eval x = .func (.yield l) #[] #[] := hat.agrees _ _ hx
  have h2 : args.map a.eval = vs := hat.agrees.evs ha
  simp [execOp, resolve, h1, Deferred.ofValue, bind, Sem.bind, pure, invoke, h2]
  exact hr
 ·rintro e' w' ⟨y, hy, rfl, hs'⟩
  exact ⟨_, rfl, k y hy _ _ (hat.put (Nat.le_of_ble_eq_true hd)) hs'⟩
def zipE : List Nat → List Value → Env → Env
 | p :: ps, v :: vs, e => zipE ps vs ((p, v) :: e)
 | _, _, e => e
theorem At.zip : ∀ {ps : List Nat} {vs : List Value} {e : Env} {a : Act}, At n ds e a → (∀ p ∈ ps, p < n) →
 At n [] (zipE ps vs e) { tmps := (ps.zip vs).foldl (fun t (p, v) => t.setIfInBounds p v) a.tmps, defers := [] }
 | [], _, e, a, h, _ => ⟨h.size, h.slot, rfl⟩
 | p :: ps, [], e, a, h, _ => ⟨h.size, h.slot, rfl⟩
 | p :: ps, v :: vs, e, a, h, hp => At.zip (ps := ps) (vs := vs) (a := a.put (some p) v) (h.put (hp p (by simp))) fun q hq => hp q (by simp [hq])
def RoundR (W0 : World) {ι : Type} (ψ : ι → Prop) (Y : List HProp) (Z : ι → List HProp) : Ending → World → Prop := fun e w' =>
 ∃ o : Option ι, (match o with | none => True | some i => ψ i) ∧ e = .returned (.bool o.isNone) ∧ Sat W0 (match o with | none => Y | some i => Z i) w'
theorem QG.round_next {l : Nat} {q : Loop} {ι : Type} {ψ : ι → Prop} {Y : List HProp} {Z : ι → List HProp} (x : Ext G (lrec l q .busy none) R) (hi : Imp (lrec l q .ready none :: R) Y) :
 QG W0 n ds (roundPost P l (RoundR W0 ψ Y Z)) .normal e G := fun a w ha hw => by
 have h1 := hw.imp x.1
 have hr := run_endRound (P := P) none (Sat.get_obj Ext.here h1)
 exact ⟨_, _, hr, none, trivial, rfl, (Sat.put Foc.here h1).imp hi⟩
def Begin (P : Program) (l : Nat) (body : Code) (R : Ending → World → Prop) : Act → World → Prop := fun a w => ∃ w₂, (Instr.beginRound l).run P w = .ok () w₂ ∧ body.wpIn (Fz (some l)) 0 P (roundPost P l R) a w₂
theorem QG.begin {l : Nat} {q : Loop} {body : Code} {K : Ending → World → Prop} {Q : Exit → Act → World → Prop} (x : Ext G (lrec l q .ready none) R) (k : CG (some l) P W0 n ds body (roundPost P l K) e (lrec l q .busy none :: R)) :
 QG W0 n ds (Exit.then (Begin P l body K) Q) .normal e G := fun a w ha hw => by
 have h1 := hw.imp x.1
 exact ⟨_, run_beginRound (Sat.get_obj Ext.here h1) J, k a _ ha (Sat.put Foc.here h1)⟩
def Hit (P : Program) (W0 : World) (gf : FuncId) (lb : List Value) (N : Nat) (enc : Nat → List Value) (l : Nat) {ι : Type} (ψ : ι → Prop) (Y : Nat → List HProp) (Z : ι → List HProp) : Prop :=
 (∀ k, k < N → YCtr P W0 l (enc k) (Y k) (α := Option ι) (fun o => match o with | none => True | some i => ψ i) (fun o => .bool o.isNone) (fun o => match o with | none => Y (k + 1) | some i => Z i)) →
 Ctr P W0 gf (yv l :: lb) (Y 0) (α := Option ι) (fun o => match o with | none => True | some i => ψ i) (fun _ => .tuple #[]) (fun o => match o with | none => Y N | some i => Z i)
theorem range_core {r : Option Nat} {g : Operand} {ps : List Nat} {assign body : Code} {Q : Exit → Act → World → Prop} {a : Act} {w w1 : World} {D : Nat} {mark : List Deferred} {gf : FuncId} {lb : List Value} {N : Nat} {enc : Nat → List Value} {ι : Type} {ψ : ι → Prop} {jc : ι → Code} {Inv : Nat → List HProp} {Gx : ι → List HProp}
 (hat : At n ds e a) (hg : e.ev g = some (.func (.func gf) #[] lb.toArray)) (hc : CallOK P gf) (hps : ∀ p ∈ ps, p < n) (henc : ∀ k, (enc k).length = ps.length)
 (he : ∀ fn, (Instr.enterLoop fn a.tmps ps.toArray assign body r).run P w = .ok (w1.heap.size, mark) (w1.alloc (.loop { state := .ready, pending := none, fn, tmps := a.tmps, params := ps.toArray, assign, body, defers := D })))
 (hs : Sat W0 (Inv 0) w1)
 (hit : ∀ l q, Hit P W0 gf lb N enc l ψ (fun k => lrec l q .ready none :: Inv k) (fun i => lrec l q .done (some (jc i)) :: Gx i))
 (hround : ∀ l q k, k < N → CG (some l) P W0 n [] assign (Exit.then (Begin P l body (RoundR W0 ψ (lrec l q .ready none :: Inv (k + 1)) (fun i => lrec l q .done (some (jc i)) :: Gx i))) (fun _ _ _ => False)) (zipE ps (enc k) e) (lrec l q .ready none :: Inv k))
 (hdone : ∀ w4, Sat W0 (Inv N) w4 → Q .normal { a with defers := mark ++ a.defers } w4)
 (hstop : ∀ i w4, ψ i → Sat W0 (Gx i) w4 → (jc i).wpIn (Fz r) 0 P Q { a with defers := mark ++ a.defers } w4) :
 (Code.rangeFunc g ps.toArray assign body).wpIn (Fz r) 0 P Q a w := by
 refine wpIn_rangeFunc ?_
 intro fn hfn
 obtain ⟨q, hq⟩ : ∃ q : Loop, q = { state := .ready, pending := none, fn, tmps := a.tmps, params := ps.toArray, assign, body, defers := D } := ⟨_, rfl⟩
 have hq0 : lst q .ready none = q := by rw [hq]; rfl
 obtain ⟨W1, hW1⟩ : ∃ W1, w1.alloc (.loop q) = W1 := ⟨_, rfl⟩
 have hev := hat.agrees _ _ hg
 obtain ⟨fn', c, hf1, hb1, hn1⟩ := hc
 have hs1 : Sat W0 (lrec w1.heap.size q .ready none :: Inv 0) W1 := by
  have := hs.new (.loop (lst q .ready none)); rw [hq0] at this; rw [← hW1, lrec, hq0]; exact this
 refine ⟨w1.heap.size, mark, W1, { target := .fn (.func gf) lb.toArray, args := #[yv w1.heap.size] }, W1, gf, (yv w1.heap.size :: lb).toArray, W1, ?_, ?_, ?_, ?_, (fun h => by cases h), ?_⟩
 ·rw [← hW1, hq]; exact he fn
 ·simp only [resolve, hev]
  simp [go_sem, Act.eval]
 ·intro f' _; trivial
 ·have h3 := callFunc_run hf1 hb1 hn1 (yv w1.heap.size :: lb).toArray W1
  have h4 : #[yv w1.heap.size] ++ lb.toArray = (yv w1.heap.size :: lb).toArray := by simp
  simp only [invoke, h4]; exact h3
 ·refine CallsIn.mono (callsFz (hit w1.heap.size q ?_ W1 hs1)) ?_
  ·intro k hk W hW
   have hl : W.heap[w1.heap.size]? = some (.loop q) := by have := Sat.get_obj Ext.here hW; rw [hq0] at this; exact this
   have hy := run_yield (P := P) (args := (enc k).toArray) hl (by rw [hq]; simpa using henc k)
   rw [hq] at hy
   refine ⟨fn, _, assign, body, hy, roundIn_of_wpIn hfn ?_⟩
   have hz := At.zip (vs := enc k) hat hps
   have hzz : (ps.toArray.zip (enc k).toArray).foldl (fun t (p, v) => t.setIfInBounds p v) a.tmps = (ps.zip (enc k)).foldl (fun t (p, v) => t.setIfInBounds p v) a.tmps := by simp
   dsimp only
   rw [hzz]
   exact hround w1.heap.size q k hk _ _ hz hW
  ·rintro e' w3 ⟨o, ho, rfl, hs3⟩
   cases o with
   | none =>
    have hl : w3.heap[w1.heap.size]? = some (.loop (lst q .ready none)) := Sat.get_obj Ext.here hs3
    refine ⟨none, _, run_endLoop hl (by simp [lst]), hdone _ ?_⟩
    exact (Sat.put (o' := .loop { lst q .ready none with state := .exhausted }) Foc.here hs3).imp Imp.drop
   | some i =>
    have hl : w3.heap[w1.heap.size]? = some (.loop (lst q .done (some (jc i)))) := Sat.get_obj Ext.here hs3
    refine ⟨some (jc i), _, run_endLoop hl (by simp [lst]), hstop i _ ho ?_⟩
    exact (Sat.put (o' := .loop { lst q .done (some (jc i)) with state := .exhausted }) Foc.here hs3).imp Imp.drop
def mk1 (D : Nat) : Deferred := { target := .collected D, args := #[] }
theorem CG.range {g : Operand} {ps : List Nat} {assign body : Code} {Q : Exit → Act → World → Prop} {gf : FuncId} {lb : List Value} {ι : Type} (N : Nat) (enc : Nat → List Value) (ψ : ι → Prop) (jc : ι → Code) (Inv : Nat → List HProp) (Gx : ι → List HProp)
 (hg : e.ev g = some (.func (.func gf) #[] lb.toArray)) (hc : CallOK P gf) (hps : ps.all (fun p => Nat.ble (p + 1) n) = true) (henc : ∀ k, (enc k).length = ps.length) (hG : Imp G (Inv 0))
 (hit : ∀ D l q, Hit P W0 gf lb N enc l ψ (fun k => lrec l q .ready none :: dblk D :: Inv k) (fun i => lrec l q .done (some (jc i)) :: dblk D :: Gx i))
 (hround : ∀ D l q k, k < N → CG (some l) P W0 n [] assign (Exit.then (Begin P l body (RoundR W0 ψ (lrec l q .ready none :: dblk D :: Inv (k + 1)) (fun i => lrec l q .done (some (jc i)) :: dblk D :: Gx i))) (fun _ _ _ => False)) (zipE ps (enc k) e) (lrec l q .ready none :: dblk D :: Inv k))
 (hdone : ∀ D, QG W0 n (mk1 D :: ds) Q .normal e (dblk D :: Inv N))
 (hstop : ∀ D i, ψ i → CG none P W0 n (mk1 D :: ds) (jc i) Q e (dblk D :: Gx i)) :
 CG none P W0 n ds (.rangeFunc g ps.toArray assign body) Q e G := fun a w ha hw => by
 have h2 : At n (mk1 w.heap.size :: ds) e { a with defers := [mk1 w.heap.size] ++ a.defers } := ⟨ha.size, ha.slot, by simp [ha.defers]⟩
 refine range_core (D := w.heap.size) (mark := [mk1 w.heap.size]) (w1 := w.alloc (.deferred (some []))) (Inv := fun k => dblk w.heap.size :: Inv k) (Gx := fun i => dblk w.heap.size :: Gx i) ha hg hc (fun p hp => Nat.le_of_ble_eq_true (List.all_eq_true.1 hps p hp)) henc ?_ ?_ (hit _) (hround _) ?_ ?_
 ·intro fn
  have := run_enterLoop_outer (P := P) (w := w) fn a.tmps ps.toArray assign body
  rw [this]
  simp [mk1]
 ·exact (hw.imp hG).new _
 ·intro w4 h4; exact hdone _ _ _ h2 h4
 ·intro i w4 hi h4; exact hstop _ i hi _ _ h2 h4
def marks (ms : List Nat) : List Deferred := ms.map mk1
def dblks (ms : List Nat) : HProp := Star (ms.map dblk)
theorem dblks_pop {D : Nat} {ms : List Nat} : Imp (dblks (D :: ms) :: G) (dblk D :: dblks ms :: G) := fun h s => by
 have h1 := star_open (D := dblk D :: ms.map dblk) h s
 exact Imp.cons (star_close (D := ms.map dblk)) h h1
def LP (P : Program) (fn : Func) (R : Ending → World → Prop) : Exit → Act → World → Prop := bodyPostM (Fz none) 0 P fn R
theorem leaves_marks {fn : Func} {K : Ending → World → Prop} {tmps : Array Value} : ∀ (ms : List Nat) (w : World), Sat W0 (dblks ms :: R) w → (∀ w', Sat W0 R w' → LeavesInM (Fz none) 0 P fn tmps K [] .returning w') → LeavesInM (Fz none) 0 P fn tmps K (marks ms) .returning w
 | [], w, hw, k => k w (hw.imp Imp.drop)
 | D :: ms, w, hw, k => by
  have h1 := hw.imp dblks_pop
  refine ⟨by simp, .inl ⟨D, _, rfl, run_takeDeferred (Sat.get_obj Ext.here h1), ?_⟩⟩
  exact leaves_marks ms _ ((Sat.put (o' := .deferred none) Foc.here h1).imp Imp.drop) k
theorem QG.marks {fn : Func} {α : Type} {φ : α → Prop} {v : α → Value} {G' : α → List HProp} {ms : List Nat} {x : Exit} (hx : x = .ret ∨ x = .normal) (hm : Ext G (dblks ms) R) (k : QG W0 n [] (bodyPost P fn (RetP W0 φ v G')) x e R) : QG W0 n (Sl.marks ms) (LP P fn (RetP W0 φ v G')) x e G := fun a w ha hw => by
 have h2 : ∀ w', Sat W0 R w' → LeavesInM (Fz none) 0 P fn a.tmps (RetP W0 φ v G') [] .returning w' := fun w' hw' => by
  have h3 := k { a with defers := [] } w' ⟨ha.size, ha.slot, rfl⟩ hw'
  rcases hx with rfl | rfl <;> exact h3.2
 have h4 : LeavesInM (Fz none) 0 P fn a.tmps (RetP W0 φ v G') a.defers .returning w := by
  rw [ha.defers]; exact leaves_marks ms w (hw.imp hm.1) h2
 rcases hx with rfl | rfl <;> exact h4
theorem QG.mark1 {fn : Func} {α : Type} {φ : α → Prop} {v : α → Value} {G' : α → List HProp} {D : Nat} {x : Exit} (hx : x = .ret ∨ x = .normal) (hm : Ext G (dblk D) R) (k : QG W0 n [] (bodyPost P fn (RetP W0 φ v G')) x e R) : QG W0 n [mk1 D] (LP P fn (RetP W0 φ v G')) x e G := fun a w ha hw =>
 QG.marks (ms := [D]) hx (G := dblks [D] :: R) Ext.here k a w ha (hw.imp (Imp.trans hm.1 (star_close (D := [dblk D]))))
theorem Ctr.of_bodyM {f : FuncId} {fn : Func} {c : Code} {args : List Value} {α : Type} {φ : α → Prop} {v : α → Value} {G' : α → List HProp} (hf : P.funcs[f]? = some fn) (hb : fn.body = some c) (hn : fn.ntmps = n)
 (hl : Nat.ble args.length n = true) (k : CG none P W0 n [] c (LP P fn (RetP W0 φ v G')) (env0 0 args) G) : Ctr P W0 f args G φ v G' := fun w hw => by
 subst hn
 exact (callsIn_wide (n := 0)).1 (callsIn_of_wp_marks (F := Fz none) hf hb trivial (k _ w (At.start (Nat.le_of_ble_eq_true hl)) hw))
theorem Hit.conv {gf : FuncId} {lb : List Value} {N : Nat} {enc : Nat → List Value} {l : Nat} {ι : Type} {ψ : ι → Prop} {Y Y2 : Nat → List HProp} {Z Z2 : ι → List HProp} (h : Hit P W0 gf lb N enc l ψ Y2 Z2)
 (h1 : ∀ k, Imp (Y k) (Y2 k)) (h2 : ∀ k, Imp (Y2 k) (Y k)) (h3 : ∀ i, Imp (Z i) (Z2 i)) (h4 : ∀ i, Imp (Z2 i) (Z i)) : Hit P W0 gf lb N enc l ψ Y Z := fun hy w hw => by
 refine (h (fun k hk w hw => ?_) w (hw.imp (h1 0))).mono ?_
 ·obtain ⟨fn, tmps, assign, body, hr, hR⟩ := hy k hk w (hw.imp (h2 k))
  refine ⟨fn, tmps, assign, body, hr, hR.mono ?_⟩
  rintro e w' ⟨o, ho, he, hs⟩
  refine ⟨o, ho, he, ?_⟩
  cases o with
  | none => exact hs.imp (h1 _)
  | some i => exact hs.imp (h3 i)
 ·rintro e w' ⟨o, ho, he, hs⟩
  refine ⟨o, ho, he, ?_⟩
  cases o with
  | none => exact hs.imp (h2 _)
  | some i => exact hs.imp (h4 i)
end
end Go.Sl
namespace Go.Proofs.YtphljkplokjonaaGreat.Pg
open Go Go.Sl Go.RowKit Go.Proofs Go.Proofs.YtphljkplokjonaaGreat.T Go.Proofs.YtphljkplokjonaaGreat.Me Go.Proofs.YtphljkplokjonaaGreat.Pe Tryz
def pl (n : Nat) (bs : List UInt8) (root p : Nat) : List (Nat × Int) := if (walkR n bs root p).2.2 = 0 then [(p, (walkR n bs root p).1)] else []
def pagesTo (n : Nat) (bs : List UInt8) (root : Nat) : Nat → List (Nat × Int)
 | 0 => []
 | p + 1 => pagesTo n bs root p ++ pl n bs root p
section
variable {n : Nat} {bs : List UInt8} {root : Nat}
theorem pagesTo_pre : ∀ (d p : Nat), ∃ s, pagesTo n bs root (p + d) = pagesTo n bs root p ++ s
 | 0, p => ⟨[], by simp⟩
 | d + 1, p => by
  obtain ⟨s, hs⟩ := pagesTo_pre d p
  exact ⟨s ++ pl n bs root (p + d), by rw [show p + (d + 1) = (p + d) + 1 by omega, pagesTo, hs, List.append_assoc]⟩
theorem pagesTo_get {p q : Nat} (h : (walkR n bs root p).2.2 = 0) (hp : p < q) : (pagesTo n bs root q)[(pagesTo n bs root p).length]? = some (p, (walkR n bs root p).1) := by
 obtain ⟨s, hs⟩ := pagesTo_pre (n := n) (bs := bs) (root := root) (q - (p + 1)) (p + 1)
 rw [show p + 1 + (q - (p + 1)) = q by omega] at hs
 rw [hs, pagesTo, pl, if_pos h, List.append_assoc, List.getElem?_append_right (Nat.le_refl _), Nat.sub_self]; rfl
theorem pagesTo_yes {p : Nat} (h : (walkR n bs root p).2.2 = 0) : (pagesTo n bs root (p + 1)).length = (pagesTo n bs root p).length + 1 := by
 rw [pagesTo, pl, if_pos h]; simp
theorem pagesTo_no {p : Nat} (h : (walkR n bs root p).2.2 ≠ 0) : pagesTo n bs root (p + 1) = pagesTo n bs root p := by
 rw [pagesTo, pl, if_neg h]; simp
theorem pagesTo_same {p : Nat} : ∀ d, (∀ q, p ≤ q → q < p + d → (walkR n bs root q).2.2 ≠ 0) → pagesTo n bs root (p + d) = pagesTo n bs root p
 | 0, _ => rfl
 | d + 1, h => by
  rw [show p + (d + 1) = (p + d) + 1 by omega, pagesTo_no (h _ (by omega) (by omega))]
  exact pagesTo_same d fun q h1 h2 => h q h1 (by omega)
theorem pagesTo_none {t : Nat} (h : (secR n bs root (t * 64)).2 = false) : pagesTo n bs root ((t + 1) * 64) = pagesTo n bs root (t * 64) := by
 rw [show (t + 1) * 64 = t * 64 + 64 by omega]
 refine pagesTo_same 64 fun q h1 h2 => ?_
 have e : secR n bs root q = secR n bs root (t * 64) := by unfold secR; rw [show q / 64 = t * 64 / 64 by omega]
 unfold walkR
 rw [e, h]; simp
theorem pagesTo_lt {p q : Nat} (h : (walkR n bs root p).2.2 = 0) (hp : p < q) : (pagesTo n bs root p).length < (pagesTo n bs root q).length := by
 have := pagesTo_get (n := n) (bs := bs) (root := root) h hp
 exact (List.getElem?_eq_some_iff.1 this).1
end
def pages (n : Nat) (bs : List UInt8) (root : Nat) : List (Nat × Int) := pagesTo n bs root 4096
def pgEnc (l : List (Nat × Int)) (k : Nat) : List Value := [.int .i64 ((l[k]?.getD (0, 0)).1 : Nat), .int .i64 (l[k]?.getD (0, 0)).2]
theorem pgEnc_at {l : List (Nat × Int)} {k p : Nat} {f : Int} (h : l[k]? = some (p, f)) : pgEnc l k = [.int .i64 p, .int .i64 f] := by unfold pgEnc; rw [h]; rfl
section
variable (W0 : World) (Fr : List HProp)
theorem pages_spec {m : Nat} {root : Int} : Ctr prog W0 93 [.pointer (some ⟨m, 0, none⟩), .int .i64 root] Fr (fun _ : Nat × Nat => True) (fun b => .func (.func 148) #[] #[.pointer (some ⟨b.1, 0, none⟩), .pointer (some ⟨b.2, 0, none⟩)]) (fun b => blk b.2 [.int .i64 root] 3 :: blk b.1 [.pointer (some ⟨m, 0, none⟩)] 111 :: Fr) := by
 refine Ctr.of_body func93 J ntmps93 J (eZ (aZ (jQ (sX J) J ?_)))
 rintro b2 -
 refine jQ (sX J) J ?_
 rintro b3 -
 exact gZ J (fZ (bZ (eZ (aZ (cZ (nV (first := []) (cap := [.tmp 2, .tmp 3]) J J) (gZ J (fZ (bZ (tZ (xZ J J (b2, b3) trivial J (Imp.refl _)))))))))))
theorem pages_hit0 {m n bm br root l : Nat} {bs : List UInt8} (hr : root < n) {ι : Type} {ψ : ι → Prop} {Y : Nat → List HProp} {Z : ι → List HProp} :
 Hit prog W0 148 [.pointer (some ⟨bm, 0, none⟩), .pointer (some ⟨br, 0, none⟩)] (pages n bs root).length (pgEnc (pages n bs root)) l ψ
  (fun k => M m n bs :: blk bm [.pointer (some ⟨m, 0, none⟩)] 111 :: blk br [.int .i64 root] 3 :: Y k) (fun i => M m n bs :: blk bm [.pointer (some ⟨m, 0, none⟩)] 111 :: blk br [.int .i64 root] 3 :: Z i) := by
 intro hy
 refine Ctr.of_body func148 J ntmps148 J (eZ (aZ (dZ J (fZ (bZ (fQ (iX (fun t : Nat => t ≤ 64) (fun t => [(0, yv l), (1, .pointer (some ⟨bm, 0, none⟩)), (2, .pointer (some ⟨br, 0, none⟩)), (11, .int .i64 t)]) (fun t => M m n bs :: blk bm [.pointer (some ⟨m, 0, none⟩)] 111 :: blk br [.int .i64 root] 3 :: Y (pagesTo n bs root (t * 64)).length) (fun t => 64 - t) 0 (Nat.zero_le _) eS (Imp.refl _) ?_)))))))
 intro t ht
 refine eZ (aZ (cZ bQ ?_))
 refine fZ (bZ (eZ (wQ J (fun hc => ?_) (fun hc => ?_))))
 ·try replace hc := odT hc
  have ht' : t < 64 := by omega
  refine wZ (bZ (eZ (fQ (eZ (aZ (dZ J (gZ J (fZ (bZ (eZ (eZ (aZ (cZ (rZ ti111 J) ?_)))))))))))))
  refine cZ (rZ ti3 J) ?_
  refine dZ J (cZ (qX (c := ((t * 64 : Nat) : Int)) J J (by rw [w64 (by omega) (by omega)]; omega)) ?_)
  refine oZ call145 J (Imp.refl _) (second_spec W0 _ (m := m) (n := n) (root := root) (p := t * 64) (bs := bs) hr (by omega)) J ?_
  rintro ⟨⟩ -
  refine dZ J (cZ (uZ J J) (cZ (uZ J J) (gZ J (gZ J (fZ (bZ (eZ ?_)))))))
  rcases hs2 : (secR n bs root (t * 64)).2
  ·exact aZ (dZ J (cZ (pQ J) (fZ (bZ (gQ J (dX (yZ (oQ (bZ (aZ (cZ (eQ J J wO) (dZ J (fZ (yQ (t + 1) (show t + 1 ≤ 64 by omega) (show 64 - (t + 1) < 64 - t by omega) eS (by rw [pagesTo_none hs2]; exact Imp.refl _)))))))))))))))
  ·refine aZ (dZ J (cZ (pQ J) (fZ (bZ (qZ J (wZ (bZ (eZ (aZ (dZ J (cZ (qX (c := ((t * 64 : Nat) : Int)) J J (by rw [w64 (by omega) (by omega)]; omega)) ?_)))))))))))
   refine gZ J (fZ (bZ (fQ (iX (fun p : Nat => t * 64 ≤ p ∧ p ≤ (t + 1) * 64) (fun p => [(0, yv l), (1, .pointer (some ⟨bm, 0, none⟩)), (2, .pointer (some ⟨br, 0, none⟩)), (4, .int .i64 t), (7, .int .i64 p), (11, .int .i64 t)]) (fun p => M m n bs :: blk bm [.pointer (some ⟨m, 0, none⟩)] 111 :: blk br [.int .i64 root] 3 :: Y (pagesTo n bs root p).length) (fun p => (t + 1) * 64 - p) (t * 64) (by omega) eS (Imp.refl _) ?_))))
   rintro p ⟨hp1, hp2⟩
   refine eZ (eZ (aZ (dZ J (dZ J (cZ (eQ J J wO) (cZ (qX J J wO) (cZ bQ ?_)))))))
   refine fZ (bZ (wQ J (fun hc => ?_) (fun hc => ?_)))
   ·try replace hc := odT hc
    have hp3 : p < (t + 1) * 64 := by omega
    refine wZ (bZ (eZ (fQ (eZ (aZ (cZ (rZ ti111 J) ?_))))))
    refine cZ (rZ ti3 J) ?_
    refine dZ J (oZ call84 J (Imp.refl _) (walk_spec W0 _ (m := m) (n := n) (root := root) (p := p) (bs := bs) hr (by omega)) J ?_)
    rintro ⟨⟩ -
    refine dZ J (cZ (uZ J J) (cZ (uZ J J) (cZ (uZ J J) (gZ J (gZ J (gZ J (fZ (bZ (eZ ?_)))))))))
    rcases walkR_0 (n := n) (bs := bs) (root := root) (p := p) with ⟨hw, -⟩ | hw
    ·have hk := pagesTo_lt (q := 4096) hw (by omega)
     have hyk := hy _ hk
     rw [show pgEnc (pages n bs root) (pagesTo n bs root p).length = [.int .i64 p, .int .i64 (walkR n bs root p).1] from pgEnc_at (pagesTo_get hw (by omega))] at hyk
     refine aZ (dZ J (cZ yX ?_))
     refine dZ J (iZ J J (dZ J (iZ J J (dZ J (iZ J J (dZ J (iZ J J (OG.yieldc J J (Imp.refl _) (hyk) J ?_))))))))
     rintro o ho
     refine iZ J J (cZ (pQ J) (cZ jZ ?_))
     refine fZ (bZ (wQ J (fun hc => ?_) (fun hc => ?_)))
     ·try replace hc := odT hc
      obtain ⟨i, rfl⟩ : ∃ i, o = some i := by cases o with | none => simp at hc | some i => exact ⟨i, rfl⟩
      exact tZ (mQ (vZ (vZ (mQ (mQ (vZ (vZ (mQ (QG.ret0 J (some i) ho J (Imp.refl _))))))))))
     ·try replace hc := odF hc
      obtain rfl : o = none := by cases o with | none => rfl | some i => simp at hc
      exact wZ (sZ (bZ (aZ (dZ J (cZ (eQ J J wO) (gZ J (fZ (yQ (p + 1) (by omega) (by omega) eS (by rw [pagesTo_yes hw]; exact Imp.refl _)))))))))
    ·refine aZ (dZ J (cZ yX ?_))
     refine dZ J (iQ J J J J J (iQ J J J J J (iQ J J J J J (iQ J J J J J (iQ J J J J J (cZ jZ ?_))))))
     exact fZ (bZ (qZ J (wZ (sZ (bZ (aZ (dZ J (cZ (eQ J J wO) (gZ J (fZ (yQ (p + 1) (by omega) (by omega) eS (by rw [pagesTo_no (by rw [hw]; decide)]; exact Imp.refl _))))))))))))
   ·try replace hc := odF hc
    refine dX (yZ (yZ (oQ (sZ (bZ (aZ (cZ (eQ J J wO) (dZ J (fZ ?_)))))))))
    obtain rfl : p = (t + 1) * 64 := by omega
    exact yQ (t + 1) (show t + 1 ≤ 64 by omega) (show 64 - (t + 1) < 64 - t by omega) eS (Imp.refl _)
 ·try replace hc := odF hc
  refine dX (yZ (yZ (oQ ?_)))
  obtain rfl : t = 64 := by omega
  exact jV J none trivial J (Imp.refl _)
end
end Go.Proofs.YtphljkplokjonaaGreat.Pg
namespace Go.Proofs.YtphljkplokjonaaGreat.Pg
open Go Go.Sl Go.RowKit Go.Proofs Go.Proofs.YtphljkplokjonaaGreat.T Go.Proofs.YtphljkplokjonaaGreat.Me Go.Proofs.YtphljkplokjonaaGreat.Pe
def ent (w : Nat) : Option (Nat × Nat) := if (sp w).2.2 = true then some ((sp w).1.toNat, (sp w).2.1.toNat) else none
theorem sp_ent (w : Nat) : sp w = match ent w with | some x => ((x.1 : Int), (x.2 : Int), true) | none => (0, 0, false) := by
 unfold ent sp
 split
 ·simp; omega
 ·simp
theorem ent_zero : ent 0 = none := by unfold ent; rw [sp_zero]; rfl
theorem ent_entry {f p : Nat} (hf : f < 1024) (hp : p ≤ 7) : ent (entryOf f p).toNat = some (f, p) := by
 obtain ⟨h1, h2⟩ := sp_entry hf hp
 rw [h1, Int.toNat_natCast]; unfold ent; rw [h2]; simp
theorem entry_mod (f p : Int) : (entryOf f p).toNat % 4294967296 = (entryOf f p).toNat := Nat.mod_eq_of_lt (by have := entryOf_range f p; omega)
def tab (n : Nat) (bs : List UInt8) (root g : Nat) : Option Nat := (ent (word bs root g)).bind fun x => if x.1 < n then some x.1 else none
def wk (n : Nat) (bs : List UInt8) (root p : Nat) : Option (Nat × Nat) := (tab n bs root (p / 64)).bind fun q => ent (word bs q (p % 64))
theorem secR_tab {n : Nat} {bs : List UInt8} {root p : Nat} : (secR n bs root p).2 = (tab n bs root (p / 64)).isSome ∧ ∀ q, tab n bs root (p / 64) = some q → (secR n bs root p).1 = q := by
 unfold secR tab
 rw [sp_ent]
 cases ent (word bs root (p / 64)) with
 | none => exact ⟨rfl, fun q h => (by cases h)⟩
 | some x =>
  simp only [Option.bind_some, Bool.true_and]
  by_cases hx : x.1 < n
  ·rw [if_pos hx]; exact ⟨by simp [hx], fun q h => (by cases h; rfl)⟩
  ·rw [if_neg hx]; exact ⟨by simp [hx], fun q h => (by cases h)⟩
theorem tab_lt {n : Nat} {bs : List UInt8} {root g q : Nat} (h : tab n bs root g = some q) : q < n := by
 unfold tab at h
 cases hx : ent (word bs root g) with
 | none => rw [hx] at h; cases h
 | some x =>
  rw [hx] at h
  simp only [Option.bind_some] at h
  split at h
  ·cases h; assumption
  ·cases h
theorem walkR_wk {n : Nat} {bs : List UInt8} {root p : Nat} : walkR n bs root p = match wk n bs root p with | some x => ((x.1 : Int), (x.2 : Int), 0) | none => (0, 0, 90) := by
 obtain ⟨h1, h2⟩ := secR_tab (n := n) (bs := bs) (root := root) (p := p)
 unfold walkR wk
 cases ht : tab n bs root (p / 64) with
 | none => rw [ht] at h1; rw [h1]; simp
 | some q =>
  rw [ht] at h1
  rw [h1, h2 q ht, Int.toNat_natCast, sp_ent]
  simp only [Option.bind_some]
  cases ent (word bs q (p % 64)) <;> simp
theorem walkR_some {n : Nat} {bs : List UInt8} {root p : Nat} {x : Nat × Nat} (h : wk n bs root p = some x) : walkR n bs root p = ((x.1 : Int), (x.2 : Int), 0) := by rw [walkR_wk, h]
theorem walkR_none {n : Nat} {bs : List UInt8} {root p : Nat} (h : wk n bs root p = none) : walkR n bs root p = (0, 0, 90) := by rw [walkR_wk, h]
theorem setR_tab {n : Nat} {bs : List UInt8} {root p e q : Nat} {spare : Int} (h : tab n bs root (p / 64) = some q) : setR n bs root p e spare = (false, 0, stW bs q (p % 64) e) := by
 obtain ⟨h1, h2⟩ := secR_tab (n := n) (bs := bs) (root := root) (p := p)
 unfold setR; rw [h1, h2 q h, h]; simp
theorem setR_new {n : Nat} {bs : List UInt8} {root p e q : Nat} (h : tab n bs root (p / 64) = none) (hq : q < n) : setR n bs root p e q = (true, 0, stW (stW (overB bs (q * 256) (fillB [])) root (p / 64) (entryOf q 0).toNat) q (p % 64) e) := by
 obtain ⟨h1, h2⟩ := secR_tab (n := n) (bs := bs) (root := root) (p := p)
 unfold setR; rw [h1, h, if_neg (by decide), if_pos (by omega), Int.toNat_natCast]
structure Tree (n : Nat) (bs : List UInt8) (root : Nat) : Prop where
 len : bs.length = n * 256
 rt : root < n
 nr : ∀ g, g < 64 → tab n bs root g ≠ some root
 inj : ∀ g g' q, g < 64 → g' < 64 → tab n bs root g = some q → tab n bs root g' = some q → g = g'
def same (bs cs : List UInt8) (t : Nat) : Prop := ∀ i, i < 64 → word cs t i = word bs t i
theorem tab_same {n : Nat} {bs cs : List UInt8} {root g : Nat} (h : same bs cs root) (hg : g < 64) : tab n cs root g = tab n bs root g := by unfold tab; rw [h g hg]
theorem wk_same {n : Nat} {bs cs : List UInt8} {root p : Nat} (h : same bs cs root) (hp : p < 4096) (hs : ∀ q, tab n bs root (p / 64) = some q → same bs cs q) : wk n cs root p = wk n bs root p := by
 unfold wk
 rw [tab_same h (by omega)]
 cases ht : tab n bs root (p / 64) with
 | none => rfl
 | some q => simp only [Option.bind_some]; rw [hs q ht _ (by omega)]
theorem Tree.other {n : Nat} {bs cs : List UInt8} {root : Nat} (T : Tree n bs root) (hl : cs.length = n * 256) (h : same bs cs root) (hs : ∀ g q, g < 64 → tab n bs root g = some q → same bs cs q) :
 Tree n cs root ∧ (∀ g, g < 64 → tab n cs root g = tab n bs root g) ∧ ∀ p, p < 4096 → wk n cs root p = wk n bs root p :=
 ⟨⟨hl, T.rt, fun g hg => by rw [tab_same h hg]; exact T.nr g hg, fun g g' q hg hg' => by rw [tab_same h hg, tab_same h hg']; exact T.inj g g' q hg hg'⟩, fun g hg => tab_same h hg, fun p hp => wk_same h hp fun q hq => hs _ q (by omega) hq⟩
theorem same_st {n : Nat} {bs : List UInt8} {t i v t' : Nat} (hl : bs.length = n * 256) (ht : t < n) (hi : i < 64) (ht' : t' < n) (hne : t' ≠ t) : same bs (stW bs t i v) t' := fun i' hi' => by
 rw [word_st hl ht hi ht' hi', if_neg (by omega)]
theorem same_fill {n : Nat} {bs : List UInt8} {q t' : Nat} (hl : bs.length = n * 256) (hq : q < n) (ht' : t' < n) (hne : t' ≠ q) : same bs (overB bs (q * 256) (fillB [])) t' := fun i' hi' => by
 rw [word_fill hl hq ht' hi', if_neg hne]
theorem Tree.st {n : Nat} {bs : List UInt8} {root p q : Nat} (T : Tree n bs root) (hp : p < 4096) (hq : tab n bs root (p / 64) = some q) (v : Nat) :
 Tree n (stW bs q (p % 64) v) root ∧ (∀ g, g < 64 → tab n (stW bs q (p % 64) v) root g = tab n bs root g) ∧ ∀ p', p' < 4096 → wk n (stW bs q (p % 64) v) root p' = if p' = p then ent (v % 4294967296) else wk n bs root p' := by
 have hi : p % 64 < 64 := Nat.mod_lt _ (by decide)
 have hqn := tab_lt hq
 have hne : root ≠ q := fun h => T.nr (p / 64) (by omega) (by rw [hq, h])
 have hr := same_st (v := v) T.len hqn hi T.rt hne
 refine ⟨⟨stW_len T.len hqn hi, T.rt, fun g hg => by rw [tab_same hr hg]; exact T.nr g hg, fun g g' q' hg hg' => by rw [tab_same hr hg, tab_same hr hg']; exact T.inj g g' q' hg hg'⟩, fun g hg => tab_same hr hg, fun p' hp' => ?_⟩
 unfold wk
 rw [tab_same hr (by omega)]
 cases ht : tab n bs root (p' / 64) with
 | none => rw [if_neg (by rintro rfl; rw [hq] at ht; cases ht)]; rfl
 | some q' =>
  simp only [Option.bind_some]
  rw [word_st T.len hqn hi (tab_lt ht) (by omega)]
  by_cases h : p' = p
  ·subst h
   rw [hq] at ht; cases ht
   rw [if_pos ⟨rfl, rfl⟩, if_pos J]
  ·rw [if_neg h, if_neg]
   rintro ⟨rfl, h2⟩
   have := T.inj _ _ _ (by omega) (by omega) hq ht
   omega
theorem Tree.new {n : Nat} {bs : List UInt8} {root p q : Nat} (T : Tree n bs root) (hn : n ≤ 1024) (hp : p < 4096) (hq : tab n bs root (p / 64) = none) (hqn : q < n) (hqr : q ≠ root) (hfr : ∀ g, g < 64 → tab n bs root g ≠ some q) (v : Nat) :
 Tree n (stW (stW (overB bs (q * 256) (fillB [])) root (p / 64) (entryOf q 0).toNat) q (p % 64) v) root ∧
 (∀ g, g < 64 → tab n (stW (stW (overB bs (q * 256) (fillB [])) root (p / 64) (entryOf q 0).toNat) q (p % 64) v) root g = if g = p / 64 then some q else tab n bs root g) ∧
 ∀ p', p' < 4096 → wk n (stW (stW (overB bs (q * 256) (fillB [])) root (p / 64) (entryOf q 0).toNat) q (p % 64) v) root p' = if p' = p then ent (v % 4294967296) else wk n bs root p' := by
 have hi : p / 64 < 64 := by omega
 have hl1 := fill_len T.len hqn
 have hl2 := stW_len (v := (entryOf q 0).toNat) hl1 T.rt hi
 have w1 : ∀ t i, t < n → i < 64 → word (stW (overB bs (q * 256) (fillB [])) root (p / 64) (entryOf q 0).toNat) t i = if t = root ∧ i = p / 64 then (entryOf q 0).toNat else if t = q then 0 else word bs t i := fun t i ht hi' => by
  rw [word_st hl1 T.rt hi ht hi', entry_mod, word_fill T.len hqn ht hi']
 generalize hB : stW (overB bs (q * 256) (fillB [])) root (p / 64) (entryOf q 0).toNat = B at w1 hl2 ⊢
 have ht : ∀ g, g < 64 → tab n B root g = if g = p / 64 then some q else tab n bs root g := fun g hg => by
  unfold tab
  rw [w1 root g T.rt hg]
  by_cases h : g = p / 64
  ·rw [if_pos ⟨rfl, h⟩, if_pos h, show (entryOf (q : Int) 0) = entryOf (q : Int) ((0 : Nat) : Int) from J, ent_entry (by omega) (by decide)]
   simp [hqn]
  ·rw [if_neg (by omega), if_neg (Ne.symm hqr), if_neg h]
 have T2 : Tree n B root := by
  refine ⟨hl2, T.rt, fun g hg => ?_, fun g g' q' hg hg' h1 h2 => ?_⟩
  ·rw [ht g hg]; split
   ·exact fun h => hqr (Option.some.inj h)
   ·exact T.nr g hg
  ·rw [ht g hg] at h1; rw [ht g' hg'] at h2
   split at h1 <;> split at h2
   ·omega
   ·cases h1; exact absurd h2 (hfr g' hg')
   ·cases h2; exact absurd h1 (hfr g hg)
   ·exact T.inj g g' q' hg hg' h1 h2
 have hw : ∀ p', p' < 4096 → wk n B root p' = wk n bs root p' := fun p' hp' => by
  unfold wk
  rw [ht (p' / 64) (by omega)]
  by_cases h : p' / 64 = p / 64
  ·rw [if_pos h, h, hq]
   simp only [Option.bind_some, Option.bind_none]
   rw [w1 q _ hqn (by omega), if_neg (by omega), if_pos J, ent_zero]
  ·rw [if_neg h]
   cases hq' : tab n bs root (p' / 64) with
   | none => rfl
   | some q' =>
    simp only [Option.bind_some]
    rw [w1 q' _ (tab_lt hq') (by omega), if_neg (fun h => T.nr (p' / 64) (by omega) (by rw [hq', h.1])), if_neg (fun h => hfr (p' / 64) (by omega) (by rw [hq', h]))]
 obtain ⟨a1, a2, a3⟩ := T2.st hp (by rw [ht _ hi, if_pos rfl]) v
 exact ⟨a1, fun g hg => by rw [a2 g hg, ht g hg], fun p' hp' => by rw [a3 p' hp', hw p' hp']⟩
theorem pl_wk {n : Nat} {bs : List UInt8} {root p : Nat} : pl n bs root p = match wk n bs root p with | some x => [(p, (x.1 : Int))] | none => [] := by
 unfold pl; rw [walkR_wk]
 cases wk n bs root p <;> rfl
end Go.Proofs.YtphljkplokjonaaGreat.Pg
namespace Go.Proofs.YtphljkplokjonaaGreat.Fz
open Go Go.Sl Go.RowKit Go.Proofs Go.Proofs.YtphljkplokjonaaGreat.T Tryz
def iv (l : List Int) : List Value := l.map (Value.int .i64)
theorem iv_len (l : List Int) : (iv l).length = l.length := by simp [iv]
theorem iv_get {l : List Int} {i : Nat} {x : Int} (h : l[i]? = some x) : (iv l)[i]? = some (.int .i64 x) := by simp [iv, h]
theorem iv_ones (l : List Int) : ∀ v ∈ iv l, one v = true := by intro v hv; simp only [iv, List.mem_map] at hv; obtain ⟨x, _, rfl⟩ := hv; rfl
theorem iv_set (l : List Int) (i : Nat) (x : Int) : (iv l).set i (.int .i64 x) = iv (l.set i x) := by simp [iv, List.map_set]
abbrev oiv (a : Option Addr) (c : Nat) (xs : List Int) : HProp := osl 3 1 a c xs.length (iv xs)
def cnt (own : List Int) (p : Int) : Nat := own.count p
def nerr (total : Int) (qs : List Int) : Int := if total < 1 ∨ 1024 < total then 2 else if 8 < qs.length then 9 else if ∃ q ∈ qs, q < 0 ∨ 1024 < q then 2 else if total < qs.sum then 141 else 0
structure Inv (own qs : List Int) : Prop where
 tot : 1 ≤ own.length ∧ own.length ≤ 1024
 ql : qs.length ≤ 8
 who : ∀ x ∈ own, x = -1 ∨ (0 ≤ x ∧ x < qs.length)
 few : ∀ (k : Nat) (q : Int), qs[k]? = some q → (cnt own k : Int) ≤ q
 sum : qs.sum ≤ own.length
theorem cnt_le (own : List Int) (p : Int) : cnt own p ≤ own.length := List.count_le_length
theorem cnt_pos {own : List Int} {p : Int} {i : Nat} (h : own[i]? = some p) : 0 < cnt own p := List.count_pos_iff.2 (List.mem_of_getElem? h)
theorem cnt_take {own : List Int} {p x : Int} {i : Nat} (h : own[i]? = some x) : cnt (own.take (i + 1)) p = cnt (own.take i) p + if x = p then 1 else 0 := by
 obtain ⟨hi, rfl⟩ := List.getElem?_eq_some_iff.1 h
 unfold cnt
 rw [List.take_succ_eq_append_getElem hi, List.count_append, List.count_singleton]
 by_cases hx : own[i] = p <;> simp [hx]
theorem cnt_set {own : List Int} {i : Nat} {x y p : Int} (h : own[i]? = some x) : cnt (own.set i y) p = cnt own p - (if x = p then 1 else 0) + if y = p then 1 else 0 := by
 obtain ⟨hi, rfl⟩ := List.getElem?_eq_some_iff.1 h
 unfold cnt
 rw [List.count_set hi]
 simp only [beq_iff_eq]
theorem below_sum (own qs : List Int) (hf : ∀ (k : Nat) (q : Int), qs[k]? = some q → (cnt own k : Int) ≤ q) : ∀ m, m ≤ qs.length → ((own.countP fun x => decide (0 ≤ x ∧ x < (m : Int)) : Nat) : Int) ≤ (qs.take m).sum ∧
 ∀ (p : Nat) (q : Int), p < m → qs[p]? = some q → (cnt own p : Int) < q → ((own.countP fun x => decide (0 ≤ x ∧ x < (m : Int)) : Nat) : Int) < (qs.take m).sum
 | 0, _ => by
  have : own.countP (fun x => decide (0 ≤ x ∧ x < ((0 : Nat) : Int))) = 0 := by rw [List.countP_eq_zero]; intro x _; simp only [decide_eq_true_eq]; omega
  rw [this]; exact ⟨by simp, fun p q h => absurd h (Nat.not_lt_zero _)⟩
 | m + 1, hm => by
  obtain ⟨ih1, ih2⟩ := below_sum own qs hf m (by omega)
  have hget : qs[m]? = some qs[m] := by simp [show m < qs.length by omega]
  have e : own.countP (fun x => decide (0 ≤ x ∧ x < ((m + 1 : Nat) : Int))) = own.countP (fun x => decide (0 ≤ x ∧ x < (m : Int))) + cnt own m := by
   clear ih1 ih2 hf
   unfold cnt
   induction own with
   | nil => rfl
   | cons x l ih =>
    rw [List.countP_cons, List.countP_cons, List.count_cons, ih]
    by_cases h1 : 0 ≤ x ∧ x < (m : Int)
    ·rw [if_pos (by simp; omega), if_pos (by simp; omega), if_neg (by simp; omega)]; omega
    ·by_cases h2 : x = (m : Int)
     ·rw [if_pos (by simp; omega), if_neg (by simp; omega), if_pos (by simp; omega)]; omega
     ·rw [if_neg (by simp; omega), if_neg (by simp; omega), if_neg (by simp; omega)]; omega
  have es : (qs.take (m + 1)).sum = (qs.take m).sum + qs[m] := by rw [List.take_succ_eq_append_getElem (by omega), List.sum_append]; simp
  have hq := hf m _ hget
  rw [e, es]
  refine ⟨by omega, fun p q hp hpq hc => ?_⟩
  rcases Nat.lt_or_ge p m with h | h
  ·have := ih2 p q h hpq hc; omega
  ·have : p = m := by omega
   subst this
   rw [hget] at hpq
   have := Option.some.inj hpq
   omega
theorem free_frame {own qs : List Int} (h : Inv own qs) {p : Nat} {q : Int} (hp : qs[p]? = some q) (hc : (cnt own p : Int) < q) : ∃ n, own.findIdx? (fun x => decide (x = -1)) = some n ∧ own[n]? = some (-1) := by
 have hpl := (List.getElem?_eq_some_iff.1 hp).1
 have hb := (below_sum own qs h.few qs.length (Nat.le_refl _)).2 p q hpl hp hc
 rw [List.take_length] at hb
 cases hf : own.findIdx? (fun x => decide (x = -1)) with
 | some n =>
  obtain ⟨h1, h2, _⟩ := List.findIdx?_eq_some_iff_getElem.1 hf
  exact ⟨n, rfl, by simp only [decide_eq_true_eq] at h2; simp [h1, h2]⟩
 | none =>
  exfalso
  have hall : own.countP (fun x => decide (0 ≤ x ∧ x < (qs.length : Int))) = own.length := by
   rw [List.countP_eq_length]
   intro x hx
   have h1 := List.findIdx?_eq_none_iff.1 hf x hx
   have h2 := h.who x hx
   simp only [decide_eq_false_iff_not] at h1
   simp only [decide_eq_true_eq]
   rcases h2 with h2 | h2
   ·exact absurd h2 h1
   ·exact h2
  rw [hall] at hb
  have := h.sum
  omega
theorem inv_take {own qs : List Int} (h : Inv own qs) {p n : Nat} {q : Int} (hp : qs[p]? = some q) (hc : (cnt own p : Int) < q) (hn : own[n]? = some (-1)) : Inv (own.set n p) qs := by
 have hpl := (List.getElem?_eq_some_iff.1 hp).1
 refine ⟨by rw [List.length_set]; exact h.tot, h.ql, fun x hx => ?_, fun k r hk => ?_, by rw [List.length_set]; exact h.sum⟩
 ·rcases List.mem_or_eq_of_mem_set hx with hx | rfl
  ·exact h.who x hx
  ·exact .inr ⟨by omega, by omega⟩
 ·rw [cnt_set hn, if_neg (by omega), Nat.sub_zero]
  have := h.few k r hk
  by_cases hkp : (p : Int) = (k : Int)
  ·have : p = k := by omega
   subst this
   rw [hp] at hk; have := Option.some.inj hk
   rw [if_pos J]; omega
  ·rw [if_neg hkp]; omega
theorem inv_new {total : Nat} {qs : List Int} (h : nerr total qs = 0) : Inv (List.replicate total (-1)) qs := by
 unfold nerr at h
 split at h
 ·cases h
 ·split at h
  ·cases h
  ·split at h
   ·cases h
   ·split at h
    ·cases h
    ·rename_i h1 h2 h3 h4
     refine ⟨by rw [List.length_replicate]; omega, by omega, fun x hx => .inl (List.eq_of_mem_replicate hx), fun k q hk => ?_, by rw [List.length_replicate]; omega⟩
     have : cnt (List.replicate total (-1)) k = 0 := by
      unfold cnt; rw [List.count_eq_zero]; intro hm; have := List.eq_of_mem_replicate hm; omega
     rw [this]
     have hm := List.mem_of_getElem? hk
     rcases Int.lt_or_le q 0 with h5 | h5
     ·exact absurd ⟨q, hm, .inl h5⟩ h3
     ·exact h5
theorem nerr_ok {total : Int} {qs : List Int} (h : nerr total qs = 0) : (1 ≤ total ∧ total ≤ 1024) ∧ qs.length ≤ 8 ∧ (∀ q ∈ qs, 0 ≤ q ∧ q ≤ 1024) ∧ qs.sum ≤ total := by
 unfold nerr at h
 split at h
 ·cases h
 ·split at h
  ·cases h
  ·split at h
   ·cases h
   ·split at h
    ·cases h
    ·rename_i h1 h2 h3 h4
     refine ⟨by omega, by omega, fun q hq => ?_, by omega⟩
     by_cases h5 : q < 0 ∨ 1024 < q
     ·exact absurd ⟨q, hq, h5⟩ h3
     ·omega
theorem sum_bound (qs : List Int) (h : ∀ q ∈ qs, 0 ≤ q ∧ q ≤ 1024) : 0 ≤ qs.sum ∧ qs.sum ≤ 1024 * qs.length := by
 induction qs with
 | nil => simp
 | cons q qs ih =>
  have h1 := h q (by simp)
  have h2 := ih fun x hx => h x (by simp [hx])
  rw [List.sum_cons, List.length_cons]; omega
abbrev PA := Option Addr × Nat
def owC (own : List Int) : List Value := iv (own ++ List.replicate (1024 - own.length) (-1))
theorem owC_len {own : List Int} (h : own.length ≤ 1024) : (owC own).length = 1024 := by unfold owC; rw [iv_len]; simp; omega
theorem owC_get {own : List Int} {i : Nat} {x : Int} (h : own[i]? = some x) : (owC own)[i]? = some (.int .i64 x) := by
 unfold owC; exact iv_get (by rw [List.getElem?_append_left (List.getElem?_eq_some_iff.1 h).1]; exact h)
theorem owC_set {own : List Int} {i : Nat} (x : Int) (h : i < own.length) : (owC own).set i (.int .i64 x) = owC (own.set i x) := by
 unfold owC; rw [iv_set, List.set_append_left _ _ h, List.length_set]
abbrev fcells (own qs : List Int) (p : PA) : List Value := owC own ++ [.int .i64 own.length, .slice p.1 qs.length p.2]
theorem fc_get {own qs : List Int} {p : PA} {i : Nat} {x : Int} (hl : own.length ≤ 1024) (h : own[i]? = some x) : (fcells own qs p)[i]? = some (.int .i64 x) := by
 have := (List.getElem?_eq_some_iff.1 h).1
 unfold fcells; rw [List.getElem?_append_left (by rw [owC_len hl]; omega)]; exact owC_get h
theorem fc_tot {own qs : List Int} {p : PA} (hl : own.length ≤ 1024) : (fcells own qs p)[1024]? = some (.int .i64 own.length) := by
 unfold fcells; rw [List.getElem?_append_right (by rw [owC_len hl]; omega), owC_len hl]; rfl
theorem fc_qs {own qs : List Int} {p : PA} (hl : own.length ≤ 1024) : (fcells own qs p)[1025]? = some (.slice p.1 qs.length p.2) := by
 unfold fcells; rw [List.getElem?_append_right (by rw [owC_len hl]; omega), owC_len hl]; rfl
theorem fc_set {own qs : List Int} {p : PA} {i : Nat} (x : Int) (hl : own.length ≤ 1024) (h : i < own.length) : (fcells own qs p).set i (.int .i64 x) = fcells (own.set i x) qs p := by
 unfold fcells; rw [List.set_append_left _ _ (by rw [owC_len hl]; omega), owC_set x h, List.length_set]
theorem fc_len {own qs : List Int} {p : PA} (hl : own.length ≤ 1024) : (fcells own qs p).length = 1026 := by unfold fcells; rw [List.length_append, owC_len hl]; rfl
abbrev FO (f : Nat) (own qs : List Int) (p : PA) : List HProp := [blk f (fcells own qs p) 226, oiv p.1 p.2 qs]
def F (f : Nat) (own qs : List Int) : HProp := fun h => ∃ p : PA, own.length ≤ 1024 ∧ Star (FO f own qs p) h
theorem f_open {f : Nat} {own qs : List Int} (y : Heaplet) (h : F f own qs y) : ∃ p : PA, own.length ≤ 1024 ∧ Star (FO f own qs p) y := h
theorem f_close {f : Nat} {own qs : List Int} {G : List HProp} (p : PA) (hl : own.length ≤ 1024) : Imp (FO f own qs p ++ G) (F f own qs :: G) :=
 Imp.trans star_close (Imp.head fun y hy => ⟨p, hl, hy⟩)
abbrev isP (qs : List Int) (p : Int) : Prop := 0 ≤ p ∧ p < qs.length
section
variable (W0 : World) (Fr : List HProp)
theorem part_spec {f : Nat} {own qs : List Int} (p : Int) : Ctr prog W0 170 [.pointer (some ⟨f, 0, none⟩), .int .i64 p] (F f own qs :: Fr) (fun _ : Unit => True) (fun _ => .bool (decide (isP qs p))) (fun _ => F f own qs :: Fr) := by
 refine Ctr.ex Ext.here f_open ?_
 rintro ⟨a, c⟩ hl
 refine Ctr.imp star_open ?_
 dsimp only [FO, List.cons_append, List.nil_append]
 refine Ctr.of_body func170 J ntmps170 J (eZ (aZ (gZ J (fZ (bZ (eZ ?_))))))
 rcases (show p < 0 ∨ (0 ≤ p ∧ ¬ p < qs.length) ∨ (0 ≤ p ∧ p < qs.length) by omega) with hh | hh | hh
 ·refine aZ (dZ J (cZ zQ ?_))
  refine dZ J (iQ J J J J J (iQ J J J J J (iQ J J J J J (iQ J J J J J (iQ J J J J J (iQ J J J J J (iQ J J J J J (cZ jZ ?_))))))))
  exact gZ J (fZ (bZ (tZ (xZ J J () trivial (by rw [decide_eq_false (by omega)]) (Imp.trans iM (f_close (a, c) hl))))))
 ·refine aZ (dZ J (cZ zQ ?_))
  refine dZ J (iZ J J (dZ J (iZ J J (dZ J (iZ J J (cQ J (iZ J J (pZ fa226_2 J (iZ J J (cZ (hZ (v := .slice a qs.length c) ti80 J (Cel.of_blk (b := f) eX (fc_qs hl))) ?_))))))))))
  refine iZ J J (cZ (lZ underlying80 J J) (iZ J J (cZ bQ ?_)))
  refine cZ jZ ?_
  exact gZ J (fZ (bZ (tZ (xZ J J () trivial (by rw [decide_eq_false (by omega)]) (Imp.trans iM (f_close (a, c) hl))))))
 ·refine aZ (dZ J (cZ zQ ?_))
  refine dZ J (iZ J J (dZ J (iZ J J (dZ J (iZ J J (cQ J (iZ J J (pZ fa226_2 J (iZ J J (cZ (hZ (v := .slice a qs.length c) ti80 J (Cel.of_blk (b := f) eX (fc_qs hl))) ?_))))))))))
  refine iZ J J (cZ (lZ underlying80 J J) (iZ J J (cZ bQ ?_)))
  refine cZ jZ ?_
  exact gZ J (fZ (bZ (tZ (xZ J J () trivial (by rw [decide_eq_true hh]) (Imp.trans iM (f_close (a, c) hl))))))
theorem count_open {f : Nat} {own qs : List Int} (p : PA) (hl : own.length ≤ 1024) (who : Int) : Ctr prog W0 209 [.pointer (some ⟨f, 0, none⟩), .int .i64 who] (blk f (fcells own qs p) 226 :: oiv p.1 p.2 qs :: Fr) (fun _ : Unit => True) (fun _ => .int .i64 (cnt own who)) (fun _ => blk f (fcells own qs p) 226 :: oiv p.1 p.2 qs :: Fr) := by
 obtain ⟨a, c⟩ := p
 dsimp only
 refine Ctr.of_body func209 J ntmps209 J (eZ (aZ (gZ J (fZ (bZ (eZ (aZ (gZ J (fZ (bZ (eZ (eZ (sQ (.lo 0 1 (.lo 1 1 (.lo 2 1 (.lo 3 1 (.lo 4 1 (.lo 5 1 (.lo 6 1 (.lo 7 1 (.lo 8 1 (.lo 9 1 (.done))))))))))) [] [] ([]) ([]) mixed (by kernel_rfl) (Imp.none _) (Imp.none _) (mZ J J (rQ J J (aQ J fa226_0 J (mZ J J (rQ J J (aQ J fa226_1 J (kZ J (hZ (v := .int .i64 own.length) ti3 J (Cel.of_blk (b := f) eX (fc_tot hl))) ?_))))))))))))))))))))
 refine kZ J (dQ (eV underlying224 ti3 J Bound.none (Bound.some J) (by omega) (by omega) (by omega) (by omega)) (v' := .slice (some ⟨f, 0, none⟩) own.length 1024) (by congr 1)) ?_
 refine kZ J (lZ underlying80 J J) (mZ J J (qQ (bZ (fQ (iX (fun i : Nat => i ≤ own.length) (fun i => [(1, .int .i64 who), (5, .int .i64 (cnt (own.take i) who)), (15, .slice (some ⟨f, 0, none⟩) own.length 1024), (16, .int .i64 own.length), (17, .int .i64 i)]) (fun _ => FO f own qs (a, c) ++ Fr) (fun i => own.length - i) 0 (Nat.zero_le _) eS (Imp.refl _) ?_)))))
 intro i hi
 dsimp only [FO, List.cons_append, List.nil_append]
 refine eZ (aZ (cZ bQ ?_))
 refine fZ (bZ (eZ (wQ J (fun hc => ?_) (fun hc => ?_))))
 ·try replace hc := odT hc
  have hi' : i < own.length := by omega
  have hget : own[i]? = some own[i] := by simp [hi']
  generalize own[i] = x at hget
  have hct := cnt_take (p := who) hget
  have hcl := cnt_le (own.take i) who
  rw [List.length_take] at hcl
  refine wZ (bZ (eZ (fQ (eZ (aZ (cZ (nZ underlying80 ti3 J J (by omega) (by omega)) ?_))))))
  refine cZ (hZ (v := .int .i64 x) ti3 J (Cel.of_blk (b := f) eX (by rw [show 0 + (i : Int).toNat * 1 = i by omega]; exact fc_get hl hget))) ?_
  refine gZ J (fZ (bZ (eZ (aZ (dZ J (dZ J (cZ (bX J J) (fZ (bZ (wQ J (fun hc => ?_) (fun hc => ?_)))))))))))
  ·try replace hc := odT hc
   refine aZ (dZ J (cZ (eQ J J wO) (gZ J (fZ (sZ (bZ (aZ (cZ (eQ J J wO) (dZ J (fZ (yQ (i + 1) (show i + 1 ≤ own.length by omega) (show own.length - (i + 1) < own.length - i by omega) ?_ iM)))))))))))
   rw [hct, if_pos hc]; exact eS
  ·try replace hc := odF hc
   refine wZ (sZ (bZ (aZ (cZ (eQ J J wO) (dZ J (fZ (yQ (i + 1) (show i + 1 ≤ own.length by omega) (show own.length - (i + 1) < own.length - i by omega) ?_ iM)))))))
   rw [hct, if_neg hc]; exact eS
 ·try replace hc := odF hc
  refine dX (yZ (yZ (oQ (bZ (eZ (aZ (dZ J (gZ J (fZ (bZ (tZ ?_)))))))))))
  have : i = own.length := by omega
  subst this
  rw [List.take_length]
  exact xZ J J () trivial J iM
theorem count_spec {f : Nat} {own qs : List Int} (who : Int) : Ctr prog W0 209 [.pointer (some ⟨f, 0, none⟩), .int .i64 who] (F f own qs :: Fr) (fun _ : Unit => True) (fun _ => .int .i64 (cnt own who)) (fun _ => F f own qs :: Fr) := by
 refine Ctr.ex Ext.here f_open ?_
 rintro p hl
 exact Ctr.imp star_open (Ctr.to (count_open W0 Fr p hl who) id (fun _ h => h) (fun _ => rfl) (fun _ => f_close p hl))
def left (own qs : List Int) (p : Int) : Int := match p with
 | .ofNat k => (match qs[k]? with | some q => q - cnt own k | none => 0)
 | .negSucc _ => 0
theorem left_in {own qs : List Int} {k : Nat} {q : Int} (h : qs[k]? = some q) : left own qs k = q - cnt own k := by
 show (match qs[k]? with | some q => q - (cnt own k : Int) | none => 0) = _; rw [h]
theorem left_out {own qs : List Int} {p : Int} (h : ¬ isP qs p) : left own qs p = 0 := by
 cases p with
 | ofNat k =>
  show (match qs[k]? with | some q => q - (cnt own k : Int) | none => 0) = _
  rw [List.getElem?_eq_none (by unfold isP at h; simp only [Int.ofNat_eq_natCast] at h; omega)]
 | negSucc k => rfl
theorem left_spec {f : Nat} {own qs : List Int} (p : Int) (hq : ∀ q ∈ qs, 0 ≤ q ∧ q ≤ 1024) : Ctr prog W0 171 [.pointer (some ⟨f, 0, none⟩), .int .i64 p] (F f own qs :: Fr) (fun _ : Unit => True) (fun _ => .int .i64 (left own qs p)) (fun _ => F f own qs :: Fr) := by
 refine Ctr.of_body func171 J ntmps171 J (eZ (aZ (gZ J (fZ (bZ (eZ (eZ ?_)))))))
 rcases (show isP qs p ∨ ¬ isP qs p by omega) with hh | hh
 ·refine aZ (dZ J (dZ J (oZ call170 J (Imp.refl _) (part_spec W0 Fr p) J ?_)))
  rintro ⟨⟩ -
  first | rw [decide_eq_true hh] | rw [decide_eq_false hh]
  refine cZ (pQ J) (fZ (bZ (qZ J (wZ (bZ (eZ ?_))))))
  obtain ⟨k, rfl⟩ : ∃ k : Nat, p = (k : Int) := ⟨p.toNat, by omega⟩
  have hkl : k < qs.length := by omega
  have hgk : qs[k]? = some qs[k] := by simp [hkl]
  have hqk := hq qs[k] (List.getElem_mem hkl)
  generalize qs[k] = q at hgk hqk
  refine CG.ex (A := F f own qs) eX f_open ?_
  rintro ⟨a, c⟩ hl
  refine mX star_open ?_
  have hcl := cnt_le own k
  dsimp only [FO, List.cons_append, List.nil_append]
  refine kX (fun w hw => SlR.shape (SlR.of_osl (W0 := W0) (E := 3) (sz := 1) (a := a) (c := c) (m := qs.length) (xs := iv qs) eX) (by intro h; have := iv_len qs; rw [h] at this; simp only [List.length_nil] at this; omega) w hw) ?_
  rintro ⟨b, o, rfl⟩
  refine sQ (.lo 0 0 (.lo 1 0 (.lo 2 0 (.lo 3 0 (.lo 4 0 (.lo 5 0 (.lo 6 0 (.lo 7 1 (.lo 8 1 (.eff1 9 false (.lo 10 1 (.lo 11 1 (.done))))))))))))) [9] [] ([blk f (fcells own qs (some ⟨b, o, none⟩, c)) 226, oiv (some ⟨b, o, none⟩) c qs]) ([]) mixed (by kernel_rfl) (iM) (Imp.none _) ?_
  refine mZ J J (rQ J J (aQ J fa226_2 J (kZ J (hZ (v := .slice (some ⟨b, o, none⟩) qs.length c) ti80 J (Cel.of_blk (b := f) Ext.here (fc_qs hl))) (mZ J J (kZ J (nZ underlying80 ti3 J J (by omega) (by omega)) ?_)))))
  refine kZ J (hZ (v := .int .i64 q) ti3 J (by rw [show o + (k : Int).toNat * 1 = o + k by omega]; exact (SlR.of_osl (E := 3) (Ext.there Ext.here)).cel (iv_get hgk))) ?_
  refine mZ J J (mZ J J (zZ (kQ J J call209 J (iM) (count_open W0 Fr (f := f) (own := own) (qs := qs) (some ⟨b, o, none⟩, c) hl (k : Int)) J (fun _ => iM) (fun _ => Imp.refl _) (fun _ => iM) ?_)))
  rintro ⟨⟩ -
  exact kZ J (aV J J wO) (kZ J (hQ J) (qQ (bZ (tZ (xZ J J () trivial (by rw [left_in hgk]) (Imp.trans iM (f_close (some ⟨b, o, none⟩, c) hl)))))))
 ·refine aZ (dZ J (dZ J (oZ call170 J (Imp.refl _) (part_spec W0 Fr p) J ?_)))
  rintro ⟨⟩ -
  first | rw [decide_eq_true hh] | rw [decide_eq_false hh]
  exact cZ (pQ J) (fZ (bZ (gQ J (eZ (aZ (gZ J (fZ (bZ (tZ (vZ (xZ J J () trivial (by rw [left_out hh]) iM)))))))))))
theorem fill_new (R : List Value) (hR : R.length = 1024) (x y v u : Value) (hv : one v = true) (hu : one u = true) : fillL [(0, 1024), (1024, 1), (1025, 1)] (R ++ [x, y]) [(1, v), (2, u)] = some (R ++ [v, u]) := by
 have e1 : over (R ++ [x, y]) 1024 [v] = R ++ [v, y] := by
  rw [over_one (by simp; omega), List.set_append_right _ _ (by omega), hR]; rfl
 have e2 : over (R ++ [v, y]) 1025 [u] = R ++ [v, u] := by
  rw [over_one (by simp; omega), List.set_append_right _ _ (by omega), hR]; rfl
 unfold fillL
 simp only [List.getElem?_cons_succ, List.getElem?_cons_zero, ones hv]
 rw [if_pos ⟨rfl, by simp; omega⟩, e1]
 unfold fillL
 simp only [List.getElem?_cons_succ, List.getElem?_cons_zero, ones hu]
 rw [if_pos ⟨rfl, by simp; omega⟩, e2]
 rfl
def layC (i : Nat) : List Value := iv (List.replicate i (-1) ++ List.replicate (1024 - i) 0)
theorem layC_len {i : Nat} (h : i ≤ 1024) : (layC i).length = 1024 := by unfold layC; rw [iv_len]; simp; omega
theorem layC_set {i : Nat} (h : i < 1024) (l : List Value) : (layC i ++ l).set i (.int .i64 (-1)) = layC (i + 1) ++ l := by
 rw [List.set_append_left _ _ (by rw [layC_len (by omega)]; exact h)]
 congr 1
 unfold layC
 rw [iv_set]
 congr 1
 rw [List.set_append_right _ _ (by simp), List.length_replicate, Nat.sub_self, List.replicate_succ', List.append_assoc]
 congr 1
 rw [show 1024 - i = (1024 - (i + 1)) + 1 by omega, List.replicate_succ]; rfl
theorem layC_end {total : Nat} (h : total ≤ 1024) : layC 1024 = owC (List.replicate total (-1)) := by
 unfold layC owC
 rw [Nat.sub_self, List.length_replicate, List.replicate_append_replicate, show total + (1024 - total) = 1024 by omega]
 simp
theorem sum_take {qs : List Int} {i : Nat} {q : Int} (h : qs[i]? = some q) : (qs.take (i + 1)).sum = (qs.take i).sum + q := by
 obtain ⟨hi, rfl⟩ := List.getElem?_eq_some_iff.1 h
 rw [List.take_succ_eq_append_getElem hi, List.sum_append]; simp
theorem new_ok {total c : Nat} {a : Option Addr} {qs : List Int} (hr : SlR W0 Fr 1 a qs.length (iv qs)) (he : nerr total qs = 0) : Ctr prog W0 51 [.int .i64 total, .slice a qs.length c] Fr (fun _ : Nat => True) (fun f => .tuple #[.pointer (some ⟨f, 0, none⟩), .int .i64 0]) (fun f => F f (List.replicate total (-1)) qs :: Fr) := by
 obtain ⟨ht, hql, hqs, hsum⟩ := nerr_ok he
 have hts : ∀ i, 0 ≤ (qs.take i).sum ∧ (qs.take i).sum ≤ 1024 * 8 := fun i => by
  have h1 := sum_bound (qs.take i) fun q hq => hqs q (List.mem_of_mem_take hq)
  have : (qs.take i).length ≤ 8 := by rw [List.length_take]; omega
  omega
 refine Ctr.of_body func51 J ntmps51 J (eZ (aZ (gZ J (gZ J (fZ (bZ (eZ (eZ (aZ (dZ J (cZ bQ ?_)))))))))))
 refine dZ J (iZ J J (dZ J (iZ J J (cZ fX ?_))))
 refine cZ jZ ?_
 refine fZ (bZ (qZ J (wZ (bZ (eZ (eZ (aZ (dZ J (cZ (lZ underlying80 J J) (cZ fX ?_))))))))))
 refine fZ (bZ (qZ J (wZ (bZ (eZ (aZ (gZ J (fZ (bZ (eZ (eZ (aZ (dZ J (cZ (lZ underlying80 J J) (dZ J (fZ (bZ (fQ (iX (fun i : Nat => i ≤ qs.length) (fun i => [(0, .int .i64 total), (1, .slice a qs.length c), (6, .int .i64 (qs.take i).sum), (20, .slice a qs.length c), (21, .int .i64 qs.length), (22, .int .i64 i)]) (fun _ => Fr) (fun i => qs.length - i) 0 (Nat.zero_le _) eS (Imp.refl _) ?_)))))))))))))))))))
 intro i hi
 refine eZ (aZ (cZ bQ ?_))
 refine fZ (bZ (eZ (wQ J (fun hc => ?_) (fun hc => ?_))))
 ·try replace hc := odT hc
  have hi' : i < qs.length := by omega
  have hget : qs[i]? = some qs[i] := by simp [hi']
  have hq := hqs qs[i] (List.getElem_mem hi')
  have hst := hts i
  generalize qs[i] = q at hget hq
  refine kX (fun w hw => SlR.shape hr (by intro h; have := iv_len qs; rw [h] at this; simp only [List.length_nil] at this; omega) w hw) ?_
  rintro ⟨b, o, rfl⟩
  refine wZ (bZ (eZ (fQ (eZ (aZ (cZ (nZ underlying80 ti3 J J (by omega) (by omega)) ?_))))))
  refine cZ (hZ (v := .int .i64 q) ti3 J (by rw [show o + (i : Int).toNat * 1 = o + i by omega]; exact hr.cel (iv_get hget))) ?_
  refine gZ J (fZ (bZ (eZ (eZ (aZ (dZ J (cZ bQ ?_)))))))
  refine dZ J (iZ J J (dZ J (iZ J J (cZ fX ?_))))
  refine cZ jZ ?_
  refine fZ (bZ (qZ J (wZ (bZ (aZ (dZ J (dZ J (cZ (eQ J J wO) (gZ J (fZ (sZ (bZ (aZ (cZ (eQ J J wO) (dZ J (fZ (yQ (i + 1) (show i + 1 ≤ qs.length by omega) (show qs.length - (i + 1) < qs.length - i by omega) ?_ iM)))))))))))))))))
  rw [sum_take hget]; exact eS
 ·try replace hc := odF hc
  refine dX (yZ (yZ (oQ (bZ ?_))))
  have hiq : i = qs.length := by omega
  subst hiq
  rw [List.take_length]
  refine eZ (eZ (aZ (dZ J (dZ J (cZ fX ?_)))))
  refine fZ (bZ (qZ J (wZ (bZ (eZ (aZ (dZ J (jQ (lV underlying80 ti3 J) J ?_))))))))
  rintro b40 -
  refine dZ J (jQ (Eff.append0 (k := qs.length) (ys := iv qs) J J J underlying80 underlying80 ti3 J (by decide) fC (hr.imp iM) (iv_ones qs) (by omega)) J ?_)
  rintro ⟨a42, c42⟩ -
  refine cZ (xQ (pvs := [(1, .int .i64 total), (2, .slice a42 qs.length c42)]) bu226 ti226 J ((congrArg (fun z => fillL _ z _) (show List.replicate 1025 (Value.int .i64 0) ++ [Value.slice none 0 0] = layC 0 ++ [.int .i64 0, .slice none 0 0] by unfold layC iv; rw [List.replicate_succ' (n := 1024)]; simp)).trans (fill_new (layC 0) (layC_len (by omega)) _ _ _ _ J J))) ?_
  refine jQ (sX J) J ?_
  rintro b44 -
  rw [show (Value.agg (layC 0 ++ [Value.int .i64 total, .slice a42 qs.length c42]).toArray).cells.toList = layC 0 ++ [.int .i64 total, .slice a42 qs.length c42] from J]
  refine gZ J (fZ (bZ (eZ (eZ (aZ (dZ J (fZ (bZ (fQ (iX (fun i : Nat => i ≤ 1024) (fun i => [(9, .pointer (some ⟨b44, 0, none⟩)), (45, .int .i64 i)]) (fun i => blk b44 (layC i ++ [.int .i64 total, .slice a42 qs.length c42]) 226 :: oiv a42 c42 qs :: Fr) (fun i => 1024 - i) 0 (Nat.zero_le _) eS iM ?_))))))))))
  intro i hi
  have hll := layC_len hi
  refine eZ (aZ (cZ bQ ?_))
  refine fZ (bZ (eZ (wQ J (fun hc => ?_) (fun hc => ?_))))
  ·try replace hc := odT hc
   refine wZ (bZ (eZ (fQ (eZ (aZ (dZ J (gZ J (fZ (bZ (aZ (dZ J (dZ J (cQ J (pZ fa226_0 J (cZ (rX underlying224 ti3 J J (by omega) (by omega)) ?_)))))))))))))))
   refine cX (aX ti3 J J fC J (by rw [List.length_append, hll]; omega)) J ?_
   rintro ⟨⟩ -
   rw [show 0 + 0 + (i : Int).toNat * 1 = i by omega, layC_set (by omega)]
   exact fZ (sZ (bZ (aZ (cZ (eQ J J wO) (dZ J (fZ (yQ (i + 1) (show i + 1 ≤ 1024 by omega) (show 1024 - (i + 1) < 1024 - i by omega) eS iM)))))))
  ·try replace hc := odF hc
   refine dX (yZ (yZ (oQ (bZ (eZ (aZ (dZ J (gZ J (gZ J (fZ (bZ (tZ ?_))))))))))))
   have hi : i = 1024 := by omega
   subst hi
   refine pX J J J b44 trivial J (Imp.trans ?_ (f_close (a42, c42) (by rw [List.length_replicate]; omega)))
   dsimp only [FO, fcells, List.cons_append, List.nil_append]
   rw [List.length_replicate, ← layC_end (by omega)]
   exact iM
theorem free_spec {f : Nat} {own qs : List Int} : Ctr prog W0 189 [.pointer (some ⟨f, 0, none⟩)] (F f own qs :: Fr) (fun _ : Unit => True) (fun _ => .int .i64 (cnt own (-1))) (fun _ => F f own qs :: Fr) := by
 refine Ctr.of_body func189 J ntmps189 J (eZ (aZ (gZ J (fZ (bZ (eZ (aZ (dZ J (oZ call209 J (Imp.refl _) (count_spec W0 Fr (-1)) J ?_)))))))))
 rintro ⟨⟩ -
 exact gZ J (fZ (bZ (tZ (xZ J J () trivial J iM))))
theorem take_ok {f n : Nat} {own qs : List Int} (p : Int) (hq : ∀ q ∈ qs, 0 ≤ q ∧ q ≤ 1024) (hp : isP qs p) (hlf : 0 < left own qs p) (hn : own.findIdx? (fun x => decide (x = -1)) = some n) : Ctr prog W0 122 [.pointer (some ⟨f, 0, none⟩), .int .i64 p] (F f own qs :: Fr) (fun _ : Unit => True) (fun _ => .tuple #[.int .i64 n, .int .i64 0]) (fun _ => F f (own.set n p) qs :: Fr) := by
 obtain ⟨hnl, hn1, hn2⟩ := List.findIdx?_eq_some_iff_getElem.1 hn
 refine Ctr.of_body func122 J ntmps122 J (eZ (aZ (gZ J (gZ J (fZ (bZ (eZ (eZ (aZ (dZ J (dZ J (oZ call170 J (Imp.refl _) (part_spec W0 Fr p) J ?_))))))))))))
 rintro ⟨⟩ -
 rw [decide_eq_true hp]
 refine cZ (pQ J) (fZ (bZ (qZ J (wZ (bZ (eZ (eZ (aZ (dZ J (dZ J (oZ call171 J (Imp.refl _) (left_spec W0 Fr p hq) J ?_)))))))))))
 rintro ⟨⟩ -
 refine cZ Yield.leqA ?_
 refine fZ (bZ (qZ J (wZ (bZ (CG.ex (A := F f own qs) eX f_open ?_)))))
 rintro ⟨a, c⟩ hl
 refine mX star_open ?_
 dsimp only [FO, List.cons_append, List.nil_append]
 refine eZ (eZ (aZ (dZ J (cQ J (pZ fa226_1 J (cZ (hZ (v := .int .i64 own.length) ti3 J (Cel.of_blk (b := f) eX (fc_tot hl))) ?_))))))
 refine dZ J (fZ (bZ (fQ (iX (fun i : Nat => i ≤ n) (fun i => [(0, .pointer (some ⟨f, 0, none⟩)), (1, .int .i64 p), (18, .int .i64 own.length), (19, .int .i64 i)]) (fun _ => FO f own qs (a, c) ++ Fr) (fun i => n - i) 0 (Nat.zero_le _) eS (Imp.refl _) ?_))))
 intro i hi
 have hi' : i < own.length := by omega
 have hget : own[i]? = some own[i] := by simp [hi']
 dsimp only [FO, List.cons_append, List.nil_append]
 refine eZ (aZ (cZ bQ ?_))
 refine fZ (bZ (eZ (gQ J (wZ (bZ (eZ (fQ (eZ (aZ (dZ J (gZ J (fZ (bZ (eZ (aZ (dZ J (dZ J (cQ J (pZ fa226_0 J (cZ (rX underlying224 ti3 J J (by omega) (by omega)) ?_))))))))))))))))))))
 refine cZ (hZ (v := .int .i64 own[i]) ti3 J (Cel.of_blk (b := f) eX (by rw [show 0 + 0 + (i : Int).toNat * 1 = i by omega]; exact fc_get hl hget))) ?_
 refine cZ (bX J J) (fZ (bZ (wQ J (fun hc => ?_) (fun hc => ?_))))
 ·try replace hc := odT hc
  have hin : i = n := by
   rcases Nat.lt_or_ge i n with h | h
   ·exact absurd (decide_eq_true hc) (hn2 i h)
   ·omega
  subst hin
  refine eZ (aZ (dZ J (dZ J (dZ J (cQ J (pZ fa226_0 J (cZ (rX underlying224 ti3 J J (by omega) (by omega)) ?_)))))))
  refine cX (aX ti3 J J fC J (by rw [fc_len hl]; omega)) J ?_
  rintro ⟨⟩ -
  rw [show 0 + 0 + (i : Int).toNat * 1 = i by omega, fc_set _ hl hi']
  exact fZ (bZ (eZ (aZ (dZ J (gZ J (gZ J (fZ (bZ (tZ (mQ (vZ (vZ (mQ (vZ (pX J J J () trivial J (Imp.trans iM (f_close (a, c) (by rw [List.length_set]; exact hl))))))))))))))))))
 ·try replace hc := odF hc
  have hin : i < n := by
   rcases Nat.lt_or_ge i n with h | h
   ·exact h
   ·have : i = n := by omega
    subst this
    exact absurd (of_decide_eq_true hn1) hc
  exact wZ (sZ (bZ (aZ (cZ (eQ J J wO) (dZ J (fZ (yQ (i + 1) (show i + 1 ≤ n by omega) (show n - (i + 1) < n - i by omega) eS iM)))))))
end
end Go.Proofs.YtphljkplokjonaaGreat.Fz
namespace Go.Proofs.YtphljkplokjonaaGreat.Fz
open Go Go.Sl Go.RowKit Go.Proofs Go.Proofs.YtphljkplokjonaaGreat.T
end Go.Proofs.YtphljkplokjonaaGreat.Fz
namespace Go.Proofs.YtphljkplokjonaaGreat.Tl
open Go Go.Sl Go.RowKit Go.Proofs Go.Proofs.YtphljkplokjonaaGreat.T Tryz
structure Slot where
 used : Bool
 tag : Int
 page : Int
 frame : Int
 perm : Int
deriving DecidableEq
def Slot.cells (s : Slot) : List Value := [.bool s.used, .int .i64 s.tag, .int .i64 s.page, .int .i64 s.frame, .int .i64 s.perm]
theorem Slot.len (s : Slot) : s.cells.length = 5 := rfl
theorem Slot.ones (s : Slot) : ∀ v ∈ s.cells, one v = true := by simp [Slot.cells, one]
def Slot.zero : Slot := ⟨false, 0, 0, 0, 0⟩
def hitB (tag page : Int) (s : Slot) : Bool := s.used && (s.tag == tag && s.page == page)
def oi : Option Nat → Int
 | some i => i
 | none => -1
abbrev PA := (Nat × Nat) × Nat
abbrev TO (t : Nat) (l : List Slot) (hand hits miss : Nat) (p : PA) : List HProp :=
 [blk t [.slice (some ⟨p.1.1, p.1.2, none⟩) l.length p.2, .int .i64 hand, .int .i64 hits, .int .i64 miss] 229, osl 307 5 (some ⟨p.1.1, p.1.2, none⟩) p.2 l.length ((l.map Slot.cells).flatten)]
def T (t : Nat) (l : List Slot) (hand hits miss : Nat) : HProp := fun h => ∃ p, True ∧ Star (TO t l hand hits miss p) h
theorem t_open {t : Nat} {l : List Slot} {hand hits miss : Nat} (y : Heaplet) (h : T t l hand hits miss y) : ∃ p, True ∧ Star (TO t l hand hits miss p) y := h
theorem t_close {t : Nat} {l : List Slot} {hand hits miss : Nat} {G : List HProp} (p : PA) : Imp (TO t l hand hits miss p ++ G) (T t l hand hits miss :: G) :=
 Imp.trans star_close (Imp.head fun y hy => ⟨p, trivial, hy⟩)
theorem zero_cells (n : Nat) : (List.replicate n [Value.bool false, .int .i64 0, .int .i64 0, .int .i64 0, .int .i64 0]).flatten = ((List.replicate n Slot.zero).map Slot.cells).flatten := by
 rw [List.map_replicate]; rfl
section
variable (W0 : World) (Fr : List HProp)
theorem new_spec {n : Nat} (h1 : 1 ≤ n) (h2 : n ≤ 64) : Ctr prog W0 52 [.int .i64 n] Fr (fun _ : Nat => True) (fun t => .tuple #[.pointer (some ⟨t, 0, none⟩), .int .i64 0]) (fun t => T t (List.replicate n Slot.zero) 0 0 0 :: Fr) := by
 refine Ctr.of_body func52 J ntmps52 J (eZ (aZ (gZ J (gZ J (fZ (bZ (eZ (eZ (aZ (dZ J (cZ bQ ?_)))))))))))
 refine dZ J (iZ J J (dZ J (iZ J J (cZ fX ?_))))
 refine cZ jZ ?_
 refine fZ (bZ (qZ J (wZ (bZ (eZ (aZ (dZ J (jQ (Eff.makeSlice underlying227 ti307 J (by decide) J (by omega) (by omega) (by omega)) J ?_))))))))
 rintro b11 -
 refine cZ (xQ bu229 ti229 J (cells := [_, _, _, _]) J) (jQ (sX J) J ?_)
 rintro b13 -
 refine gZ J (gZ J (fZ (bZ (tZ (pX J J J b13 trivial J (Imp.trans ?_ (t_close (l := List.replicate n Slot.zero) ((b11, 0), n))))))))
 dsimp only [TO]
 rw [List.length_replicate, ← zero_cells]
 exact iM
theorem find_spec {t hand hits miss : Nat} {l : List Slot} (tag page : Int) (hl : l.length ≤ 64) : Ctr prog W0 222 [.pointer (some ⟨t, 0, none⟩), .int .i64 tag, .int .i64 page] (T t l hand hits miss :: Fr) (fun _ : Unit => True) (fun _ => .int .i64 (oi (l.findIdx? (hitB tag page)))) (fun _ => T t l hand hits miss :: Fr) := by
 refine Ctr.ex Ext.here t_open ?_
 rintro ⟨⟨b, o⟩, c⟩ -
 refine Ctr.imp star_open ?_
 dsimp only [TO]
 refine Ctr.of_body func222 J ntmps222 J (eZ (aZ (gZ J (fZ (bZ (eZ (eZ (aZ (dZ J (cQ J (pZ fa229_0 J (cZ (rZ ti227 J) ?_))))))))))))
 refine cZ (lZ underlying227 J J) (dZ J (fZ (bZ (fQ (iX (fun i : Nat => i ≤ l.length ∧ ∀ j s, l[j]? = some s → j < i → hitB tag page s = false) (fun i => [(1, .int .i64 tag), (2, .int .i64 page), (12, .slice (some ⟨b, o, none⟩) l.length c), (13, .int .i64 l.length), (14, .int .i64 i)]) (fun _ => TO t l hand hits miss ((b, o), c) ++ Fr) (fun i => l.length - i) 0 ⟨Nat.zero_le _, fun j s _ h => absurd h (Nat.not_lt_zero _)⟩ eS (Imp.refl _) ?_)))))
 rintro i ⟨hi, hno⟩
 dsimp only [TO, List.cons_append, List.nil_append]
 refine eZ (aZ (cZ bQ ?_))
 refine fZ (bZ (eZ (wQ J (fun hc => ?_) (fun hc => ?_))))
 ·try replace hc := odT hc
  have hi' : i < l.length := by omega
  have hget : l[i]? = some l[i] := by simp [hi']
  generalize l[i] = s at hget
  refine wZ (bZ (eZ (fQ (eZ (aZ (dZ J (cZ (nZ underlying227 ti307 J J (by omega) (by omega)) ?_)))))))
  refine cZ (tQ ti307 J (Slot.len s) ((SlR.of_osl eX).elem Slot.len hget)) ?_
  refine jQ (lX ti307) J ?_
  rintro b8 -
  refine gZ J (cX (gX ti307 J J fC (Slot.len s) (Slot.ones s) J) J ?_)
  rintro ⟨⟩ -
  refine fZ (bZ (eZ (aZ (cZ (tQ ti307 J (Slot.len s) (Row.of_blk eX J)) ?_))))
  refine dZ J (dZ J (pZ fa307_1 J (pZ fa305_2 J (cZ (rZ ti3 J) ?_))))
  refine pZ fa307_1 J (pZ fa305_3 J (cZ (rZ ti3 J) ?_))
  refine cZ (xQ bu305 ti305 J (cells := [_, _, _, _]) J) (cZ (xQ bu307 ti307 J (cells := [_, _, _, _, _]) J) (cZ (Yield.agg_eql 6 (xs := s.cells) (ys := [.bool true, .int .i64 tag, .int .i64 page, .int .i64 s.frame, .int .i64 s.perm]) (b := hitB tag page s) J J (by decide) flat307 guard307 J J (by simp [Slot.cells, eqCells, cellEq, hitB])) ?_))
  refine fZ (bZ (wQ J (fun hc => ?_) (fun hc => ?_)))
  ·try replace hc := odT hc
   refine eZ (aZ (dZ J (gZ J (fZ (bZ (tZ (mQ (vZ (vZ (mQ (vZ ?_)))))))))))
   have hx : l.findIdx? (hitB tag page) = some i := by
    rw [List.findIdx?_eq_some_iff_getElem]
    have e := List.getElem?_eq_some_iff.1 hget
    obtain ⟨h3, h4⟩ := e
    exact ⟨h3, by rw [h4]; exact hc, fun j hj => by rw [hno j l[j] (by simp) hj]; decide⟩
   rw [hx]
   exact xZ J J () trivial J (Imp.trans iM (t_close ((b, o), c)))
  ·try replace hc := odF hc
   have hc2 := hc
   refine wZ (sZ (bZ (aZ (cZ (eQ J J wO) (dZ J (fZ (yQ (i + 1) ⟨by omega, fun j s' hj hlt => ?_⟩ (by omega) eS iM)))))))
   rcases Nat.lt_or_ge j i with h | h
   ·exact hno j s' hj h
   ·have : j = i := by omega
    subst this
    rw [hget] at hj; cases hj; exact hc2
 ·try replace hc := odF hc
  refine dX (yZ (yZ (oQ (bZ (eZ (aZ (gZ J (fZ (bZ (tZ ?_))))))))))
  have hx : l.findIdx? (hitB tag page) = none := by
   rw [List.findIdx?_eq_none_iff]
   intro s hs
   obtain ⟨j, hj, rfl⟩ := List.getElem_of_mem hs
   exact hno j l[j] (by simp [hj]) (by omega)
  rw [hx]
  exact xZ J J () trivial J (Imp.trans iM (t_close ((b, o), c)))
theorem free_spec {t hand hits miss : Nat} {l : List Slot} (hl : l.length ≤ 64) : Ctr prog W0 223 [.pointer (some ⟨t, 0, none⟩)] (T t l hand hits miss :: Fr) (fun _ : Unit => True) (fun _ => .int .i64 (oi (l.findIdx? (fun s => !s.used)))) (fun _ => T t l hand hits miss :: Fr) := by
 refine Ctr.ex Ext.here t_open ?_
 rintro ⟨⟨b, o⟩, c⟩ -
 refine Ctr.imp star_open ?_
 dsimp only [TO]
 refine Ctr.of_body func223 J ntmps223 J (eZ (aZ (gZ J (fZ (bZ (eZ (eZ (aZ (dZ J (cQ J (pZ fa229_0 J (cZ (rZ ti227 J) ?_))))))))))))
 refine cZ (lZ underlying227 J J) (dZ J (fZ (bZ (fQ (iX (fun i : Nat => i ≤ l.length ∧ ∀ j s, l[j]? = some s → j < i → (!s.used) = false) (fun i => [(8, .slice (some ⟨b, o, none⟩) l.length c), (9, .int .i64 l.length), (10, .int .i64 i)]) (fun _ => TO t l hand hits miss ((b, o), c) ++ Fr) (fun i => l.length - i) 0 ⟨Nat.zero_le _, fun j s _ h => absurd h (Nat.not_lt_zero _)⟩ eS (Imp.refl _) ?_)))))
 rintro i ⟨hi, hno⟩
 dsimp only [TO, List.cons_append, List.nil_append]
 refine eZ (aZ (cZ bQ ?_))
 refine fZ (bZ (eZ (wQ J (fun hc => ?_) (fun hc => ?_))))
 ·try replace hc := odT hc
  have hi' : i < l.length := by omega
  have hget : l[i]? = some l[i] := by simp [hi']
  generalize l[i] = s at hget
  refine wZ (bZ (eZ (fQ (eZ (aZ (dZ J (cZ (nZ underlying227 ti307 J J (by omega) (by omega)) ?_)))))))
  refine cZ (tQ ti307 J (Slot.len s) ((SlR.of_osl eX).elem Slot.len hget)) ?_
  refine jQ (lX ti307) J ?_
  rintro b4 -
  refine gZ J (cX (gX ti307 J J fC (Slot.len s) (Slot.ones s) J) J ?_)
  rintro ⟨⟩ -
  refine fZ (bZ (eZ (aZ (pZ fa307_0 J (cZ (hZ (v := .bool s.used) ti4 J (Cel.of_blk (b := b4) eX J)) ?_)))))
  refine cZ (pQ J) (fZ (bZ (wQ J (fun hc => ?_) (fun hc => ?_))))
  ·try replace hc := odT hc
   refine eZ (aZ (dZ J (gZ J (fZ (bZ (tZ (mQ (vZ (vZ (mQ (vZ ?_)))))))))))
   have hx : l.findIdx? (fun s => !s.used) = some i := by
    rw [List.findIdx?_eq_some_iff_getElem]
    have e := List.getElem?_eq_some_iff.1 hget
    obtain ⟨h3, h4⟩ := e
    exact ⟨h3, by rw [h4]; exact hc, fun j hj => by rw [hno j l[j] (by simp) hj]; decide⟩
   rw [hx]
   exact xZ J J () trivial J (Imp.trans iM (t_close ((b, o), c)))
  ·try replace hc := odF hc
   have hc2 := hc
   refine wZ (sZ (bZ (aZ (cZ (eQ J J wO) (dZ J (fZ (yQ (i + 1) ⟨by omega, fun j s' hj hlt => ?_⟩ (by omega) eS iM)))))))
   rcases Nat.lt_or_ge j i with h | h
   ·exact hno j s' hj h
   ·have : j = i := by omega
    subst this
    rw [hget] at hj; cases hj; exact hc2
 ·try replace hc := odF hc
  refine dX (yZ (yZ (oQ (bZ (eZ (aZ (gZ J (fZ (bZ (tZ ?_))))))))))
  have hx : l.findIdx? (fun s => !s.used) = none := by
   rw [List.findIdx?_eq_none_iff]
   intro s hs
   obtain ⟨j, hj, rfl⟩ := List.getElem_of_mem hs
   exact hno j l[j] (by simp [hj]) (by omega)
  rw [hx]
  exact xZ J J () trivial J (Imp.trans iM (t_close ((b, o), c)))
def putL (l : List Slot) (hand : Nat) (s : Slot) : List Slot × Nat :=
 match l.findIdx? (hitB s.tag s.page) with
 | some i => (l.set i s, hand)
 | none => match l.findIdx? (fun s => !s.used) with
  | some i => (l.set i s, hand)
  | none => (l.set hand s, (hand + 1) % l.length)
theorem put_cases (l : List Slot) (tag page : Int) : (∃ i, l.findIdx? (hitB tag page) = some i ∧ i < l.length) ∨ (l.findIdx? (hitB tag page) = none ∧ ∃ i, l.findIdx? (fun s => !s.used) = some i ∧ i < l.length) ∨ (l.findIdx? (hitB tag page) = none ∧ l.findIdx? (fun s => !s.used) = none) := by
 cases h1 : l.findIdx? (hitB tag page) with
 | some i => exact .inl ⟨i, rfl, (List.findIdx?_eq_some_iff_getElem.1 h1).1⟩
 | none =>
  cases h2 : l.findIdx? (fun s => !s.used) with
  | some i => exact .inr (.inl ⟨rfl, i, rfl, (List.findIdx?_eq_some_iff_getElem.1 h2).1⟩)
  | none => exact .inr (.inr ⟨rfl, rfl⟩)
theorem put_spec {t hand hits miss : Nat} {l : List Slot} (tag page frame perm : Int) (hl : l.length ≤ 64) (hh0 : hand < l.length) : Ctr prog W0 196 [.pointer (some ⟨t, 0, none⟩), .int .i64 tag, .int .i64 page, .int .i64 frame, .int .i64 perm] (T t l hand hits miss :: Fr) (fun _ : Unit => True) (fun _ => .tuple #[])
 (fun _ => T t (putL l hand ⟨true, tag, page, frame, perm⟩).1 (putL l hand ⟨true, tag, page, frame, perm⟩).2 hits miss :: Fr) := by
 refine Ctr.of_body func196 J ntmps196 J (eZ (aZ (dZ J (dZ J (dZ J (oZ call222 J (iM) (find_spec W0 Fr tag page hl) J ?_))))))
 rintro ⟨⟩ -
 refine gZ J (fZ (bZ (eZ (eZ ?_))))
 rcases put_cases l tag page with hh | hh | hh
 ·obtain ⟨i, hf, hi⟩ := hh
  rw [hf, show oi (some i) = (i : Int) from J]
  refine aZ (dZ J (cZ bQ ?_))
  refine fZ (bZ (qZ J (wZ (bZ (eZ (eZ (aZ (dZ J (cZ bQ ?_)))))))))
  refine fZ (bZ (qZ J (wZ (bZ (CG.ex (A := T t l hand hits miss) eX t_open ?_)))))
  rintro ⟨⟨b, o⟩, c⟩ -
  refine mX star_open ?_
  dsimp only [TO, List.cons_append, List.nil_append]
  refine aZ (dZ J (cQ J (pZ fa229_0 J (cZ (rZ ti227 J) ?_))))
  refine dZ J (dZ J (dZ J (dZ J (dZ J (cZ (xQ bu305 ti305 J (cells := [_, _, _, _]) J) (cZ (xQ bu307 ti307 J (cells := [_, _, _, _, _]) J) (cZ (nZ underlying227 ti307 J J (by omega) (by omega)) ?_)))))))
  refine cX (Eff.storeRec (i := i) (r := ⟨true, tag, page, frame, perm⟩) (rs := l) Slot.len Slot.ones ti307 J J fC J hi) J ?_
  rintro ⟨⟩ -
  refine fZ ?_
  rw [show putL l hand ⟨true, tag, page, frame, perm⟩ = (l.set i ⟨true, tag, page, frame, perm⟩, hand) by simp [putL, hf]]
  refine jV J () trivial J (Imp.trans ?_ (t_close ((b, o), c)))
  dsimp only [TO]
  rw [List.length_set]
  exact iM
 ·obtain ⟨hf, i, hg, hi⟩ := hh
  rw [hf, show oi none = -1 from J]
  refine aZ (dZ J (cZ bQ ?_))
  refine fZ (bZ (gQ J (aZ (dZ J (oZ call223 J (iM) (free_spec W0 Fr hl) J ?_)))))
  rintro ⟨⟩ -
  rw [hg, show oi (some i) = (i : Int) from J]
  refine gZ J (fZ (bZ (eZ (eZ (aZ (dZ J (cZ bQ ?_)))))))
  refine fZ (bZ (qZ J (wZ (bZ (CG.ex (A := T t l hand hits miss) eX t_open ?_)))))
  rintro ⟨⟨b, o⟩, c⟩ -
  refine mX star_open ?_
  dsimp only [TO, List.cons_append, List.nil_append]
  refine aZ (dZ J (cQ J (pZ fa229_0 J (cZ (rZ ti227 J) ?_))))
  refine dZ J (dZ J (dZ J (dZ J (dZ J (cZ (xQ bu305 ti305 J (cells := [_, _, _, _]) J) (cZ (xQ bu307 ti307 J (cells := [_, _, _, _, _]) J) (cZ (nZ underlying227 ti307 J J (by omega) (by omega)) ?_)))))))
  refine cX (Eff.storeRec (i := i) (r := ⟨true, tag, page, frame, perm⟩) (rs := l) Slot.len Slot.ones ti307 J J fC J hi) J ?_
  rintro ⟨⟩ -
  refine fZ ?_
  rw [show putL l hand ⟨true, tag, page, frame, perm⟩ = (l.set i ⟨true, tag, page, frame, perm⟩, hand) by simp [putL, hf, hg]]
  refine jV J () trivial J (Imp.trans ?_ (t_close ((b, o), c)))
  dsimp only [TO]
  rw [List.length_set]
  exact iM
 ·obtain ⟨hf, hg⟩ := hh
  rw [hf, show oi none = -1 from J]
  refine aZ (dZ J (cZ bQ ?_))
  refine fZ (bZ (gQ J (aZ (dZ J (oZ call223 J (iM) (free_spec W0 Fr hl) J ?_)))))
  rintro ⟨⟩ -
  rw [hg, show oi none = -1 from J]
  refine gZ J (fZ (bZ (eZ (eZ (aZ (dZ J (cZ bQ ?_)))))))
  refine fZ (bZ (gQ J (eZ (CG.ex (A := T t l hand hits miss) eX t_open ?_))))
  rintro ⟨⟨b, o⟩, c⟩ -
  refine mX star_open ?_
  dsimp only [TO, List.cons_append, List.nil_append]
  refine aZ (dZ J (cQ J (pZ fa229_1 J (cZ (rZ ti3 J) ?_))))
  refine gZ J (fZ (bZ (sQ (.lo 0 1 (.lo 1 1 (.lo 2 1 (.lo 3 1 (.lo 4 1 (.lo 5 1 (.lo 6 1 (.lo 7 1 (.lo 8 1 (.lo 9 1 (.lo 10 1 (.lo 11 1 (.lo 12 1 (.lo 13 1 (.eff1 14 false (.done)))))))))))))))) [14] [] ([]) ([]) mixed (by kernel_rfl) (Imp.none _) (Imp.none _) (mZ J J (mZ J J (rQ J J (aQ J fa229_1 J (kZ J (rZ ti3 J) ?_))))))))
  refine kZ J (eQ J J wO) (mZ J J (rQ J J (aQ J fa229_0 J (kZ J (rZ ti227 J) ?_))))
  refine kZ J (lZ underlying227 J J) (kZ J (tX J J (by omega) (tmod_pos (by omega) (by omega))) ?_)
  refine rQ J J (aQ J fa229_1 J (zZ (vQ J J (aX ti3 J J fC J (by first | (simp; done) | decide)) J (fun _ => iM) (fun _ => Imp.refl _) (fun _ => iM) ?_)))
  rintro ⟨⟩ -
  refine qQ (bZ (aZ (dZ J (cQ J (pZ fa229_0 J (cZ (rZ ti227 J) ?_))))))
  refine dZ J (dZ J (dZ J (dZ J (dZ J (cZ (xQ bu305 ti305 J (cells := [_, _, _, _]) J) (cZ (xQ bu307 ti307 J (cells := [_, _, _, _, _]) J) (cZ (nZ underlying227 ti307 J J (by omega) (by omega)) ?_)))))))
  refine cX (Eff.storeRec (i := hand) (r := ⟨true, tag, page, frame, perm⟩) (rs := l) Slot.len Slot.ones ti307 J J fC J hh0) J ?_
  rintro ⟨⟩ -
  refine fZ ?_
  rw [show putL l hand ⟨true, tag, page, frame, perm⟩ = (l.set hand ⟨true, tag, page, frame, perm⟩, (hand + 1) % l.length) by simp [putL, hf, hg]]
  refine jV J () trivial J (Imp.trans ?_ (t_close ((b, o), c)))
  dsimp only [TO]
  rw [List.length_set, show (((hand + 1) % l.length : Nat) : Int) = ((hand : Int) + 1) % (l.length : Int) by simp]
  exact iM
theorem look_hit {t hand hits miss : Nat} {l : List Slot} (tag page : Int) (hl : l.length ≤ 64) (hb : hits < 2 ^ 60) {i : Nat} {s : Slot} (hf : l.findIdx? (hitB tag page) = some i) (hs : l[i]? = some s) :
 Ctr prog W0 195 [.pointer (some ⟨t, 0, none⟩), .int .i64 tag, .int .i64 page] (T t l hand hits miss :: Fr) (fun _ : Unit => True) (fun _ => .tuple #[.int .i64 s.frame, .int .i64 s.perm, .bool true]) (fun _ => T t l hand (hits + 1) miss :: Fr) := by
 have hi : i < l.length := (List.findIdx?_eq_some_iff_getElem.1 hf).1
 refine Ctr.of_body func195 J ntmps195 J (eZ (aZ (gZ J (gZ J (gZ J (fZ (bZ (eZ (aZ (dZ J (dZ J (dZ J (oZ call222 J (iM) (find_spec W0 Fr tag page hl) J ?_)))))))))))))
 rintro ⟨⟩ -
 rw [hf, show oi (some i) = (i : Int) from J]
 refine gZ J (fZ (bZ (eZ (eZ (aZ (dZ J (cZ bQ ?_)))))))
 refine fZ (bZ (qZ J (wZ (bZ (eZ (CG.ex (A := T t l hand hits miss) eX t_open ?_))))))
 rintro ⟨⟨b, o⟩, c⟩ -
 refine mX star_open ?_
 dsimp only [TO, List.cons_append, List.nil_append]
 refine aZ (dZ J (cQ J (pZ fa229_2 J (cZ (rZ ti3 J) ?_))))
 refine cZ (eQ J J wO) (cQ J (pZ fa229_2 J (cX (aX ti3 J J fC J (by first | (simp; done) | decide)) J ?_)))
 rintro ⟨⟩ -
 refine fZ (bZ (eZ (sQ (.lo 0 1 (.lo 1 1 (.lo 2 1 (.lo 3 1 (.lo 4 1 (.lo 5 1 (.lo 6 1 (.lo 7 1 (.lo 8 1 (.lo 9 1 (.lo 10 1 (.lo 11 1 (.lo 12 1 (.lo 13 1 (.lo 14 1 (.lo 15 1 (.lo 16 1 (.lo 17 1 (.lo 18 1 (.lo 19 1 (.lo 20 1 (.done)))))))))))))))))))))) [] [] ([]) ([]) mixed (by kernel_rfl) (Imp.none _) (Imp.none _) (mZ J J (rQ J J (aQ J fa229_0 J (kZ J (rZ ti227 J) ?_)))))))
 refine mZ J J (kZ J (nZ underlying227 ti307 J J (by omega) (by omega)) ?_)
 refine aQ J fa307_1 J (aQ J fa305_2 J (kZ J (hZ (v := .int .i64 s.frame) ti3 J (((SlR.of_osl eX).elem Slot.len hs) 3 _ J)) ?_))
 refine mZ J J (rQ J J (aQ J fa229_0 J (kZ J (rZ ti227 J) ?_)))
 refine mZ J J (kZ J (nZ underlying227 ti307 J J (by omega) (by omega)) ?_)
 refine aQ J fa307_1 J (aQ J fa305_3 J (kZ J (hZ (v := .int .i64 s.perm) ti3 J (((SlR.of_osl eX).elem Slot.len hs) 4 _ J)) ?_))
 exact kZ J (hQ J) (kZ J (hQ J) (kZ J (hQ J) (qQ (bZ (tZ (QG.ret3 J J J J () trivial J (Imp.trans iM (t_close ((b, o), c)))))))))
theorem look_miss {t hand hits miss : Nat} {l : List Slot} (tag page : Int) (hl : l.length ≤ 64) (hb : miss < 2 ^ 60) (hf : l.findIdx? (hitB tag page) = none) :
 Ctr prog W0 195 [.pointer (some ⟨t, 0, none⟩), .int .i64 tag, .int .i64 page] (T t l hand hits miss :: Fr) (fun _ : Unit => True) (fun _ => .tuple #[.int .i64 0, .int .i64 0, .bool false]) (fun _ => T t l hand hits (miss + 1) :: Fr) := by
 refine Ctr.of_body func195 J ntmps195 J (eZ (aZ (gZ J (gZ J (gZ J (fZ (bZ (eZ (aZ (dZ J (dZ J (dZ J (oZ call222 J (iM) (find_spec W0 Fr tag page hl) J ?_)))))))))))))
 rintro ⟨⟩ -
 rw [hf, show oi none = -1 from J]
 refine gZ J (fZ (bZ (eZ (eZ (aZ (dZ J (cZ bQ ?_)))))))
 refine fZ (bZ (gQ J (eZ (CG.ex (A := T t l hand hits miss) eX t_open ?_))))
 rintro ⟨⟨b, o⟩, c⟩ -
 refine mX star_open ?_
 dsimp only [TO, List.cons_append, List.nil_append]
 refine aZ (dZ J (cQ J (pZ fa229_3 J (cZ (rZ ti3 J) ?_))))
 refine cZ (eQ J J wO) (cQ J (pZ fa229_3 J (cX (aX ti3 J J fC J (by first | (simp; done) | decide)) J ?_)))
 rintro ⟨⟩ -
 exact fZ (bZ (eZ (aZ (gZ J (gZ J (gZ J (fZ (bZ (tZ (vZ (QG.ret3 J J J J () trivial J (Imp.trans iM (t_close ((b, o), c))))))))))))))
end
end Go.Proofs.YtphljkplokjonaaGreat.Tl
namespace Go.Proofs.YtphljkplokjonaaGreat.Sp
open Go Go.Sl Go.RowKit Go.Proofs Go.Proofs.YtphljkplokjonaaGreat.T Go.Proofs.YtphljkplokjonaaGreat.Me Go.Proofs.YtphljkplokjonaaGreat.Pe Go.Proofs.YtphljkplokjonaaGreat.Pg
open Go.Proofs.YtphljkplokjonaaGreat.Fz (cnt cnt_set)
open Go.Proofs.YtphljkplokjonaaGreat.Tl (Slot hitB putL put_cases)
/-! ### frames of bytes -/
theorem frB_get {bs : List UInt8} {k j : Nat} (hj : j < 256) : (frB bs k)[j]? = bs[k * 256 + j]? := by
 unfold frB; rw [List.getElem?_take, if_pos hj, List.getElem?_drop]
theorem fr_ext {bs cs : List UInt8} {t u : Nat} (h : ∀ j, j < 256 → cs[u * 256 + j]? = bs[t * 256 + j]?) : frB cs u = frB bs t := by
 apply List.ext_getElem?
 intro j
 by_cases hj : j < 256
 ·rw [frB_get hj, frB_get hj, h j hj]
 ·unfold frB; rw [List.getElem?_take, if_neg hj, List.getElem?_take, if_neg hj]
theorem word_fr (bs : List UInt8) (t i : Nat) (hi : i < 64) : word bs t i = leN (((frB bs t).drop (i * 4)).take 4) := by
 unfold word frB
 rw [List.drop_take, List.drop_drop, List.take_take, show min 4 (256 - i * 4) = 4 by omega]
theorem same_of_fr {bs cs : List UInt8} {t : Nat} (h : frB cs t = frB bs t) : same bs cs t := fun i hi => by rw [word_fr cs t i hi, h, word_fr bs t i hi]
structure Only (n : Nat) (bs cs : List UInt8) (q : Nat) : Prop where
 len : cs.length = n * 256
 oth : ∀ t, t < n → t ≠ q → frB cs t = frB bs t
theorem only_over {n : Nat} {bs ys : List UInt8} {q a : Nat} (hl : bs.length = n * 256) (hq : q < n) (ha : q * 256 ≤ a ∧ a + ys.length ≤ q * 256 + 256) : Only n bs (overB bs a ys) q := by
 refine ⟨by rw [overB_len (by omega), hl], fun t ht hne => fr_ext fun j hj => ?_⟩
 rcases (show t * 256 + j < a ∨ a + ys.length ≤ t * 256 + j by rcases Nat.lt_or_gt_of_ne hne with h | h <;> omega) with r | r
 ·exact overB_lo r (by omega)
 ·exact overB_hi r (by omega)
theorem only_st {n : Nat} {bs : List UInt8} {q i v : Nat} (hl : bs.length = n * 256) (hq : q < n) (hi : i < 64) : Only n bs (stW bs q i v) q := by
 have hp := putB_len v 4
 exact only_over hl hq (by omega)
theorem only_fill {n : Nat} {bs ws : List UInt8} {q : Nat} (hl : bs.length = n * 256) (hq : q < n) (hw : ws.length ≤ 256) : Only n bs (overB bs (q * 256) (fillB ws)) q := by
 have := fillB_len hw
 exact only_over hl hq (by omega)
theorem fr_fill {bs ws : List UInt8} {q : Nat} (h : q * 256 ≤ bs.length) (hw : ws.length ≤ 256) : frB (overB bs (q * 256) (fillB ws)) q = fillB ws := by
 have := overB_at (bs := bs) (ys := fillB ws) (a := q * 256) h
 rw [fillB_len hw] at this; exact this
theorem fr_over {n : Nat} {bs ys : List UInt8} {q o : Nat} (hl : bs.length = n * 256) (hq : q < n) (ho : o + ys.length ≤ 256) : frB (overB bs (q * 256 + o) ys) q = overB (frB bs q) o ys := by
 have hfl : (frB bs q).length = 256 := frB_len hl hq
 apply List.ext_getElem?
 intro j
 by_cases hj : j < 256
 ·rw [frB_get hj]
  unfold overB
  by_cases h1 : j < o
  ·rw [List.append_assoc, List.append_assoc, List.getElem?_append_left (by rw [List.length_take]; omega), List.getElem?_take, if_pos (by omega), List.getElem?_append_left (by rw [List.length_take]; omega), List.getElem?_take, if_pos h1, frB_get hj]
  ·have e1 : (bs.take (q * 256 + o)).length = q * 256 + o := by rw [List.length_take]; omega
   have e2 : ((frB bs q).take o).length = o := by rw [List.length_take]; omega
   have eL : (bs.take (q * 256 + o) ++ ys ++ bs.drop (q * 256 + o + ys.length))[q * 256 + j]? = (ys ++ bs.drop (q * 256 + o + ys.length))[j - o]? := by
    rw [List.append_assoc, List.getElem?_append_right (by omega), e1, show q * 256 + j - (q * 256 + o) = j - o by omega]
   have eR : ((frB bs q).take o ++ ys ++ (frB bs q).drop (o + ys.length))[j]? = (ys ++ (frB bs q).drop (o + ys.length))[j - o]? := by
    rw [List.append_assoc, List.getElem?_append_right (by omega), e2]
   rw [eL, eR]
   by_cases h2 : j - o < ys.length
   ·rw [List.getElem?_append_left h2, List.getElem?_append_left h2]
   ·rw [List.getElem?_append_right (by omega), List.getElem?_append_right (by omega), List.getElem?_drop, List.getElem?_drop, show o + ys.length + (j - o - ys.length) = j by omega, frB_get hj, show q * 256 + o + ys.length + (j - o - ys.length) = q * 256 + j by omega]
 ·have e1 : (overB (frB bs q) o ys).length = 256 := by rw [overB_len (by omega), hfl]
  have e0 : (overB (frB bs q) o ys)[j]? = none := List.getElem?_eq_none (by rw [e1]; omega)
  rw [e0]
  unfold frB; rw [List.getElem?_take, if_neg hj]
/-! ### counting -/
def cN (f : Nat → Bool) : Nat → Nat
 | 0 => 0
 | m + 1 => cN f m + if f m then 1 else 0
theorem cN_congr {f g : Nat → Bool} : ∀ m, (∀ q, q < m → f q = g q) → cN f m = cN g m
 | 0, _ => rfl
 | m + 1, h => by unfold cN; rw [cN_congr m fun q hq => h q (by omega), h m (by omega)]
theorem cN_le (f : Nat → Bool) : ∀ m, cN f m ≤ m
 | 0 => Nat.le_refl _
 | m + 1 => by unfold cN; have := cN_le f m; split <;> omega
theorem cN_upd {f g : Nat → Bool} {i : Nat} (h : ∀ q, q ≠ i → g q = f q) : ∀ m, i < m → cN g m + (if f i then 1 else 0) = cN f m + (if g i then 1 else 0)
 | 0, h0 => by omega
 | m + 1, hm => by
  unfold cN
  by_cases hi : i = m
  ·subst hi
   rw [cN_congr i fun q hq => h q (by omega)]; omega
  ·have := cN_upd h m (by omega)
   rw [h m (fun q => hi q.symm)]; omega
/-! ### who has which frame -/
structure Ab where
 rt : Nat → Option Nat
 tb : Nat → Nat → Option Nat
 pg : Nat → Nat → Option (Nat × Nat)
 hs : List (Nat × Nat)
inductive Role where
 | root (k : Nat)
 | tab (k g : Nat)
 | page (k p : Nat)
 | hand (f k : Nat)
def Ab.fr (A : Ab) : Role → Option Nat
 | .root k => A.rt k
 | .tab k g => A.tb k g
 | .page k p => (A.pg k p).map (·.1)
 | .hand f k => if (f, k) ∈ A.hs then some f else none
def Role.pt : Role → Nat
 | .root k => k
 | .tab k _ => k
 | .page k _ => k
 | .hand _ k => k
def up2 {α : Type} (h : Nat → Nat → α) (k p : Nat) (v : α) : Nat → Nat → α := fun k' p' => if k' = k ∧ p' = p then v else h k' p'
theorem up2_at {α : Type} {h : Nat → Nat → α} {k p : Nat} {v : α} : up2 h k p v k p = v := if_pos ⟨rfl, rfl⟩
theorem up2_ne {α : Type} {h : Nat → Nat → α} {k p k' p' : Nat} {v : α} (hne : ¬(k' = k ∧ p' = p)) : up2 h k p v k' p' = h k' p' := if_neg hne
structure Rep (n : Nat) (bs : List UInt8) (A : Ab) : Prop where
 len : bs.length = n * 256
 tree : ∀ k r, A.rt k = some r → Tree n bs r ∧ (∀ g, g < 64 → tab n bs r g = A.tb k g) ∧ ∀ p, p < 4096 → wk n bs r p = A.pg k p
 rw : ∀ k r g, A.rt k = some r → g < 64 → (ent (word bs r g)).isSome = (A.tb k g).isSome
 tb0 : ∀ k g q, A.tb k g = some q → g < 64 ∧ ∃ r, A.rt k = some r
 pg0 : ∀ k p x, A.pg k p = some x → p < 4096 ∧ ∃ r, A.rt k = some r
structure Own (own : List Int) (A : Ab) : Prop where
 inj : ∀ ρ ρ' f, A.fr ρ = some f → A.fr ρ' = some f → ρ = ρ'
 ow : ∀ ρ f, A.fr ρ = some f → own[f]? = some ((ρ.pt : Nat) : Int)
 nd : (A.hs.map (·.1)).Nodup
 cnt : ∀ k : Nat, cnt own k = (if (A.rt k).isSome then 1 else 0) + cN (fun g => (A.tb k g).isSome) 64 + cN (fun p => (A.pg k p).isSome) 4096 + (A.hs.filter fun h => decide (h.2 = k)).length
theorem Own.free {own : List Int} {A : Ab} (O : Own own A) {f : Nat} (h : own[f]? = some (-1)) (ρ : Role) : A.fr ρ ≠ some f := fun e => by
 have := O.ow ρ f e
 rw [h] at this
 have := Option.some.inj this
 omega
theorem Own.take {own : List Int} {A : Ab} (O : Own own A) {f : Nat} (k : Nat) (h : own[f]? = some (-1)) : Own (own.set f k) { A with hs := (f, k) :: A.hs } := by
 have hlt : f < own.length := (List.getElem?_eq_some_iff.1 h).1
 have old : ∀ ρ x, ({ A with hs := (f, k) :: A.hs } : Ab).fr ρ = some x → A.fr ρ = some x ∧ x ≠ f ∨ ρ = .hand f k ∧ x = f := fun ρ x hx => by
  have keep : A.fr ρ = some x → A.fr ρ = some x ∧ x ≠ f := fun e => ⟨e, fun q => O.free h ρ (by rw [e, q])⟩
  cases ρ with
  | root _ => exact .inl (keep hx)
  | tab _ _ => exact .inl (keep hx)
  | page _ _ => exact .inl (keep hx)
  | hand f' k' =>
   simp only [Ab.fr, List.mem_cons] at hx
   split at hx
   ·rename_i hm
    cases hx
    rcases hm with hm | hm
    ·simp only [Prod.mk.injEq] at hm; obtain ⟨rfl, rfl⟩ := hm; exact .inr ⟨rfl, rfl⟩
    ·exact .inl (keep (by simp only [Ab.fr]; rw [if_pos hm]))
   ·cases hx
 refine ⟨fun ρ ρ' x h1 h2 => ?_, fun ρ x h1 => ?_, ?_, fun k' => ?_⟩
 ·rcases old ρ x h1 with ⟨a1, a2⟩ | ⟨rfl, a2⟩ <;> rcases old ρ' x h2 with ⟨b1, b2⟩ | ⟨rfl, b2⟩
  ·exact O.inj ρ ρ' x a1 b1
  ·exact absurd b2 a2
  ·exact absurd a2 b2
  ·rfl
 ·rcases old ρ x h1 with ⟨a1, a2⟩ | ⟨rfl, rfl⟩
  ·rw [List.getElem?_set_ne (fun q => a2 q.symm)]; exact O.ow ρ x a1
  ·rw [List.getElem?_set_self hlt]; rfl
 ·rw [List.map_cons, List.nodup_cons]
  refine ⟨fun hm => ?_, O.nd⟩
  obtain ⟨⟨f', k'⟩, h1, rfl⟩ := List.mem_map.1 hm
  exact O.free h (.hand f' k') (by simp only [Ab.fr]; rw [if_pos h1])
 ·have e1 : ¬ (-1 : Int) = (k' : Int) := by omega
  have e2 : ((k : Int) = (k' : Int)) = (k = k') := propext ⟨fun q => by omega, fun q => by omega⟩
  rw [cnt_set h, O.cnt k', List.filter_cons]
  by_cases hk : k = k'
  ·subst hk; simp only [decide_true, if_true, List.length_cons, e1, if_false]; omega
  ·simp only [e1, e2, hk, if_false, decide_false]; simp
theorem Own.map {own : List Int} {A A' : Ab} (O : Own own A) (ψ : Role → Role) (h : ∀ ρ x, A'.fr ρ = some x → ∃ ρ0, A.fr ρ0 = some x ∧ ρ0.pt = ρ.pt ∧ ψ ρ0 = ρ) (hn : (A'.hs.map (·.1)).Nodup)
 (hc : ∀ k : Nat, (if (A'.rt k).isSome then 1 else 0) + cN (fun g => (A'.tb k g).isSome) 64 + cN (fun p => (A'.pg k p).isSome) 4096 + (A'.hs.filter fun h => decide (h.2 = k)).length = (if (A.rt k).isSome then 1 else 0) + cN (fun g => (A.tb k g).isSome) 64 + cN (fun p => (A.pg k p).isSome) 4096 + (A.hs.filter fun h => decide (h.2 = k)).length) : Own own A' := by
 refine ⟨fun ρ ρ' f a b => ?_, fun ρ f a => ?_, hn, fun k => by rw [O.cnt k, hc k]⟩
 ·obtain ⟨r1, a1, a2, a3⟩ := h ρ f a
  obtain ⟨r2, b1, b2, b3⟩ := h ρ' f b
  rw [← a3, ← b3, O.inj r1 r2 f a1 b1]
 ·obtain ⟨r1, a1, a2, a3⟩ := h ρ f a
  rw [← a2]; exact O.ow r1 f a1
theorem mem_ne {hs : List (Nat × Nat)} {f k f' k' : Nat} (h : (((f, k) :: hs).map (·.1)).Nodup) (hm : (f', k') ∈ hs) : f' ≠ f := fun q => by
 rw [List.map_cons, List.nodup_cons] at h
 exact h.1 (q ▸ List.mem_map.2 ⟨_, hm, rfl⟩)
theorem cons_count (hs : List (Nat × Nat)) (f k k' : Nat) : (((f, k) :: hs).filter fun h => decide (h.2 = k')).length = (hs.filter fun h => decide (h.2 = k')).length + if k = k' then 1 else 0 := by
 rw [List.filter_cons]
 by_cases h : k = k' <;> simp [h]
theorem cN_up2 {α : Type} {h : Nat → Nat → Option α} {k p k' m : Nat} {v : Option α} (hp : p < m) : cN (fun q => (up2 h k p v k' q).isSome) m + (if k = k' ∧ (h k p).isSome then 1 else 0) = cN (fun q => (h k' q).isSome) m + (if k = k' ∧ v.isSome then 1 else 0) := by
 by_cases hk : k = k'
 ·subst hk
  have := cN_upd (f := fun q => (h k q).isSome) (g := fun q => (up2 h k p v k q).isSome) (i := p) (fun q hq => by show (up2 h k p v k q).isSome = _; rw [up2_ne (by omega)]) m hp
  simp only [up2_at] at this
  simpa using this
 ·rw [cN_congr (f := fun q => (up2 h k p v k' q).isSome) (g := fun q => (h k' q).isSome) m fun q _ => by show (up2 h k p v k' q).isSome = _; rw [up2_ne (by omega)]]
  simp [hk]
theorem Own.toPage {own : List Int} {A : Ab} {f k p m : Nat} {hs : List (Nat × Nat)} (O : Own own A) (hA : A.hs = (f, k) :: hs) (hp : p < 4096) (h0 : A.pg k p = none) : Own own { A with pg := up2 A.pg k p (some (f, m)), hs := hs } := by
 have hnd := O.nd
 rw [hA] at hnd
 refine O.map (fun ρ => match ρ with | .hand f' k' => if f' = f then .page k p else .hand f' k' | ρ => ρ) (fun ρ x hx => ?_) (List.nodup_cons.1 hnd).2 fun k' => ?_
 ·cases ρ with
  | root k' => exact ⟨.root k', hx, rfl, rfl⟩
  | tab k' g => exact ⟨.tab k' g, hx, rfl, rfl⟩
  | page k' p' =>
   simp only [Ab.fr, up2] at hx
   split at hx
   ·rename_i h; obtain ⟨rfl, rfl⟩ := h; cases hx
    exact ⟨.hand f k', by simp only [Ab.fr, hA]; rw [if_pos List.mem_cons_self], rfl, by simp⟩
   ·exact ⟨.page k' p', hx, rfl, rfl⟩
  | hand f' k' =>
   simp only [Ab.fr] at hx
   split at hx
   ·rename_i h; cases hx
    exact ⟨.hand _ k', by simp only [Ab.fr, hA]; rw [if_pos (List.mem_cons_of_mem _ h)], rfl, by simp [mem_ne hnd h]⟩
   ·cases hx
 ·have := cN_up2 (h := A.pg) (k := k) (p := p) (k' := k') (v := some (f, m)) hp
  rw [h0] at this
  rw [hA, cons_count]
  simp only [Option.isSome_none, Option.isSome_some, Bool.false_eq_true, and_false, if_false, and_true] at this ⊢
  omega
theorem Own.toTab {own : List Int} {A : Ab} {f k g : Nat} {hs : List (Nat × Nat)} (O : Own own A) (hA : A.hs = (f, k) :: hs) (hg : g < 64) (h0 : A.tb k g = none) : Own own { A with tb := up2 A.tb k g (some f), hs := hs } := by
 have hnd := O.nd
 rw [hA] at hnd
 refine O.map (fun ρ => match ρ with | .hand f' k' => if f' = f then .tab k g else .hand f' k' | ρ => ρ) (fun ρ x hx => ?_) (List.nodup_cons.1 hnd).2 fun k' => ?_
 ·cases ρ with
  | root k' => exact ⟨.root k', hx, rfl, rfl⟩
  | page k' p => exact ⟨.page k' p, hx, rfl, rfl⟩
  | tab k' g' =>
   simp only [Ab.fr, up2] at hx
   split at hx
   ·rename_i h; obtain ⟨rfl, rfl⟩ := h; cases hx
    exact ⟨.hand f k', by simp only [Ab.fr, hA]; rw [if_pos List.mem_cons_self], rfl, by simp⟩
   ·exact ⟨.tab k' g', hx, rfl, rfl⟩
  | hand f' k' =>
   simp only [Ab.fr] at hx
   split at hx
   ·rename_i h; cases hx
    exact ⟨.hand _ k', by simp only [Ab.fr, hA]; rw [if_pos (List.mem_cons_of_mem _ h)], rfl, by simp [mem_ne hnd h]⟩
   ·cases hx
 ·have := cN_up2 (h := A.tb) (k := k) (p := g) (k' := k') (v := some f) hg
  rw [h0] at this
  rw [hA, cons_count]
  simp only [Option.isSome_none, Option.isSome_some, Bool.false_eq_true, and_false, if_false, and_true] at this ⊢
  omega
theorem Own.toRoot {own : List Int} {A : Ab} {f k : Nat} {hs : List (Nat × Nat)} (O : Own own A) (hA : A.hs = (f, k) :: hs) (h0 : A.rt k = none) : Own own { A with rt := fun k' => if k' = k then some f else A.rt k', hs := hs } := by
 have hnd := O.nd
 rw [hA] at hnd
 refine O.map (fun ρ => match ρ with | .hand f' k' => if f' = f then .root k else .hand f' k' | ρ => ρ) (fun ρ x hx => ?_) (List.nodup_cons.1 hnd).2 fun k' => ?_
 ·cases ρ with
  | page k' p => exact ⟨.page k' p, hx, rfl, rfl⟩
  | tab k' g' => exact ⟨.tab k' g', hx, rfl, rfl⟩
  | root k' =>
   simp only [Ab.fr] at hx
   split at hx
   ·rename_i h; subst h; cases hx
    exact ⟨.hand f k', by simp only [Ab.fr, hA]; rw [if_pos List.mem_cons_self], rfl, by simp⟩
   ·exact ⟨.root k', hx, rfl, rfl⟩
  | hand f' k' =>
   simp only [Ab.fr] at hx
   split at hx
   ·rename_i h; cases hx
    exact ⟨.hand _ k', by simp only [Ab.fr, hA]; rw [if_pos (List.mem_cons_of_mem _ h)], rfl, by simp [mem_ne hnd h]⟩
   ·cases hx
 ·rw [hA, cons_count]
  dsimp only
  by_cases hk : k' = k
  ·subst hk; simp [h0]; omega
  ·have hk2 : ¬ k = k' := fun q => hk q.symm
   simp [hk, hk2]
end Go.Proofs.YtphljkplokjonaaGreat.Sp
namespace Go.Proofs.YtphljkplokjonaaGreat.Sp
open Go Go.Sl Go.RowKit Go.Proofs Go.Proofs.YtphljkplokjonaaGreat.T Go.Proofs.YtphljkplokjonaaGreat.Me Go.Proofs.YtphljkplokjonaaGreat.Pe Go.Proofs.YtphljkplokjonaaGreat.Pg
open Go.Proofs.YtphljkplokjonaaGreat.Fz (cnt cnt_set inv_take)
open Go.Proofs.YtphljkplokjonaaGreat.Tl (Slot hitB putL put_cases)
section
variable {n : Nat} {bs cs : List UInt8} {A : Ab} {own : List Int}
theorem Rep.rlt (R : Rep n bs A) {k r : Nat} (h : A.rt k = some r) : r < n := (R.tree k r h).1.rt
theorem Rep.tlt (R : Rep n bs A) {k g q : Nat} (h : A.tb k g = some q) : q < n := by
 obtain ⟨hg, r, hr⟩ := R.tb0 k g q h
 have := (R.tree k r hr).2.1 g hg
 rw [h] at this; exact tab_lt this
theorem Rep.only (R : Rep n bs A) {q : Nat} (h : Only n bs cs q) (h1 : ∀ k, A.rt k ≠ some q) (h2 : ∀ k g, A.tb k g ≠ some q) : Rep n cs A := by
 refine ⟨h.len, fun k r hk => ?_, fun k r g hk hg => by rw [(same_of_fr (h.oth r (R.rlt hk) fun e => h1 k (by rw [hk, e]))) g hg]; exact R.rw k r g hk hg, R.tb0, R.pg0⟩
 obtain ⟨t1, t2, t3⟩ := R.tree k r hk
 obtain ⟨a1, a2, a3⟩ := t1.other h.len (same_of_fr (h.oth r t1.rt fun e => h1 k (by rw [hk, e]))) (fun g q' hg hq => same_of_fr (h.oth q' (tab_lt hq) fun e => h2 k g (by rw [← t2 g hg, hq, e])))
 exact ⟨a1, fun g hg => by rw [a2 g hg, t2 g hg], fun p hp => by rw [a3 p hp, t3 p hp]⟩
theorem Rep.entry (R : Rep n bs A) (O : Own own A) {k r p q : Nat} (hk : A.rt k = some r) (hp : p < 4096) (hq : A.tb k (p / 64) = some q) (v : Nat) : Rep n (stW bs q (p % 64) v) { A with pg := up2 A.pg k p (ent (v % 4294967296)) } := by
 have hi : p % 64 < 64 := Nat.mod_lt _ (by decide)
 have hqn := R.tlt hq
 have ho := only_st (v := v) R.len hqn hi
 have hrq : ∀ k' r', A.rt k' = some r' → r' ≠ q := fun k' r' hk' e => by
  have := O.inj (.root k') (.tab k (p / 64)) q (by simp only [Ab.fr]; rw [hk', e]) hq
  cases this
 refine ⟨ho.len, fun k' r' hk' => ?_, fun k' r' g hk' hg => by rw [(same_of_fr (ho.oth r' (R.rlt hk') (hrq k' r' hk'))) g hg]; exact R.rw k' r' g hk' hg, R.tb0, fun k' p' x hx => ?_⟩
 ·obtain ⟨t1, t2, t3⟩ := R.tree k' r' hk'
  by_cases hkk : k' = k
  ·subst hkk
   rw [hk] at hk'; cases hk'
   obtain ⟨a1, a2, a3⟩ := t1.st hp (by rw [t2 _ (by omega), hq]) v
   refine ⟨a1, fun g hg => by rw [a2 g hg, t2 g hg], fun p' hp' => ?_⟩
   rw [a3 p' hp', t3 p' hp']
   dsimp only
   by_cases h : p' = p
   ·subst h; rw [if_pos J, up2_at]
   ·rw [if_neg h, up2_ne (by omega)]
  ·have hne1 : r' ≠ q := fun e => by
    have := O.inj (.root k') (.tab k (p / 64)) q (by simp only [Ab.fr]; rw [hk', e]) hq
    cases this
   obtain ⟨a1, a2, a3⟩ := t1.other ho.len (same_of_fr (ho.oth r' t1.rt hne1)) (fun g q' hg hq' => same_of_fr (ho.oth q' (tab_lt hq') fun e => by
    have := O.inj (.tab k' g) (.tab k (p / 64)) q (by simp only [Ab.fr]; rw [← t2 g hg, hq', e]) hq
    cases this; exact hkk J))
   exact ⟨a1, fun g hg => by rw [a2 g hg, t2 g hg], fun p' hp' => by rw [a3 p' hp', t3 p' hp']; exact (up2_ne (fun q => hkk q.1)).symm⟩
 ·by_cases h : k' = k ∧ p' = p
  ·obtain ⟨rfl, rfl⟩ := h; exact ⟨hp, r, hk⟩
  ·dsimp only at hx; rw [up2_ne h] at hx; exact R.pg0 k' p' x hx
theorem only_new {q r i j e v : Nat} (hl : bs.length = n * 256) (hq : q < n) (hr : r < n) (hi : i < 64) (hj : j < 64) : (stW (stW (overB bs (q * 256) (fillB [])) r i e) q j v).length = n * 256 ∧ ∀ t, t < n → t ≠ q → t ≠ r → frB (stW (stW (overB bs (q * 256) (fillB [])) r i e) q j v) t = frB bs t := by
 have o1 := only_fill (bs := bs) (ws := []) hl hq (by decide)
 have o2 := only_st (v := e) o1.len hr hi
 have o3 := only_st (v := v) o2.len hq hj
 exact ⟨o3.len, fun t ht h1 h2 => by rw [o3.oth t ht h1, o2.oth t ht h2, o1.oth t ht h1]⟩
theorem Rep.newTab (R : Rep n bs A) (O : Own own A) (hn : n ≤ 1024) {k r p q : Nat} (hk : A.rt k = some r) (hp : p < 4096) (h0 : A.tb k (p / 64) = none) (hqn : q < n) (h1 : ∀ k, A.rt k ≠ some q) (h2 : ∀ k g, A.tb k g ≠ some q) (v : Nat) :
 Rep n (stW (stW (overB bs (q * 256) (fillB [])) r (p / 64) (entryOf q 0).toNat) q (p % 64) v) { A with tb := up2 A.tb k (p / 64) (some q), pg := up2 A.pg k p (ent (v % 4294967296)) } := by
 have hi : p % 64 < 64 := Nat.mod_lt _ (by decide)
 have hi2 : p / 64 < 64 := by omega
 obtain ⟨ol, oo⟩ := only_new (e := (entryOf q 0).toNat) (v := v) R.len hqn (R.rlt hk) hi2 hi
 refine ⟨ol, fun k' r' hk' => ?_, fun k' r' g hk' hg => ?_, fun k' g q' hx => ?_, fun k' p' x hx => ?_⟩
 ·obtain ⟨t1, t2, t3⟩ := R.tree k' r' hk'
  by_cases hkk : k' = k
  ·subst hkk
   rw [hk] at hk'; cases hk'
   obtain ⟨a1, a2, a3⟩ := t1.new hn hp (by rw [t2 _ hi2, h0]) hqn (fun e => h1 k' (by rw [hk, e])) (fun g hg e => h2 k' g (by rw [← t2 g hg, e])) v
   refine ⟨a1, fun g hg => ?_, fun p' hp' => ?_⟩
   ·rw [a2 g hg, t2 g hg]
    dsimp only
    by_cases h : g = p / 64
    ·subst h; rw [if_pos J, up2_at]
    ·rw [if_neg h, up2_ne (by omega)]
   ·rw [a3 p' hp', t3 p' hp']
    dsimp only
    by_cases h : p' = p
    ·subst h; rw [if_pos J, up2_at]
    ·rw [if_neg h, up2_ne (by omega)]
  ·have hne1 : r' ≠ r := fun e => by
    have := O.inj (.root k') (.root k) r (by simp only [Ab.fr]; rw [hk', e]) hk
    cases this; exact hkk J
   obtain ⟨a1, a2, a3⟩ := t1.other ol (same_of_fr (oo r' t1.rt (fun e => h1 k' (by rw [hk', e])) hne1)) (fun g q' hg hq' => same_of_fr (oo q' (tab_lt hq') (fun e => h2 k' g (by rw [← t2 g hg, hq', e])) fun e => by
    have := O.inj (.tab k' g) (.root k) r (by simp only [Ab.fr]; rw [← t2 g hg, hq', e]) hk
    cases this))
   exact ⟨a1, fun g hg => by rw [a2 g hg, t2 g hg]; exact (up2_ne (fun q => hkk q.1)).symm, fun p' hp' => by rw [a3 p' hp', t3 p' hp']; exact (up2_ne (fun q => hkk q.1)).symm⟩
 ·have hq' : r' ≠ q := fun e => h1 k' (by rw [hk', e])
  by_cases hkk : k' = k
  ·subst hkk
   rw [hk] at hk'; cases hk'
   have l1 := fill_len R.len hqn
   have l2 := stW_len (v := (entryOf q 0).toNat) l1 (R.rlt hk) hi2
   have hw : word (stW (stW (overB bs (q * 256) (fillB [])) r (p / 64) (entryOf q 0).toNat) q (p % 64) v) r g = if g = p / 64 then (entryOf q 0).toNat else word bs r g := by
    rw [(same_st l2 hqn hi (R.rlt hk) hq') g hg, word_st l1 (R.rlt hk) hi2 (R.rlt hk) hg, entry_mod, (same_fill R.len hqn (R.rlt hk) hq') g hg]
    by_cases h : g = p / 64 <;> simp [h]
   rw [hw]
   dsimp only
   by_cases h : g = p / 64
   ·subst h
    rw [if_pos J, up2_at, show (entryOf (q : Int) 0) = entryOf (q : Int) ((0 : Nat) : Int) from J, ent_entry (by omega) (by decide)]; rfl
   ·rw [if_neg h, up2_ne (by omega)]; exact R.rw k' r g hk hg
  ·have hne1 : r' ≠ r := fun e => by
    have := O.inj (.root k') (.root k) r (by simp only [Ab.fr]; rw [hk', e]) hk
    cases this; exact hkk J
   rw [(same_of_fr (oo r' (R.rlt hk') hq' hne1)) g hg]
   dsimp only
   rw [up2_ne (fun q => hkk q.1)]; exact R.rw k' r' g hk' hg
 ·by_cases h : k' = k ∧ g = p / 64
  ·obtain ⟨rfl, rfl⟩ := h; exact ⟨hi2, r, hk⟩
  ·dsimp only at hx; rw [up2_ne h] at hx; exact R.tb0 k' g q' hx
 ·by_cases h : k' = k ∧ p' = p
  ·obtain ⟨rfl, rfl⟩ := h; exact ⟨hp, r, hk⟩
  ·dsimp only at hx; rw [up2_ne h] at hx; exact R.pg0 k' p' x hx
theorem Rep.root (R : Rep n bs A) {k f : Nat} (hf : f < n) (hz : frB bs f = List.replicate 256 0) (h0 : A.rt k = none) : Rep n bs { A with rt := fun k' => if k' = k then some f else A.rt k' } := by
 have hw : ∀ i, i < 64 → word bs f i = 0 := fun i hi => by rw [word_fr bs f i hi, hz, List.drop_replicate, List.take_replicate, leN_zeros]
 have ht : ∀ g, g < 64 → tab n bs f g = none := fun g hg => by unfold tab; rw [hw g hg, ent_zero]; rfl
 have e1 : ∀ g, A.tb k g = none := fun g => by
  cases h : A.tb k g with
  | none => rfl
  | some q => obtain ⟨_, r, hr⟩ := R.tb0 k g q h; rw [h0] at hr; cases hr
 have e2 : ∀ p, A.pg k p = none := fun p => by
  cases h : A.pg k p with
  | none => rfl
  | some q => obtain ⟨_, r, hr⟩ := R.pg0 k p q h; rw [h0] at hr; cases hr
 refine ⟨R.len, fun k' r' hk' => ?_, fun k' r' g hk' hg => ?_, fun k' g q h => ?_, fun k' p x h => ?_⟩
 ·dsimp only at hk'
  split at hk'
  ·rename_i hkk; subst hkk; cases hk'
   refine ⟨⟨R.len, hf, fun g hg => by rw [ht g hg]; simp, fun g g' q hg _ h1 _ => by rw [ht g hg] at h1; cases h1⟩, fun g hg => by rw [ht g hg, e1 g], fun p hp => ?_⟩
   rw [e2 p]; unfold wk; rw [ht _ (by omega)]; rfl
  ·exact R.tree k' r' hk'
 ·dsimp only at hk'
  split at hk'
  ·rename_i hkk; subst hkk; cases hk'
   rw [hw g hg, ent_zero, e1 g]; rfl
  ·exact R.rw k' r' g hk' hg
 ·obtain ⟨h1, r, hr⟩ := R.tb0 k' g q h
  refine ⟨h1, ?_⟩
  dsimp only
  split
  ·exact ⟨f, rfl⟩
  ·exact ⟨r, hr⟩
 ·obtain ⟨h1, r, hr⟩ := R.pg0 k' p x h
  refine ⟨h1, ?_⟩
  dsimp only
  split
  ·exact ⟨f, rfl⟩
  ·exact ⟨r, hr⟩
end
/-! ### the table of translations -/
def Uniq (l : List Slot) : Prop := ∀ (i j : Nat) (s s' : Slot), l[i]? = some s → l[j]? = some s' → s.used = true → s'.used = true → s.tag = s'.tag → s.page = s'.page → i = j
theorem hit_iff {tag page : Int} {s : Slot} : hitB tag page s = true ↔ s.used = true ∧ s.tag = tag ∧ s.page = page := by simp [hitB]
theorem put_at {l : List Slot} {hand : Nat} {s : Slot} (hu : Uniq l) (hh : hand < l.length) : ∃ i, i < l.length ∧ (putL l hand s).1 = l.set i s ∧ ∀ j s', l[j]? = some s' → hitB s.tag s.page s' = true → j = i := by
 rcases put_cases l s.tag s.page with ⟨i, h1, h2⟩ | ⟨h1, i, h2, h3⟩ | ⟨h1, h2⟩
 ·refine ⟨i, h2, by simp [putL, h1], fun j s' hj hs => ?_⟩
  obtain ⟨_, h4, _⟩ := List.findIdx?_eq_some_iff_getElem.1 h1
  have a := hit_iff.1 h4
  have b := hit_iff.1 hs
  exact hu j i s' l[i] hj (by simp [h2]) b.1 a.1 (by rw [a.2.1, b.2.1]) (by rw [a.2.2, b.2.2])
 ·refine ⟨i, h3, by simp [putL, h1, h2], fun j s' hj hs => ?_⟩
  have := List.findIdx?_eq_none_iff.1 h1 s' (List.mem_of_getElem? hj)
  rw [this] at hs; cases hs
 ·refine ⟨hand, hh, by simp [putL, h1, h2], fun j s' hj hs => ?_⟩
  have := List.findIdx?_eq_none_iff.1 h1 s' (List.mem_of_getElem? hj)
  rw [this] at hs; cases hs
structure Tru (A : Ab) (l : List Slot) (hand : Nat) : Prop where
 un : Uniq l
 tr : ∀ s ∈ l, s.used = true → ∃ (k p : Nat) (x : Nat × Nat), s.tag = k ∧ s.page = p ∧ A.pg k p = some x ∧ s.frame = x.1 ∧ s.perm = x.2
 ll : l.length ≤ 64
 hh : hand < l.length
theorem putL_len {l : List Slot} {hand : Nat} {s : Slot} : (putL l hand s).1.length = l.length := by
 rcases put_cases l s.tag s.page with ⟨i, h1, h2⟩ | ⟨h1, i, h2, h3⟩ | ⟨h1, h2⟩ <;> simp [putL, h1, h2]
theorem putL_hand {l : List Slot} {hand : Nat} {s : Slot} (h : hand < l.length) : (putL l hand s).2 < l.length := by
 rcases put_cases l s.tag s.page with ⟨i, h1, h2⟩ | ⟨h1, i, h2, h3⟩ | ⟨h1, h2⟩ <;> simp [putL, h1, h2, h]
 exact Nat.mod_lt _ (by omega)
theorem Tru.put {A : Ab} {l : List Slot} {hand k p : Nat} {x : Nat × Nat} (T : Tru A l hand) (h : A.pg k p = some x) : Tru A (putL l hand ⟨true, k, p, x.1, x.2⟩).1 (putL l hand ⟨true, k, p, x.1, x.2⟩).2 := by
 refine ⟨?_, ?_, by rw [putL_len]; exact T.ll, by rw [putL_len]; exact putL_hand T.hh⟩
 all_goals obtain ⟨i, hi, e, hall⟩ := put_at (hand := hand) (s := ⟨true, k, p, x.1, x.2⟩) T.un T.hh
 ·rw [e]
  intro j j' s1 s2 h1 h2 u1 u2 t q
  rw [List.getElem?_set] at h1 h2
  by_cases hj : i = j <;> by_cases hk : i = j'
  ·omega
  ·subst hj; rw [if_pos J, if_pos hi] at h1; rw [if_neg hk] at h2; cases h1
   exact (hall j' s2 h2 (hit_iff.2 ⟨u2, t.symm, q.symm⟩)).symm
  ·subst hk; rw [if_pos J, if_pos hi] at h2; rw [if_neg hj] at h1; cases h2
   exact hall j s1 h1 (hit_iff.2 ⟨u1, t, q⟩)
  ·rw [if_neg hj] at h1; rw [if_neg hk] at h2; exact T.un j j' s1 s2 h1 h2 u1 u2 t q
 ·rw [e]
  intro s hs hu
  obtain ⟨j, hj⟩ := List.getElem?_of_mem hs
  rw [List.getElem?_set] at hj
  by_cases hij : i = j
  ·subst hij; rw [if_pos J, if_pos hi] at hj; cases hj
   exact ⟨k, p, x, rfl, rfl, h, rfl, rfl⟩
  ·rw [if_neg hij] at hj
   exact T.tr s (List.mem_of_getElem? hj) hu
theorem Tru.hit {A : Ab} {l : List Slot} {hand k p i : Nat} {s : Slot} (T : Tru A l hand) (hf : l.findIdx? (hitB k p) = some i) (hs : l[i]? = some s) : ∃ x, A.pg k p = some x ∧ s.frame = (x.1 : Int) ∧ s.perm = (x.2 : Int) := by
 obtain ⟨hi, h4, _⟩ := List.findIdx?_eq_some_iff_getElem.1 hf
 have e : l[i] = s := by simpa [hi] using hs
 rw [e] at h4
 obtain ⟨a1, a2, a3⟩ := hit_iff.1 h4
 obtain ⟨k', p', x, b1, b2, b3, b4, b5⟩ := T.tr s (List.mem_of_getElem? hs) a1
 obtain rfl : k' = k := by omega
 obtain rfl : p' = p := by omega
 exact ⟨x, b3, b4, b5⟩
theorem Tru.lay {A : Ab} {l : List Slot} {hand : Nat} (T : Tru A l hand) (A' : Ab) (h : ∀ k p x, A.pg k p = some x → A'.pg k p = some x) : Tru A' l hand :=
 ⟨T.un, fun s hs hu => by obtain ⟨k, p, x, b1, b2, b3, b4⟩ := T.tr s hs hu; exact ⟨k, p, x, b1, b2, h k p x b3, b4⟩, T.ll, T.hh⟩
structure St where
 bs : List UInt8
 own : List Int
 l : List Slot
 hand : Nat
 hits : Nat
 miss : Nat
structure Good (n : Nat) (qs : List Int) (A : Ab) (σ : St) : Prop where
 rep : Rep n σ.bs A
 own : Own σ.own A
 inv : Fz.Inv σ.own qs
 ol : σ.own.length = n
 pm : ∀ k p x, A.pg k p = some x → 1 ≤ x.2 ∧ x.2 ≤ 7
 tlb : Tru A σ.l σ.hand
structure Ob where
 vw : Nat → Nat → Option (Nat × List UInt8)
 ts : Nat → Nat → Bool
 fr : Nat
def obs (A : Ab) (σ : St) : Ob := ⟨fun k p => (A.pg k p).map fun x => (x.2, frB σ.bs x.1), fun k g => (A.tb k g).isSome, cnt σ.own (-1)⟩
abbrev zs : List UInt8 := List.replicate 256 0
theorem Ob.ext' {a b : Ob} (h1 : ∀ k p, a.vw k p = b.vw k p) (h2 : ∀ k g, a.ts k g = b.ts k g) (h3 : a.fr = b.fr) : a = b := by
 cases a; cases b
 have e1 := funext fun k => funext (h1 k)
 have e2 := funext fun k => funext (h2 k)
 simp only at e1 e2 h3
 subst e1 e2 h3; rfl
section
variable {n : Nat} {qs : List Int} {A : Ab} {σ : St}
theorem Good.n2 (G : Good n qs A σ) : 1 ≤ n ∧ n ≤ 1024 := by have := G.inv.tot; rw [G.ol] at this; exact this
theorem Good.flt (G : Good n qs A σ) {ρ : Role} {f : Nat} (h : A.fr ρ = some f) : f < n := by
 have := (List.getElem?_eq_some_iff.1 (G.own.ow ρ f h)).1
 rw [G.ol] at this; exact this
theorem Good.pgf {k p : Nat} {x : Nat × Nat} (h : A.pg k p = some x) : A.fr (.page k p) = some x.1 := by simp only [Ab.fr, h]; rfl
theorem Good.plt (G : Good n qs A σ) {k p : Nat} {x : Nat × Nat} (h : A.pg k p = some x) : x.1 < n := G.flt (Good.pgf h)
theorem Good.ent (G : Good n qs A σ) {f m : Nat} (hf : f < n) (hm : m ≤ 7) : Pg.ent ((entryOf f m).toNat % 4294967296) = some (f, m) := by rw [entry_mod]; exact ent_entry (by have := G.n2; omega) hm
theorem Rep.hs {bs : List UInt8} (R : Rep n bs A) (h : List (Nat × Nat)) : Rep n bs { A with hs := h } := ⟨R.len, R.tree, R.rw, R.tb0, R.pg0⟩
theorem Good.nroot (G : Good n qs A σ) {ρ : Role} {f : Nat} (h : A.fr ρ = some f) (hρ : ∀ k, ρ ≠ .root k) (k : Nat) : A.rt k ≠ some f := fun e => hρ k (G.own.inj ρ (.root k) f h e)
theorem Good.ntab (G : Good n qs A σ) {ρ : Role} {f : Nat} (h : A.fr ρ = some f) (hρ : ∀ k g, ρ ≠ .tab k g) (k g : Nat) : A.tb k g ≠ some f := fun e => hρ k g (G.own.inj ρ (.tab k g) f h e)
theorem Good.find (G : Good n qs A σ) {k p : Nat} {x : Nat × Nat} (h : A.pg k p = some x) (a b : Nat) : Good n qs A { σ with l := (putL σ.l σ.hand ⟨true, k, p, x.1, x.2⟩).1, hand := (putL σ.l σ.hand ⟨true, k, p, x.1, x.2⟩).2, hits := a, miss := b } :=
 ⟨G.rep, G.own, G.inv, G.ol, G.pm, G.tlb.put h⟩
theorem Good.count (G : Good n qs A σ) (a b : Nat) : Good n qs A { σ with hits := a, miss := b } := ⟨G.rep, G.own, G.inv, G.ol, G.pm, G.tlb⟩
theorem Good.map1 (G : Good n qs A σ) (h0 : A.hs = []) {k r p q f m : Nat} {qk : Int} (hk : A.rt k = some r) (hp : p < 4096) (hq : A.tb k (p / 64) = some q) (hn : A.pg k p = none) (hf : σ.own[f]? = some (-1)) (hm : 1 ≤ m ∧ m ≤ 7) (hqk : qs[k]? = some qk) (hc : (cnt σ.own k : Int) < qk) :
 Good n qs { A with pg := up2 A.pg k p (some (f, m)) } { σ with bs := stW (overB σ.bs (f * 256) (fillB [])) q (p % 64) (entryOf f m).toNat, own := σ.own.set f k } ∧
 obs { A with pg := up2 A.pg k p (some (f, m)) } { σ with bs := stW (overB σ.bs (f * 256) (fillB [])) q (p % 64) (entryOf f m).toNat, own := σ.own.set f k } = ⟨up2 (obs A σ).vw k p (some (m, zs)), (obs A σ).ts, (obs A σ).fr - 1⟩ := by
 have hfn : f < n := by rw [← G.ol]; exact (List.getElem?_eq_some_iff.1 hf).1
 have hi : p % 64 < 64 := Nat.mod_lt _ (by decide)
 have hqn := G.rep.tlt hq
 have o1 := only_fill (bs := σ.bs) (ws := []) G.rep.len hfn (by decide)
 have o2 := only_st (i := p % 64) (v := (entryOf f m).toNat) o1.len hqn hi
 have O1 := G.own.take k hf
 have R1 := (G.rep.only o1 (fun k' e => G.own.free hf (.root k') e) (fun k' g e => G.own.free hf (.tab k' g) e)).hs ((f, k) :: A.hs)
 have R2 := R1.entry O1 hk hp hq (entryOf f m).toNat
 rw [G.ent hfn hm.2] at R2
 have O2 := O1.toPage (m := m) J hp hn
 have hqf : f ≠ q := fun e => G.own.free hf (.tab k (p / 64)) (by rw [e]; exact hq)
 refine ⟨⟨R2.hs A.hs, O2, inv_take G.inv hqk hc hf, by rw [List.length_set]; exact G.ol, fun k' p' x hx => ?_, G.tlb.lay _ fun k' p' x hx => ?_⟩, Ob.ext' (fun k' p' => ?_) (fun _ _ => rfl) ?_⟩
 ·dsimp only at hx
  by_cases h : k' = k ∧ p' = p
  ·obtain ⟨rfl, rfl⟩ := h; rw [up2_at] at hx; cases hx; exact hm
  ·rw [up2_ne h] at hx; exact G.pm k' p' x hx
 ·dsimp only
  rw [up2_ne (by rintro ⟨rfl, rfl⟩; rw [hn] at hx; cases hx)]; exact hx
 ·dsimp only [obs]
  by_cases h : k' = k ∧ p' = p
  ·obtain ⟨rfl, rfl⟩ := h
   rw [up2_at, up2_at]
   show some (m, _) = _
   rw [o2.oth f hfn hqf, fr_fill (by rw [G.rep.len]; exact Nat.mul_le_mul_right _ (Nat.le_of_lt hfn)) (by decide)]; rfl
  ·rw [up2_ne h, up2_ne h]
   cases hx : A.pg k' p' with
   | none => rfl
   | some x =>
    have hpf := Good.pgf hx
    have h1 : x.1 ≠ q := fun e => by have := G.own.inj (.page k' p') (.tab k (p / 64)) q (by rw [hpf, e]) hq; cases this
    have h2 : x.1 ≠ f := fun e => G.own.free hf (.page k' p') (by rw [hpf, e])
    show some (x.2, _) = some (x.2, _)
    rw [o2.oth _ (G.plt hx) h1, o1.oth _ (G.plt hx) h2]
 ·show cnt (σ.own.set f k) (-1) = cnt σ.own (-1) - 1
  rw [cnt_set hf, if_pos J, if_neg (show ¬ ((k : Int) = -1) by omega)]; rfl
theorem Good.map2 (G : Good n qs A σ) (h0 : A.hs = []) {k r p q f m : Nat} {qk : Int} (hk : A.rt k = some r) (hp : p < 4096) (hq : A.tb k (p / 64) = none) (hn : A.pg k p = none) (hqf : σ.own[q]? = some (-1)) (hf : (σ.own.set q k)[f]? = some (-1)) (hm : 1 ≤ m ∧ m ≤ 7) (hqk : qs[k]? = some qk) (hc : (cnt σ.own k : Int) + 1 < qk) :
 Good n qs { A with tb := up2 A.tb k (p / 64) (some q), pg := up2 A.pg k p (some (f, m)) } { σ with bs := stW (stW (overB (overB (overB σ.bs (q * 256) (fillB [])) (f * 256) (fillB [])) (q * 256) (fillB [])) r (p / 64) (entryOf q 0).toNat) q (p % 64) (entryOf f m).toNat, own := (σ.own.set q k).set f k } ∧
 obs { A with tb := up2 A.tb k (p / 64) (some q), pg := up2 A.pg k p (some (f, m)) } { σ with bs := stW (stW (overB (overB (overB σ.bs (q * 256) (fillB [])) (f * 256) (fillB [])) (q * 256) (fillB [])) r (p / 64) (entryOf q 0).toNat) q (p % 64) (entryOf f m).toNat, own := (σ.own.set q k).set f k } = ⟨up2 (obs A σ).vw k p (some (m, zs)), up2 (obs A σ).ts k (p / 64) true, (obs A σ).fr - 2⟩ := by
 have hqn : q < n := by rw [← G.ol]; exact (List.getElem?_eq_some_iff.1 hqf).1
 have hfn : f < n := by have := (List.getElem?_eq_some_iff.1 hf).1; rw [List.length_set, G.ol] at this; exact this
 have hi : p % 64 < 64 := Nat.mod_lt _ (by decide)
 have hi2 : p / 64 < 64 := by omega
 have hne : f ≠ q := fun e => by
  subst e
  rw [List.getElem?_set_self (by rw [G.ol]; exact hfn)] at hf
  have := Option.some.inj hf; omega
 have hf0 : σ.own[f]? = some (-1) := by rw [List.getElem?_set_ne (fun e => hne e.symm)] at hf; exact hf
 have o1 := only_fill (bs := σ.bs) (ws := []) G.rep.len hqn (by decide)
 have o2 := only_fill (bs := overB σ.bs (q * 256) (fillB [])) (ws := []) o1.len hfn (by decide)
 have O1 := G.own.take k hqf
 have O2 := O1.take k hf
 have R1 := (G.rep.only o1 (fun k' e => G.own.free hqf (.root k') e) (fun k' g e => G.own.free hqf (.tab k' g) e))
 have R2 := (R1.only o2 (fun k' e => G.own.free hf0 (.root k') e) (fun k' g e => G.own.free hf0 (.tab k' g) e)).hs [(f, k), (q, k)]
 rw [h0] at O2
 have R3 := R2.newTab O2 G.n2.2 hk hp hq hqn (fun k' e => G.own.free hqf (.root k') e) (fun k' g e => G.own.free hqf (.tab k' g) e) (entryOf f m).toNat
 rw [G.ent hfn hm.2] at R3
 obtain ⟨ol, oo⟩ := only_new (bs := overB (overB σ.bs (q * 256) (fillB [])) (f * 256) (fillB [])) (r := r) (i := p / 64) (j := p % 64) (e := (entryOf q 0).toNat) (v := (entryOf f m).toNat) o2.len hqn (G.rep.rlt hk) hi2 hi
 have O3 := (O2.toPage (m := m) J hp hn).toTab J hi2 hq
 have hrf : f ≠ r := fun e => G.own.free hf0 (.root k) (by rw [e]; exact hk)
 have I1 := inv_take G.inv hqk (by omega) hqf
 have I2 := inv_take I1 hqk (show (cnt (σ.own.set q k) k : Int) < qk by rw [cnt_set hqf, if_neg (show ¬ ((-1 : Int) = k) by omega), if_pos J]; omega) hf
 refine ⟨⟨R3.hs A.hs, by rw [h0]; exact O3, I2, by rw [List.length_set, List.length_set]; exact G.ol, fun k' p' x hx => ?_, G.tlb.lay _ fun k' p' x hx => ?_⟩, Ob.ext' (fun k' p' => ?_) (fun k' g => ?_) ?_⟩
 ·dsimp only at hx
  by_cases h : k' = k ∧ p' = p
  ·obtain ⟨rfl, rfl⟩ := h; rw [up2_at] at hx; cases hx; exact hm
  ·rw [up2_ne h] at hx; exact G.pm k' p' x hx
 ·dsimp only
  rw [up2_ne (by rintro ⟨rfl, rfl⟩; rw [hn] at hx; cases hx)]; exact hx
 ·dsimp only [obs]
  by_cases h : k' = k ∧ p' = p
  ·obtain ⟨rfl, rfl⟩ := h
   rw [up2_at, up2_at]
   show some (m, _) = _
   rw [oo f hfn hne hrf, fr_fill (by rw [o1.len]; exact Nat.mul_le_mul_right _ (Nat.le_of_lt hfn)) (by decide)]; rfl
  ·rw [up2_ne h, up2_ne h]
   cases hx : A.pg k' p' with
   | none => rfl
   | some x =>
    have hpf := Good.pgf hx
    have h1 : x.1 ≠ q := fun e => G.own.free hqf (.page k' p') (by rw [hpf, e])
    have h2 : x.1 ≠ f := fun e => G.own.free hf0 (.page k' p') (by rw [hpf, e])
    have h3 : x.1 ≠ r := fun e => by have := G.own.inj (.page k' p') (.root k) r (by rw [hpf, e]) hk; cases this
    show some (x.2, _) = some (x.2, _)
    rw [oo _ (G.plt hx) h1 h3, o2.oth _ (G.plt hx) h2, o1.oth _ (G.plt hx) h1]
 ·dsimp only [obs]
  by_cases h : k' = k ∧ g = p / 64
  ·obtain ⟨rfl, rfl⟩ := h; rw [up2_at, up2_at]; rfl
  ·rw [up2_ne h, up2_ne h]
 ·show cnt ((σ.own.set q k).set f k) (-1) = cnt σ.own (-1) - 2
  rw [cnt_set hf, cnt_set hqf, if_pos J, if_neg (show ¬ ((k : Int) = -1) by omega)]; rfl
theorem Good.write (G : Good n qs A σ) {k p o : Nat} {x : Nat × Nat} {ys : List UInt8} (hx : A.pg k p = some x) (ho : o + ys.length ≤ 256) :
 Good n qs A { σ with bs := overB σ.bs (x.1 * 256 + o) ys } ∧
 obs A { σ with bs := overB σ.bs (x.1 * 256 + o) ys } = ⟨up2 (obs A σ).vw k p (some (x.2, overB (frB σ.bs x.1) o ys)), (obs A σ).ts, (obs A σ).fr⟩ := by
 have hpf := Good.pgf hx
 have hxn := G.plt hx
 have o1 := only_over (bs := σ.bs) (ys := ys) (q := x.1) (a := x.1 * 256 + o) G.rep.len hxn (by omega)
 have R1 := G.rep.only o1 (fun k' e => G.nroot hpf (fun _ => by simp) k' e) (fun k' g e => G.ntab hpf (fun _ _ => by simp) k' g e)
 refine ⟨⟨R1, G.own, G.inv, G.ol, G.pm, G.tlb⟩, Ob.ext' (fun k' p' => ?_) (fun _ _ => rfl) J⟩
 dsimp only [obs]
 by_cases h : k' = k ∧ p' = p
 ·obtain ⟨rfl, rfl⟩ := h; rw [up2_at, hx]
  show some (x.2, _) = some (x.2, _)
  rw [fr_over G.rep.len hxn ho]
 ·rw [up2_ne h]
  cases hy : A.pg k' p' with
  | none => rfl
  | some y =>
   have h2 : y.1 ≠ x.1 := fun e => by have := G.own.inj (.page k' p') (.page k p) x.1 (by rw [Good.pgf hy, e]) hpf; cases this; exact h ⟨rfl, rfl⟩
   show some (y.2, _) = some (y.2, _)
   rw [o1.oth _ (G.plt hy) h2]
theorem Good.new (G : Good n qs A σ) (h0 : A.hs = []) {k f : Nat} {qk : Int} (hk : A.rt k = none) (hf : σ.own[f]? = some (-1)) (hqk : qs[k]? = some qk) (hc : (cnt σ.own k : Int) < qk) :
 Good n qs { A with rt := fun k' => if k' = k then some f else A.rt k' } { σ with bs := overB σ.bs (f * 256) (fillB []), own := σ.own.set f k } ∧
 obs { A with rt := fun k' => if k' = k then some f else A.rt k' } { σ with bs := overB σ.bs (f * 256) (fillB []), own := σ.own.set f k } = ⟨(obs A σ).vw, (obs A σ).ts, (obs A σ).fr - 1⟩ := by
 have hfn : f < n := by rw [← G.ol]; exact (List.getElem?_eq_some_iff.1 hf).1
 have o1 := only_fill (bs := σ.bs) (ws := []) G.rep.len hfn (by decide)
 have O1 := G.own.take k hf
 have R1 := (G.rep.only o1 (fun k' e => G.own.free hf (.root k') e) (fun k' g e => G.own.free hf (.tab k' g) e))
 have R2 := R1.root hfn (by rw [fr_fill (by rw [G.rep.len]; exact Nat.mul_le_mul_right _ (Nat.le_of_lt hfn)) (by decide)]; rfl) hk
 have O2 := O1.toRoot J hk
 refine ⟨⟨R2, O2, inv_take G.inv hqk hc hf, by rw [List.length_set]; exact G.ol, G.pm, G.tlb.lay _ fun _ _ _ h => h⟩, Ob.ext' (fun k' p' => ?_) (fun _ _ => rfl) ?_⟩
 ·dsimp only [obs]
  cases hx : A.pg k' p' with
  | none => rfl
  | some x =>
   have h2 : x.1 ≠ f := fun e => G.own.free hf (.page k' p') (by rw [Good.pgf hx, e])
   show some (x.2, _) = some (x.2, _)
   rw [o1.oth _ (G.plt hx) h2]
 ·show cnt (σ.own.set f k) (-1) = cnt σ.own (-1) - 1
  rw [cnt_set hf, if_pos J, if_neg (show ¬ ((k : Int) = -1) by omega)]; rfl
theorem Good.start {m : Nat} (h1 : Fz.Inv (List.replicate n (-1)) qs) (h2 : 1 ≤ m ∧ m ≤ 64) : Good n qs ⟨fun _ => none, fun _ _ => none, fun _ _ => none, []⟩ ⟨List.replicate (n * 256) 0, List.replicate n (-1), List.replicate m Slot.zero, 0, 0, 0⟩ ∧
 obs ⟨fun _ => none, fun _ _ => none, fun _ _ => none, []⟩ ⟨List.replicate (n * 256) 0, List.replicate n (-1), List.replicate m Slot.zero, 0, 0, 0⟩ = ⟨fun _ _ => none, fun _ _ => false, n⟩ := by
 have hz : ∀ m, cN (fun _ => false) m = 0 := fun m => by induction m with
  | zero => rfl
  | succ m ih => simp [cN, ih]
 have hfr : ∀ ρ f, Ab.fr ⟨fun _ => none, fun _ _ => none, fun _ _ => none, []⟩ ρ ≠ some f := fun ρ f h => by cases ρ <;> simp [Ab.fr] at h
 refine ⟨⟨⟨by simp, fun k r h => (by cases h), fun k r g h => (by cases h), fun k g q h => (by cases h), fun k p x h => (by cases h)⟩, ⟨fun ρ ρ' f h _ => absurd h (hfr ρ f), fun ρ f h => absurd h (hfr ρ f), by simp, fun k => ?_⟩, h1, by simp, fun k p x h => (by cases h), ⟨fun i j s s' a b u _ _ _ => ?_, fun s hs hu => ?_, by simp; omega, by simp; omega⟩⟩, Ob.ext' (fun _ _ => rfl) (fun _ _ => rfl) ?_⟩
 ·simp only [Option.isSome_none, Bool.false_eq_true, if_false, hz]
  unfold cnt
  rw [List.count_replicate]; simp
 ·have hs := List.mem_of_getElem? a
  rw [List.mem_replicate] at hs
  rw [hs.2] at u; cases u
 ·rw [List.mem_replicate] at hs
  rw [hs.2] at hu; cases hu
 ·show cnt (List.replicate n (-1)) (-1) = n
  unfold cnt; rw [List.count_replicate]; simp
end
end Go.Proofs.YtphljkplokjonaaGreat.Sp
namespace Go.Proofs.YtphljkplokjonaaGreat.Sp
open Go Go.Sl Go.RowKit Go.Proofs Go.Proofs.YtphljkplokjonaaGreat.T Go.Proofs.YtphljkplokjonaaGreat.Me Go.Proofs.YtphljkplokjonaaGreat.Pe Go.Proofs.YtphljkplokjonaaGreat.Pg Tryz
open Go.Proofs.YtphljkplokjonaaGreat.Fz (cnt cnt_set inv_take free_frame isP left left_in)
open Go.Proofs.YtphljkplokjonaaGreat.Tl (Slot hitB putL put_cases)
abbrev WG (m f t n : Nat) (qs : List Int) (σ : St) (Fr : List HProp) : List HProp := M m n σ.bs :: Fz.F f σ.own qs :: Tl.T t σ.l σ.hand σ.hits σ.miss :: Fr
abbrev sb (s k r m f t : Nat) : HProp := blk s [.int .i64 k, .int .i64 r, .pointer (some ⟨m, 0, none⟩), .pointer (some ⟨f, 0, none⟩), .pointer (some ⟨t, 0, none⟩)] 166
def vp (A : Ab) (k : Nat) (p : Int) : Option (Nat × Nat) := if 0 ≤ p ∧ p < 4096 then A.pg k p.toNat else none
theorem vp_in {A : Ab} {k p : Nat} (h : p < 4096) : vp A k p = A.pg k p := by unfold vp; rw [if_pos (by omega), Int.toNat_natCast]
theorem vp_out {A : Ab} {k : Nat} {p : Int} (h : ¬(0 ≤ p ∧ p < 4096)) : vp A k p = none := by unfold vp; rw [if_neg h]
theorem vp_cases (A : Ab) (k : Nat) (p : Int) : (∃ (q : Nat) (x : Nat × Nat), p = q ∧ q < 4096 ∧ A.pg k q = some x ∧ vp A k p = some x) ∨ (∃ q : Nat, p = q ∧ q < 4096 ∧ A.pg k q = none ∧ vp A k p = none) ∨ (¬(0 ≤ p ∧ p < 4096) ∧ vp A k p = none) := by
 by_cases h : 0 ≤ p ∧ p < 4096
 ·obtain ⟨q, rfl⟩ := Int.eq_ofNat_of_zero_le h.1
  rw [vp_in (by omega)]
  cases hx : A.pg k q with
  | none => exact .inr (.inl ⟨q, rfl, by omega, hx, rfl⟩)
  | some x => exact .inl ⟨q, x, rfl, by omega, hx, rfl⟩
 ·exact .inr (.inr ⟨h, vp_out h⟩)
def wV (A : Ab) (k : Nat) (p : Int) : Int × Int × Int := match vp A k p with | some x => (x.1, x.2, 0) | none => (0, 0, if 0 ≤ p ∧ p < 4096 then 90 else 2)
section
variable (W0 : World) (Fr : List HProp)
variable {n : Nat} {qs : List Int} {A : Ab} {σ : St} {k r s m f t : Nat}
theorem walk_ab (R : Rep n σ.bs A) (hk : A.rt k = some r) (p : Int) : Ctr prog W0 84 [.pointer (some ⟨m, 0, none⟩), .int .i64 r, .int .i64 p] (M m n σ.bs :: Fr) (fun _ : Unit => True) (fun _ => .tuple #[.int .i64 (wV A k p).1, .int .i64 (wV A k p).2.1, .int .i64 (wV A k p).2.2]) (fun _ => M m n σ.bs :: Fr) := by
 obtain ⟨t1, t2, t3⟩ := R.tree k r hk
 rcases vp_cases A k p with ⟨q, x, rfl, hq, hx, hv⟩ | ⟨q, rfl, hq, hx, hv⟩ | ⟨hp, hv⟩
 ·have hw := walkR_some (n := n) (bs := σ.bs) (root := r) (p := q) (by rw [t3 q hq, hx])
  have := Pg.walk_spec W0 Fr (m := m) (n := n) (root := r) (p := q) (bs := σ.bs) t1.rt hq
  rw [hw] at this
  unfold wV; rw [hv]; exact this
 ·have hw := walkR_none (n := n) (bs := σ.bs) (root := r) (p := q) (by rw [t3 q hq, hx])
  have := Pg.walk_spec W0 Fr (m := m) (n := n) (root := r) (p := q) (bs := σ.bs) t1.rt hq
  rw [hw] at this
  unfold wV; rw [hv, if_pos (by omega)]; exact this
 ·unfold wV; rw [hv, if_neg hp]
  exact Pg.walk_bad W0 Fr (.inr hp)
theorem there_spec (R : Rep n σ.bs A) (hk : A.rt k = some r) (p : Int) : Ctr prog W0 132 [.pointer (some ⟨s, 0, none⟩), .int .i64 p] (WG m f t n qs σ (sb s k r m f t :: Fr)) (fun _ : Unit => True) (fun _ => .bool (vp A k p).isSome) (fun _ => WG m f t n qs σ (sb s k r m f t :: Fr)) := by
 refine Ctr.of_body func132 J ntmps132 J (eZ (aZ (gZ J (fZ (bZ (eZ (sQ (.lo 0 1 (.lo 1 1 (.lo 2 1 (.lo 3 1 (.lo 4 1 (.lo 5 1 (.lo 6 1 (.lo 7 1 (.lo 8 1 (.eff1 9 false (.lo 10 1 (.lo 11 1 (.lo 12 1 (.lo 13 1 (.lo 14 1 (.lo 15 1 (.lo 16 1 (.done)))))))))))))))))) [9] [] ([]) ([]) mixed (by kernel_rfl) (Imp.none _) (Imp.none _) (mZ J J (rQ J J (aQ J fa166_2 J (kZ J (rZ ti111 J) ?_)))))))))))
 refine mZ J J (rQ J J (aQ J fa166_1 J (kZ J (rZ ti3 J) ?_)))
 refine mZ J J (zZ (kQ J J call84 J (iM) (walk_ab W0 _ (m := m) (n := n) (σ := σ) R hk p) J (fun _ => iM) (fun _ => Imp.refl _) (fun _ => iM) ?_))
 rintro ⟨⟩ -
 refine mZ J J (kZ J (uZ J J) (kZ J (uZ J J) (kZ J (uZ J J) (kZ J (hQ J) (kZ J (hQ J) (kZ J (hQ J) (qQ (bZ (eZ (aZ (dZ J ?_)))))))))))
 refine cZ (dQ (bX J J) (v' := .bool (vp A k p).isSome) (by unfold wV; cases vp A k p with | some x => rfl | none => simp only; split <;> rfl)) ?_
 exact gZ J (fZ (bZ (tZ (xZ J J () trivial J iM))))
theorem perm_spec (R : Rep n σ.bs A) (hk : A.rt k = some r) (p : Int) : Ctr prog W0 29 [.pointer (some ⟨s, 0, none⟩), .int .i64 p] (WG m f t n qs σ (sb s k r m f t :: Fr)) (fun _ : Unit => True) (fun _ => .int .i64 (match vp A k p with | some x => (x.2 : Int) | none => 0)) (fun _ => WG m f t n qs σ (sb s k r m f t :: Fr)) := by
 refine Ctr.of_body func29 J ntmps29 J (eZ (aZ (gZ J (fZ (bZ (eZ (sQ (.lo 0 1 (.lo 1 1 (.lo 2 1 (.lo 3 1 (.lo 4 1 (.lo 5 1 (.lo 6 1 (.lo 7 1 (.lo 8 1 (.eff1 9 false (.lo 10 1 (.lo 11 1 (.lo 12 1 (.lo 13 1 (.lo 14 1 (.lo 15 1 (.lo 16 1 (.done)))))))))))))))))) [9] [] ([]) ([]) mixed (by kernel_rfl) (Imp.none _) (Imp.none _) (mZ J J (rQ J J (aQ J fa166_2 J (kZ J (rZ ti111 J) ?_)))))))))))
 refine mZ J J (rQ J J (aQ J fa166_1 J (kZ J (rZ ti3 J) ?_)))
 refine mZ J J (zZ (kQ J J call84 J (iM) (walk_ab W0 _ (m := m) (n := n) (σ := σ) R hk p) J (fun _ => iM) (fun _ => Imp.refl _) (fun _ => iM) ?_))
 rintro ⟨⟩ -
 refine mZ J J (kZ J (uZ J J) (kZ J (uZ J J) (kZ J (uZ J J) (kZ J (hQ J) (kZ J (hQ J) (kZ J (hQ J) (qQ (bZ (eZ (eZ ?_))))))))))
 rcases hv : vp A k p with _ | x
 ·have hw : wV A k p = (0, 0, if 0 ≤ p ∧ p < 4096 then 90 else 2) := by unfold wV; rw [hv]
  rw [hw]
  refine aZ (dZ J ?_)
  refine cZ (dQ (xX J J) (v' := .bool true) (by simp only; split <;> rfl)) ?_
  exact fZ (bZ (gQ J (eZ (aZ (gZ J (fZ (bZ (tZ (vZ (xZ J J () trivial J iM))))))))))
 ·have hw : wV A k p = ((x.1 : Int), (x.2 : Int), 0) := by unfold wV; rw [hv]
  rw [hw]
  exact aZ (dZ J (cZ (dQ (xX J J) (v' := .bool false) J) (fZ (bZ (qZ J (wZ (bZ (eZ (aZ (dZ J (gZ J (fZ (bZ (tZ (xZ J J () trivial J iM)))))))))))))))
theorem table_spec (R : Rep n σ.bs A) (hn : n ≤ 1024) (hk : A.rt k = some r) {p : Nat} (hp : p < 4096) : Ctr prog W0 133 [.pointer (some ⟨s, 0, none⟩), .int .i64 p] (WG m f t n qs σ (sb s k r m f t :: Fr)) (fun _ : Unit => True) (fun _ => .bool (A.tb k (p / 64)).isSome) (fun _ => WG m f t n qs σ (sb s k r m f t :: Fr)) := by
 have hi : p / 64 < 64 := by omega
 have hrn := R.rlt hk
 have hw := word_lt σ.bs r (p / 64)
 have hrw := R.rw k r (p / 64) hk hi
 refine Ctr.of_body func133 J ntmps133 J (eZ (aZ (gZ J (fZ (bZ (eZ (sQ (.lo 0 1 (.lo 1 1 (.lo 2 1 (.lo 3 1 (.lo 4 1 (.lo 5 1 (.lo 6 1 (.lo 7 1 (.lo 8 1 (.lo 9 1 (.lo 10 1 (.lo 11 1 (.lo 12 1 (.lo 13 1 (.eff1 14 false (.lo 15 1 (.lo 16 1 (.lo 17 1 (.lo 18 1 (.lo 19 1 (.done))))))))))))))))))))) [14] [] ([]) ([]) mixed (by kernel_rfl) (Imp.none _) (Imp.none _) (mZ J J (rQ J J (aQ J fa166_2 J (kZ J (rZ ti111 J) ?_)))))))))))
 refine mZ J J (rQ J J (aQ J fa166_1 J (kZ J (rZ ti3 J) ?_)))
 refine kZ J (qX J J wO) (mZ J J (kZ J (kV (c := ((p / 64 : Nat) : Int)) J J (by decide) (quo_nat (b := 64) (by decide) (by omega))) ?_))
 refine kZ J (qX J J wO) (kZ J (eQ J J wO) (kZ J (uQ (c := ((r * 256 + p / 64 * 4 : Nat) : Int)) underlying27 J J (by rw [show (r : Int) * 256 + ((p / 64 : Nat) : Int) * 4 = ((r * 256 + p / 64 * 4 : Nat) : Int) by omega]; exact wu32 (by omega) (by omega))) ?_))
 refine zZ (kQ J J call187 J (iM) (load_ok W0 _ (m := m) (n := n) (a := r * 256 + p / 64 * 4) (s := 4) (bs := σ.bs) (by omega) (by omega) (by omega)) J (fun _ => iM) (fun _ => Imp.refl _) (fun _ => iM) ?_)
 rintro ⟨⟩ -
 refine mZ J J (kZ J (uZ J J) (kZ J (uZ J J) (kZ J (hQ J) (kZ J (hQ J) (qQ (bZ (eZ (aZ (dZ J (cZ (uQ (c := (word σ.bs r (p / 64) : Int)) underlying27 J J (wu32 (by omega) (by show ((word σ.bs r (p / 64) : Nat) : Int) ≤ _; omega))) ?_))))))))))
 refine oZ call188 J (iM) (split_spec W0 _ (word σ.bs r (p / 64) : Int) (by omega) (by omega)) J ?_
 rintro ⟨⟩ -
 rw [split_sp, sp_ent]
 refine dZ J (cZ (uZ J J) (cZ (uZ J J) (cZ (uZ J J) (gZ J (gZ J (gZ J (fZ (bZ (eZ (aZ (dZ J (gZ J (fZ (bZ (tZ (xZ J J () trivial ?_ iM))))))))))))))))
 rw [← hrw]; cases ent (word σ.bs r (p / 64)) <;> rfl
theorem free_two (I : Fz.Inv σ.own qs) {qk : Int} (hqk : qs[k]? = some qk) (hc : (cnt σ.own k : Int) + 1 < qk) : 2 ≤ cnt σ.own (-1) := by
 obtain ⟨q, h1, h2⟩ := free_frame I hqk (by omega)
 have I1 := inv_take I hqk (by omega) h2
 obtain ⟨q2, h3, h4⟩ := free_frame I1 hqk (by rw [cnt_set h2, if_neg (show ¬ ((-1 : Int) = k) by omega), if_pos J]; omega)
 have := Fz.cnt_pos h4
 rw [cnt_set h2, if_pos J, if_neg (show ¬ ((k : Int) = -1) by omega)] at this
 omega
theorem room_spec (I : Fz.Inv σ.own qs) (hq : ∀ q ∈ qs, 0 ≤ q ∧ q ≤ 1024) {qk : Int} (hqk : qs[k]? = some qk) {d : Nat} (hd : d = 1 ∨ d = 2) : Ctr prog W0 134 [.pointer (some ⟨s, 0, none⟩), .int .i64 d] (WG m f t n qs σ (sb s k r m f t :: Fr)) (fun _ : Unit => True) (fun _ => .int .i64 (if qk - cnt σ.own k < d then 141 else 0)) (fun _ => WG m f t n qs σ (sb s k r m f t :: Fr)) := by
 have hl := left_in (own := σ.own) hqk
 have hfr : ¬ qk - cnt σ.own k < d → d ≤ cnt σ.own (-1) := fun h => by
  rcases hd with rfl | rfl
  ·obtain ⟨q, h1, h2⟩ := free_frame I hqk (by omega)
   exact Fz.cnt_pos h2
  ·exact free_two I hqk (by omega)
 refine Ctr.of_body func134 J ntmps134 J (eZ (aZ (gZ J (fZ (bZ (eZ (fQ (eZ (sQ (.lo 0 1 (.lo 1 1 (.lo 2 1 (.lo 3 1 (.lo 4 1 (.lo 5 1 (.lo 6 1 (.lo 7 1 (.lo 9 0 (.eff1 8 false (.lo 10 1 (.lo 11 1 (.done))))))))))))) [8] [] ([]) ([]) mixed (by kernel_rfl) (Imp.none _) (Imp.none _) (mZ J J (rQ J J (aQ J fa166_3 J (kZ J (rZ ti114 J) ?_)))))))))))))
 refine mZ J J (rQ J J (aQ J fa166_0 J (kZ J (rZ ti3 J) ?_)))
 refine mZ J J (zZ (kQ J J call171 J (iM) (Fz.left_spec W0 _ (f := f) (own := σ.own) (qs := qs) k hq) J (fun _ => iM) (fun _ => Imp.refl _) (fun _ => iM) ?_))
 rintro ⟨⟩ -
 rw [hl]
 refine kZ J (uX J J) (kZ J (hQ J) (qQ (bZ (wQ J (fun hc => ?_) (fun hc => ?_)))))
 ·try replace hc := odT hc
  exact eZ (aZ (gZ J (fZ (bZ (tZ (mQ (vZ (xZ J J () trivial (by rw [if_pos hc]) iM))))))))
 ·try replace hc := odF hc
  have hfr' := hfr hc
  refine eZ (aZ (dZ J (cQ J (pZ fa166_3 J (cZ (rZ ti114 J) ?_)))))
  refine oZ call189 J (iM) (Fz.free_spec W0 _ (f := f) (own := σ.own) (qs := qs)) J ?_
  rintro ⟨⟩ -
  refine dZ J (cZ bQ ?_)
  exact gZ J (fZ (bZ (qZ J (wZ (sZ (bZ (eZ (aZ (gZ J (fZ (bZ (tZ (xZ J J () trivial (by rw [if_neg hc]) iM)))))))))))))
theorem good_spec (p q : Int) : Ctr prog W0 131 [.int .i64 p, .int .i64 q] Fr (fun _ : Unit => True) (fun _ => .bool (decide ((0 ≤ p ∧ p < 4096) ∧ 1 ≤ q ∧ q ≤ 7))) (fun _ => Fr) := by
 refine Ctr.of_body func131 J ntmps131 J (eZ (aZ (gZ J (fZ (bZ (eZ ?_))))))
 rcases (show p < 0 ∨ (0 ≤ p ∧ ¬ p < 4096) ∨ ((0 ≤ p ∧ p < 4096) ∧ ¬ q ≥ 1) ∨ ((0 ≤ p ∧ p < 4096) ∧ q ≥ 1) by omega) with hh | hh | hh | hh
 ·refine aZ (dZ J (cZ zQ ?_))
  refine dZ J (iQ J J J J J (iQ J J J J J (cZ jZ ?_)))
  refine dZ J (iQ J J J J J (iQ J J J J J (cZ jZ ?_)))
  refine dZ J (iQ J J J J J (iQ J J J J J (cZ jZ ?_)))
  exact gZ J (fZ (bZ (tZ (xZ J J () trivial (by rw [decide_eq_false (by omega)]) (Imp.refl _)))))
 ·refine aZ (dZ J (cZ zQ ?_))
  refine dZ J (iZ J J (dZ J (iZ J J (cZ bQ ?_))))
  refine cZ jZ ?_
  refine dZ J (iQ J J J J J (iQ J J J J J (cZ jZ ?_)))
  refine dZ J (iQ J J J J J (iQ J J J J J (cZ jZ ?_)))
  exact gZ J (fZ (bZ (tZ (xZ J J () trivial (by rw [decide_eq_false (by omega)]) (Imp.refl _)))))
 ·refine aZ (dZ J (cZ zQ ?_))
  refine dZ J (iZ J J (dZ J (iZ J J (cZ bQ ?_))))
  refine cZ jZ ?_
  refine dZ J (iZ J J (dZ J (iZ J J (cZ zQ ?_))))
  refine cZ jZ ?_
  refine dZ J (iQ J J J J J (iQ J J J J J (cZ jZ ?_)))
  exact gZ J (fZ (bZ (tZ (xZ J J () trivial (by rw [decide_eq_false (by omega)]) (Imp.refl _)))))
 ·refine aZ (dZ J (cZ zQ ?_))
  refine dZ J (iZ J J (dZ J (iZ J J (cZ bQ ?_))))
  refine cZ jZ ?_
  refine dZ J (iZ J J (dZ J (iZ J J (cZ zQ ?_))))
  refine cZ jZ ?_
  refine dZ J (iZ J J (dZ J (iZ J J (cZ (Yield.leq J J) (cZ jZ ?_)))))
  exact gZ J (fZ (bZ (tZ (xZ J J () trivial (by rw [show decide ((0 ≤ p ∧ p < 4096) ∧ 1 ≤ q ∧ q ≤ 7) = decide (q ≤ 7) by simp [hh.1]; omega]) (Imp.refl _)))))
theorem take_spec (I : Fz.Inv σ.own qs) (hol : σ.own.length = n) (hq : ∀ q ∈ qs, 0 ≤ q ∧ q ≤ 1024) {qk : Int} (hqk : qs[k]? = some qk) (hc : (cnt σ.own k : Int) < qk) : Ctr prog W0 135 [.pointer (some ⟨s, 0, none⟩)] (WG m f t n qs σ (sb s k r m f t :: Fr)) (fun q : Nat => σ.own[q]? = some (-1)) (fun q => .int .i64 q) (fun q => WG m f t n qs { σ with bs := overB σ.bs (q * 256) (fillB []), own := σ.own.set q k } (sb s k r m f t :: Fr)) := by
 obtain ⟨q, h1, h2⟩ := free_frame I hqk hc
 have hl := left_in (own := σ.own) hqk
 have hqn : q < n := by rw [← hol]; exact (List.getElem?_eq_some_iff.1 h2).1
 have hkl := (List.getElem?_eq_some_iff.1 hqk).1
 refine Ctr.of_body func135 J ntmps135 J (eZ (aZ (gZ J (fZ (bZ (eZ (sQ (.lo 0 1 (.lo 1 1 (.lo 2 1 (.lo 3 1 (.lo 4 1 (.lo 5 1 (.lo 6 1 (.lo 7 1 (.eff1 8 false (.lo 9 1 (.lo 10 1 (.lo 11 1 (.lo 12 1 (.lo 13 1 (.done))))))))))))))) [8] [] ([]) ([]) mixed (by kernel_rfl) (Imp.none _) (Imp.none _) (mZ J J (rQ J J (aQ J fa166_3 J (kZ J (rZ ti114 J) ?_)))))))))))
 refine mZ J J (rQ J J (aQ J fa166_0 J (kZ J (rZ ti3 J) ?_)))
 refine zZ (kQ J J call122 J (iM) (Fz.take_ok W0 _ (f := f) (own := σ.own) (qs := qs) (n := q) k hq ⟨by omega, by omega⟩ (by rw [hl]; omega) h1) J (fun _ => iM) (fun _ => Imp.refl _) (fun _ => iM) ?_)
 rintro ⟨⟩ -
 refine mZ J J (kZ J (uZ J J) (kZ J (uZ J J) (kZ J (hQ J) (kZ J (hQ J) (qQ (bZ (eZ (eZ (aZ (dZ J (cZ nQ ?_)))))))))))
 refine fZ (bZ (qZ J (wZ (bZ (eZ (aZ (dZ J (cQ J (pZ fa166_2 J (cZ (rZ ti111 J) ?_))))))))))
 refine dZ J (oZ call90 J (iM) (fill_ok W0 _ (m := m) (n := n) (k := q) (bs := σ.bs) (ws := []) (a := none) (c2 := 0) (RdB.of_slR SlR.nil (Nat.le_refl _)) hqn (by decide)) J ?_)
 rintro ⟨⟩ -
 exact fZ (bZ (eZ (aZ (dZ J (gZ J (fZ (bZ (tZ (xZ J J q h2 J iM)))))))))
end
def Lk (n : Nat) (qs : List Int) (rt : Nat → Option Nat) (o : Ob) (c : Nat) (σ : St) : Prop := ∃ A, A.rt = rt ∧ A.hs = [] ∧ Good n qs A σ ∧ obs A σ = o ∧ σ.hits + σ.miss ≤ c
theorem Lk.intro {n : Nat} {qs : List Int} {A : Ab} {σ : St} {rt : Nat → Option Nat} {o : Ob} {c : Nat} (G : Good n qs A σ) (h1 : A.rt = rt) (h0 : A.hs = []) (e : obs A σ = o) (hc : σ.hits + σ.miss ≤ c) : Lk n qs rt o c σ := ⟨A, h1, h0, G, e, hc⟩
def used (o : Ob) (k : Nat) : Nat := 1 + cN (o.ts k) 64 + cN (fun p => (o.vw k p).isSome) 4096
theorem used_cnt {n : Nat} {qs : List Int} {A : Ab} {σ : St} {k r : Nat} (G : Good n qs A σ) (h0 : A.hs = []) (hk : A.rt k = some r) : cnt σ.own k = used (obs A σ) k := by
 rw [G.own.cnt k, h0, hk]
 unfold used obs
 simp only [Option.isSome_some, if_true, List.filter_nil, List.length_nil, Nat.add_zero]
 congr 1
 exact cN_congr _ fun q _ => by cases A.pg k q <;> rfl
def mapO (qk : Int) (o : Ob) (k : Nat) (p pm : Int) : Int × Ob :=
 if ¬((0 ≤ p ∧ p < 4096) ∧ 1 ≤ pm ∧ pm ≤ 7) then (2, o)
 else if (o.vw k p.toNat).isSome then (91, o)
 else if qk - used o k < (if o.ts k (p.toNat / 64) then 1 else 2 : Nat) then (141, o)
 else (0, ⟨up2 o.vw k p.toNat (some (pm.toNat, zs)), up2 o.ts k (p.toNat / 64) true, o.fr - (if o.ts k (p.toNat / 64) then 1 else 2)⟩)
theorem up2_same {α : Type} {h : Nat → Nat → α} {k p : Nat} : up2 h k p (h k p) = h := by
 funext k' p'; unfold up2; split
 ·rename_i e; rw [e.1, e.2]
 ·rfl
section
variable (W0 : World) (Fr : List HProp)
variable {n : Nat} {qs : List Int} {rt : Nat → Option Nat} {o : Ob} {c : Nat} {σ : St} {k r s m f t : Nat}
theorem vw_obs {A : Ab} {k p : Nat} : (obs A σ).vw k p = (A.pg k p).map fun x => (x.2, frB σ.bs x.1) := rfl
theorem map_spec (L : Lk n qs rt o c σ) (hq : ∀ q ∈ qs, 0 ≤ q ∧ q ≤ 1024) {qk : Int} (hqk : qs[k]? = some qk) (hk : rt k = some r) (p pm : Int) : Ctr prog W0 72 [.pointer (some ⟨s, 0, none⟩), .int .i64 p, .int .i64 pm] (WG m f t n qs σ (sb s k r m f t :: Fr)) (fun σ' : St => Lk n qs rt (mapO qk o k p pm).2 c σ') (fun _ => .int .i64 (mapO qk o k p pm).1) (fun σ' => WG m f t n qs σ' (sb s k r m f t :: Fr)) := by
 have L0 := L
 obtain ⟨A, rfl, h0, G, rfl, hcc⟩ := L
 by_cases hg : (0 ≤ p ∧ p < 4096) ∧ 1 ≤ pm ∧ pm ≤ 7
 ·obtain ⟨q, rfl⟩ := Int.eq_ofNat_of_zero_le hg.1.1
  obtain ⟨mm, rfl⟩ := Int.eq_ofNat_of_zero_le (show 0 ≤ pm by omega)
  have hq4 : q < 4096 := by omega
  have hvp : vp A k q = A.pg k q := vp_in hq4
  have huc := used_cnt G h0 hk
  obtain ⟨t1, t2, t3⟩ := G.rep.tree k r hk
  have hn2 := G.n2
  cases hx : A.pg k q with
  | some x =>
   have e : mapO qk (obs A σ) k (q : Int) (mm : Int) = (91, obs A σ) := by
    unfold mapO; rw [if_neg (by omega), Int.toNat_natCast, if_pos (by rw [vw_obs, hx]; rfl)]
   rw [e]
   refine Ctr.of_body func72 J ntmps72 J (eZ (aZ (gZ J (fZ (bZ (eZ (fQ (eZ (aZ (dZ J (dZ J (oZ call131 J (iM) (good_spec W0 _ (q : Int) (mm : Int)) J ?_))))))))))))
   rintro ⟨⟩ -
   rw [decide_eq_true hg]
   refine cZ (pQ J) (gZ J (fZ (bZ (qZ J (eZ (aZ (dZ J (dZ J (oZ call132 J (iM) (there_spec W0 _ (A := A) (σ := σ) (r := r) (k := k) (m := m) (f := f) (t := t) (qs := qs) (s := s) G.rep hk (q : Int)) J ?_)))))))))
   rintro ⟨⟩ -
   rw [hvp, hx]
   exact gZ J (fZ (bZ (gQ J (eZ (aZ (gZ J (fZ (bZ (tZ (mQ (vZ (xZ J J σ L0 J iM))))))))))))
  | none =>
   have hvw : (obs A σ).vw k q = none := by rw [vw_obs, hx]; rfl
   by_cases hts : (A.tb k (q / 64)).isSome = true
   ·have hte : (obs A σ).ts k (q / 64) = true := hts
    by_cases hroom : qk - used (obs A σ) k < (1 : Nat)
    ·have e : mapO qk (obs A σ) k (q : Int) (mm : Int) = (141, obs A σ) := by
      unfold mapO; rw [if_neg (by omega), Int.toNat_natCast, if_neg (by rw [hvw]; simp), hte, if_pos J, if_pos hroom]
     rw [e]
     refine Ctr.of_body func72 J ntmps72 J (eZ (aZ (gZ J (fZ (bZ (eZ (fQ (eZ (aZ (dZ J (dZ J (oZ call131 J (iM) (good_spec W0 _ (q : Int) (mm : Int)) J ?_))))))))))))
     rintro ⟨⟩ -
     rw [decide_eq_true hg]
     refine cZ (pQ J) (gZ J (fZ (bZ (qZ J (eZ (aZ (dZ J (dZ J (oZ call132 J (iM) (there_spec W0 _ (A := A) (σ := σ) (r := r) (k := k) (m := m) (f := f) (t := t) (qs := qs) (s := s) G.rep hk (q : Int)) J ?_)))))))))
     rintro ⟨⟩ -
     rw [hvp, hx]
     refine gZ J (fZ (bZ (qZ J (wZ (sZ (bZ (eZ (aZ (gZ J (fZ (bZ (eZ (eZ (aZ (dZ J (dZ J (oZ call133 J (iM) (table_spec W0 _ (A := A) (σ := σ) (r := r) (k := k) (m := m) (f := f) (t := t) (qs := qs) (s := s) G.rep hn2.2 hk hq4) J ?_)))))))))))))))))
     rintro ⟨⟩ -
     rw [hts]
     refine cZ (pQ J) (fZ (bZ (qZ J (wZ (bZ (eZ (eZ (aZ (dZ J (dZ J (oZ call134 J (iM) (room_spec W0 _ (σ := σ) (r := r) (k := k) (m := m) (f := f) (t := t) (n := n) (s := s) (d := 1) G.inv hq hqk (.inl J)) J ?_)))))))))))
     rintro ⟨⟩ -
     rw [huc, if_pos hroom]
     refine gZ J (fZ (bZ (eZ (aZ (dZ J (cZ nQ ?_))))))
     exact fZ (bZ (gQ J (eZ (aZ (dZ J (gZ J (fZ (bZ (tZ (vZ (xZ J J σ L0 J iM)))))))))))
    ·have e : mapO qk (obs A σ) k (q : Int) (mm : Int) = (0, ⟨up2 (obs A σ).vw k q (some (mm, zs)), (obs A σ).ts, (obs A σ).fr - 1⟩) := by
      unfold mapO; rw [if_neg (by omega), Int.toNat_natCast, if_neg (by rw [hvw]; simp), hte, if_pos J, if_neg hroom, Int.toNat_natCast]
      congr 2
      rw [← hte, up2_same]
     rw [e]
     obtain ⟨tq, htq⟩ := Option.isSome_iff_exists.1 hts
     have hcq : (cnt σ.own k : Int) < qk := by omega
     refine Ctr.of_body func72 J ntmps72 J (eZ (aZ (gZ J (fZ (bZ (eZ (fQ (eZ (aZ (dZ J (dZ J (oZ call131 J (iM) (good_spec W0 _ (q : Int) (mm : Int)) J ?_))))))))))))
     rintro ⟨⟩ -
     rw [decide_eq_true hg]
     refine cZ (pQ J) (gZ J (fZ (bZ (qZ J (eZ (aZ (dZ J (dZ J (oZ call132 J (iM) (there_spec W0 _ (A := A) (σ := σ) (r := r) (k := k) (m := m) (f := f) (t := t) (qs := qs) (s := s) G.rep hk (q : Int)) J ?_)))))))))
     rintro ⟨⟩ -
     rw [hvp, hx]
     refine gZ J (fZ (bZ (qZ J (wZ (sZ (bZ (eZ (aZ (gZ J (fZ (bZ (eZ (eZ (aZ (dZ J (dZ J (oZ call133 J (iM) (table_spec W0 _ (A := A) (σ := σ) (r := r) (k := k) (m := m) (f := f) (t := t) (qs := qs) (s := s) G.rep hn2.2 hk hq4) J ?_)))))))))))))))))
     rintro ⟨⟩ -
     rw [hts]
     refine cZ (pQ J) (fZ (bZ (qZ J (wZ (bZ (eZ (eZ (aZ (dZ J (dZ J (oZ call134 J (iM) (room_spec W0 _ (σ := σ) (r := r) (k := k) (m := m) (f := f) (t := t) (n := n) (s := s) (d := 1) G.inv hq hqk (.inl J)) J ?_)))))))))))
     rintro ⟨⟩ -
     rw [huc, if_neg hroom]
     refine gZ J (fZ (bZ (eZ (aZ (dZ J (cZ nQ ?_))))))
     refine fZ (bZ (qZ J (wZ (bZ (eZ (aZ (gZ J (fZ (bZ (eZ (eZ (aZ (dZ J (cZ yX ?_))))))))))))))
     refine fZ (bZ (qZ J (wZ (bZ (eZ (sQ (.lo 0 0 (.lo 1 0 (.lo 2 0 (.lo 3 0 (.lo 4 0 (.lo 5 0 (.lo 6 0 (.lo 7 0 (.lo 8 0 (.lo 9 1 (.lo 11 0 (.lo 12 0 (.eff1 10 false (.eff1 13 false (.lo 14 1 (.lo 15 1 (.lo 16 1 (.lo 17 1 (.lo 18 1 (.done)))))))))))))))))))) [10, 13] [] ([sb s k r m f t]) ([]) mixed (by kernel_rfl) iM (Imp.none _) ?_))))))
     refine mZ J J (rQ J J (aQ J fa166_2 J (kZ J (rZ ti111 J) ?_)))
     refine mZ J J (rQ J J (aQ J fa166_1 J (kZ J (rZ ti3 J) ?_)))
     refine mZ J J (mZ J J (mZ J J (mZ J J (zZ (kQ J J call135 J (iM) (take_spec W0 _ (σ := σ) (r := r) (k := k) (m := m) (f := f) (t := t) (n := n) (s := s) G.inv G.ol hq hqk hcq) J (fun _ => iM) (fun _ => Imp.refl _) (fun _ => iM) ?_)))))
     rintro fr hfr
     obtain ⟨G2, e2⟩ := G.map1 h0 (m := mm) hk hq4 htq hx hfr (by omega) hqk hcq
     have hfn : fr < n := by rw [← G.ol]; exact (List.getElem?_eq_some_iff.1 hfr).1
     have hent := (sp_entry (f := fr) (p := mm) (by omega) (by omega)).1
     have R1 := G.rep.only (only_fill (bs := σ.bs) (ws := []) G.rep.len hfn (by decide)) (fun k' e => G.own.free hfr (.root k') e) (fun k' g e => G.own.free hfr (.tab k' g) e)
     have hset := setR_tab (n := n) (bs := overB σ.bs (fr * 256) (fillB [])) (root := r) (p := q) (e := (entryOf (fr : Int) mm).toNat) (q := tq) (spare := -1) (by rw [(R1.tree k r hk).2.1 _ (by omega), htq])
     refine zZ (kQ J J call136 J (iM) (Pg.set_spec W0 _ (m := m) (n := n) (root := r) (p := q) (e := (entryOf (fr : Int) mm).toNat) (f := (fr : Int)) (pm := (mm : Int)) (spare := -1) (bs := overB σ.bs (fr * 256) (fillB [])) t1.rt hq4 (by rw [hent]; rfl) (by rw [hent]; omega) (by omega)) J (fun _ => iM) (fun _ => Imp.refl _) (fun _ => iM) ?_)
     rintro ⟨⟩ -
     rw [hset]
     refine mZ J J (kZ J (uZ J J) (kZ J (uZ J J) (kZ J (hQ J) (kZ J (hQ J) (qQ (bZ (eZ (aZ (dZ J (gZ J (fZ (bZ (tZ ?_)))))))))))))
     have L' := Lk.intro G2 J h0 e2 hcc
     exact xZ J J _ L' J iM
   ·have htn : A.tb k (q / 64) = none := by cases h : A.tb k (q / 64) with | none => rfl | some _ => rw [h] at hts; exact absurd J hts
    have hte : (obs A σ).ts k (q / 64) = false := by show (A.tb k (q / 64)).isSome = false; rw [htn]; rfl
    by_cases hroom : qk - used (obs A σ) k < (2 : Nat)
    ·have e : mapO qk (obs A σ) k (q : Int) (mm : Int) = (141, obs A σ) := by
      unfold mapO; rw [if_neg (by omega), Int.toNat_natCast, if_neg (by rw [hvw]; simp), hte, if_neg (show ¬ (false = true) by decide), if_pos hroom]
     rw [e]
     refine Ctr.of_body func72 J ntmps72 J (eZ (aZ (gZ J (fZ (bZ (eZ (fQ (eZ (aZ (dZ J (dZ J (oZ call131 J (iM) (good_spec W0 _ (q : Int) (mm : Int)) J ?_))))))))))))
     rintro ⟨⟩ -
     rw [decide_eq_true hg]
     refine cZ (pQ J) (gZ J (fZ (bZ (qZ J (eZ (aZ (dZ J (dZ J (oZ call132 J (iM) (there_spec W0 _ (A := A) (σ := σ) (r := r) (k := k) (m := m) (f := f) (t := t) (qs := qs) (s := s) G.rep hk (q : Int)) J ?_)))))))))
     rintro ⟨⟩ -
     rw [hvp, hx]
     refine gZ J (fZ (bZ (qZ J (wZ (sZ (bZ (eZ (aZ (gZ J (fZ (bZ (eZ (eZ (aZ (dZ J (dZ J (oZ call133 J (iM) (table_spec W0 _ (A := A) (σ := σ) (r := r) (k := k) (m := m) (f := f) (t := t) (qs := qs) (s := s) G.rep hn2.2 hk hq4) J ?_)))))))))))))))))
     rintro ⟨⟩ -
     rw [htn]
     refine cZ (pQ J) (fZ (bZ (gQ J (aZ (gZ J (fZ (bZ (eZ (eZ (aZ (dZ J (dZ J (oZ call134 J (iM) (room_spec W0 _ (σ := σ) (r := r) (k := k) (m := m) (f := f) (t := t) (n := n) (s := s) (d := 2) G.inv hq hqk (.inr J)) J ?_)))))))))))))
     rintro ⟨⟩ -
     rw [huc, if_pos hroom]
     refine gZ J (fZ (bZ (eZ (aZ (dZ J (cZ nQ ?_))))))
     exact fZ (bZ (gQ J (eZ (aZ (dZ J (gZ J (fZ (bZ (tZ (vZ (xZ J J σ L0 J iM)))))))))))
    ·have e : mapO qk (obs A σ) k (q : Int) (mm : Int) = (0, ⟨up2 (obs A σ).vw k q (some (mm, zs)), up2 (obs A σ).ts k (q / 64) true, (obs A σ).fr - 2⟩) := by
      unfold mapO; rw [if_neg (by omega), Int.toNat_natCast, if_neg (by rw [hvw]; simp), hte, if_neg (show ¬ (false = true) by decide), if_neg hroom, Int.toNat_natCast]
     rw [e]
     have hcq : (cnt σ.own k : Int) + 1 < qk := by omega
     refine Ctr.of_body func72 J ntmps72 J (eZ (aZ (gZ J (fZ (bZ (eZ (fQ (eZ (aZ (dZ J (dZ J (oZ call131 J (iM) (good_spec W0 _ (q : Int) (mm : Int)) J ?_))))))))))))
     rintro ⟨⟩ -
     rw [decide_eq_true hg]
     refine cZ (pQ J) (gZ J (fZ (bZ (qZ J (eZ (aZ (dZ J (dZ J (oZ call132 J (iM) (there_spec W0 _ (A := A) (σ := σ) (r := r) (k := k) (m := m) (f := f) (t := t) (qs := qs) (s := s) G.rep hk (q : Int)) J ?_)))))))))
     rintro ⟨⟩ -
     rw [hvp, hx]
     refine gZ J (fZ (bZ (qZ J (wZ (sZ (bZ (eZ (aZ (gZ J (fZ (bZ (eZ (eZ (aZ (dZ J (dZ J (oZ call133 J (iM) (table_spec W0 _ (A := A) (σ := σ) (r := r) (k := k) (m := m) (f := f) (t := t) (qs := qs) (s := s) G.rep hn2.2 hk hq4) J ?_)))))))))))))))))
     rintro ⟨⟩ -
     rw [htn]
     refine cZ (pQ J) (fZ (bZ (gQ J (aZ (gZ J (fZ (bZ (eZ (eZ (aZ (dZ J (dZ J (oZ call134 J (iM) (room_spec W0 _ (σ := σ) (r := r) (k := k) (m := m) (f := f) (t := t) (n := n) (s := s) (d := 2) G.inv hq hqk (.inr J)) J ?_)))))))))))))
     rintro ⟨⟩ -
     rw [huc, if_neg hroom]
     refine gZ J (fZ (bZ (eZ (aZ (dZ J (cZ nQ ?_))))))
     refine fZ (bZ (qZ J (wZ (bZ (eZ (aZ (gZ J (fZ (bZ (eZ (eZ (aZ (dZ J (cZ yX ?_))))))))))))))
     refine fZ (bZ (gQ J (aZ (dZ J (oZ call135 J (iM) (take_spec W0 _ (σ := σ) (r := r) (k := k) (m := m) (f := f) (t := t) (n := n) (s := s) G.inv G.ol hq hqk (by omega)) J ?_)))))
     rintro tq htq
     have hqn : tq < n := by rw [← G.ol]; exact (List.getElem?_eq_some_iff.1 htq).1
     have I1 := inv_take G.inv hqk (by omega) htq
     have hc1 : (cnt (σ.own.set tq k) k : Int) < qk := by rw [cnt_set htq, if_neg (show ¬ ((-1 : Int) = k) by omega), if_pos J]; omega
     refine gZ J (fZ (bZ (eZ (sQ (.lo 0 0 (.lo 1 0 (.lo 2 0 (.lo 3 0 (.lo 4 0 (.lo 5 0 (.lo 6 0 (.lo 7 0 (.lo 8 0 (.lo 9 1 (.lo 11 0 (.lo 12 0 (.eff1 10 false (.eff1 13 false (.lo 14 1 (.lo 15 1 (.lo 16 1 (.lo 17 1 (.lo 18 1 (.done)))))))))))))))))))) [10, 13] [] ([sb s k r m f t]) ([]) mixed (by kernel_rfl) iM (Imp.none _) ?_))))
     refine mZ J J (rQ J J (aQ J fa166_2 J (kZ J (rZ ti111 J) ?_)))
     refine mZ J J (rQ J J (aQ J fa166_1 J (kZ J (rZ ti3 J) ?_)))
     refine mZ J J (mZ J J (mZ J J (mZ J J (zZ (kQ J J call135 J (iM) (take_spec W0 _ (σ := { σ with bs := overB σ.bs (tq * 256) (fillB []), own := σ.own.set tq k }) (r := r) (k := k) (m := m) (f := f) (t := t) (n := n) (s := s) I1 (by show (σ.own.set tq k).length = n; rw [List.length_set]; exact G.ol) hq hqk hc1) J (fun _ => iM) (fun _ => Imp.refl _) (fun _ => iM) ?_)))))
     rintro fr hfr
     dsimp only at hfr ⊢
     have hfn : fr < n := by have := (List.getElem?_eq_some_iff.1 hfr).1; rw [List.length_set, G.ol] at this; exact this
     have hne : fr ≠ tq := fun e => by subst e; rw [List.getElem?_set_self (by rw [G.ol]; exact hfn)] at hfr; have := Option.some.inj hfr; omega
     have hf0 : σ.own[fr]? = some (-1) := by rw [List.getElem?_set_ne (fun e => hne e.symm)] at hfr; exact hfr
     obtain ⟨G2, e2⟩ := G.map2 h0 (m := mm) hk hq4 htn hx htq hfr (by omega) hqk hcq
     have hent := (sp_entry (f := fr) (p := mm) (by omega) (by omega)).1
     have R1 := G.rep.only (only_fill (bs := σ.bs) (ws := []) G.rep.len hqn (by decide)) (fun k' e => G.own.free htq (.root k') e) (fun k' g e => G.own.free htq (.tab k' g) e)
     have R2 := R1.only (only_fill (bs := overB σ.bs (tq * 256) (fillB [])) (ws := []) R1.len hfn (by decide)) (fun k' e => G.own.free hf0 (.root k') e) (fun k' g e => G.own.free hf0 (.tab k' g) e)
     have hset := setR_new (n := n) (bs := overB (overB σ.bs (tq * 256) (fillB [])) (fr * 256) (fillB [])) (root := r) (p := q) (e := (entryOf (fr : Int) mm).toNat) (q := tq) (by rw [(R2.tree k r hk).2.1 _ (by omega), htn]) hqn
     refine zZ (kQ J J call136 J (iM) (Pg.set_spec W0 _ (m := m) (n := n) (root := r) (p := q) (e := (entryOf (fr : Int) mm).toNat) (f := (fr : Int)) (pm := (mm : Int)) (spare := (tq : Int)) (bs := overB (overB σ.bs (tq * 256) (fillB [])) (fr * 256) (fillB [])) t1.rt hq4 (by rw [hent]; rfl) (by rw [hent]; omega) (by omega)) J (fun _ => iM) (fun _ => Imp.refl _) (fun _ => iM) ?_)
     rintro ⟨⟩ -
     rw [hset]
     refine mZ J J (kZ J (uZ J J) (kZ J (uZ J J) (kZ J (hQ J) (kZ J (hQ J) (qQ (bZ (eZ (aZ (dZ J (gZ J (fZ (bZ (tZ ?_)))))))))))))
     have L' := Lk.intro G2 J h0 e2 hcc
     exact xZ J J _ L' J iM
 ·have e : mapO qk (obs A σ) k p pm = (2, obs A σ) := by unfold mapO; rw [if_pos hg]
  rw [e]
  refine Ctr.of_body func72 J ntmps72 J (eZ (aZ (gZ J (fZ (bZ (eZ (fQ (eZ (aZ (dZ J (dZ J (oZ call131 J (iM) (good_spec W0 _ p pm) J ?_))))))))))))
  rintro ⟨⟩ -
  rw [decide_eq_false hg]
  exact cZ (pQ J) (gZ J (fZ (bZ (gQ J (eZ (aZ (gZ J (fZ (bZ (tZ (mQ (vZ (xZ J J σ L0 J iM)))))))))))))
end
section
variable (W0 : World) (Fr : List HProp)
variable {n : Nat} {qs : List Int} {rt : Nat → Option Nat} {o : Ob} {c : Nat} {σ : St} {k r s m f t : Nat}
theorem wV_some {A : Ab} {k q : Nat} {x : Nat × Nat} (hq : q < 4096) (hx : A.pg k q = some x) : wV A k q = ((x.1 : Int), (x.2 : Int), 0) := by unfold wV; rw [vp_in hq, hx]
theorem wV_none {A : Ab} {k q : Nat} (hq : q < 4096) (hx : A.pg k q = none) : wV A k q = (0, 0, 90) := by unfold wV; rw [vp_in hq, hx]; simp only; rw [if_pos (by omega)]
theorem wV_out {A : Ab} {k : Nat} {p : Int} (h : ¬(0 ≤ p ∧ p < 4096)) : wV A k p = (0, 0, 2) := by unfold wV; rw [vp_out h]; simp only; rw [if_neg h]
structure Fnd (n : Nat) (qs : List Int) (A : Ab) (σ σ' : St) : Prop where
 good : Good n qs A σ'
 bs : σ'.bs = σ.bs
 own : σ'.own = σ.own
 cnt : σ'.hits + σ'.miss ≤ σ.hits + σ.miss + 1
theorem find_spec {A : Ab} (G : Good n qs A σ) (hk : A.rt k = some r) (hb : σ.hits + σ.miss < 1000000000000000000) (p : Int) : Ctr prog W0 147 [.pointer (some ⟨s, 0, none⟩), .int .i64 p] (WG m f t n qs σ (sb s k r m f t :: Fr)) (fun σ' : St => Fnd n qs A σ σ') (fun _ => .tuple #[.int .i64 (wV A k p).1, .int .i64 (wV A k p).2.1, .bool (vp A k p).isSome]) (fun σ' => WG m f t n qs σ' (sb s k r m f t :: Fr)) := by
 cases hf : σ.l.findIdx? (hitB k p) with
 | some i =>
  have hi := (List.findIdx?_eq_some_iff_getElem.1 hf).1
  obtain ⟨sl, hs⟩ : ∃ sl, σ.l[i]? = some sl := ⟨_, List.getElem?_eq_getElem hi⟩
  have hpp : ∃ q : Nat, p = q := by
   obtain ⟨_, h4, _⟩ := List.findIdx?_eq_some_iff_getElem.1 hf
   rw [show σ.l[i] = sl by simpa [hi] using hs] at h4
   obtain ⟨a1, a2, a3⟩ := hit_iff.1 h4
   obtain ⟨k', p', x, b1, b2, b3⟩ := G.tlb.tr sl (List.mem_of_getElem? hs) a1
   exact ⟨p', by omega⟩
  obtain ⟨q, rfl⟩ := hpp
  obtain ⟨x, hx, hfr, hpm⟩ := G.tlb.hit hf hs
  have hq4 := (G.rep.pg0 k q x hx).1
  rw [wV_some hq4 hx, vp_in hq4, hx]
  refine Ctr.of_body func147 J ntmps147 J (eZ (aZ (gZ J (gZ J (gZ J (fZ (bZ (eZ (eZ (sQ (.lo 0 1 (.lo 1 1 (.lo 2 1 (.lo 3 1 (.lo 4 1 (.lo 5 1 (.lo 6 1 (.lo 7 1 (.lo 8 1 (.eff1 9 false (.lo 10 1 (.lo 11 1 (.lo 12 1 (.lo 13 1 (.lo 14 1 (.lo 15 1 (.lo 16 1 (.done)))))))))))))))))) [9] [] ([]) ([]) mixed (by kernel_rfl) (Imp.none _) (Imp.none _) (mZ J J (rQ J J (aQ J fa166_4 J (kZ J (rZ ti117 J) ?_))))))))))))))
  refine mZ J J (rQ J J (aQ J fa166_0 J (kZ J (rZ ti3 J) ?_)))
  refine mZ J J (zZ (kQ J J call195 J (iM) (Tl.look_hit W0 _ (t := t) (hand := σ.hand) (hits := σ.hits) (miss := σ.miss) (l := σ.l) (k : Int) (q : Int) G.tlb.ll (by omega) hf hs) J (fun _ => iM) (fun _ => Imp.refl _) (fun _ => iM) ?_))
  rintro ⟨⟩ -
  rw [hfr, hpm]
  refine mZ J J (kZ J (uZ J J) (kZ J (uZ J J) (kZ J (uZ J J) (kZ J (hQ J) (kZ J (hQ J) (kZ J (hQ J) (qQ (bZ (eZ (aZ (dZ J (fZ (bZ (gQ J (eZ (aZ (dZ J (dZ J (gZ J (gZ J (gZ J (fZ (bZ ?_)))))))))))))))))))))))
  refine tZ (vZ ?_)
  exact fV [.int .i64 x.1, .int .i64 x.2, .bool true] J ⟨rfl, rfl, rfl, trivial⟩ { σ with hits := σ.hits + 1, miss := σ.miss } ⟨G.count _ _, rfl, rfl, by simp only; omega⟩ J iM
 | none =>
  rcases vp_cases A k p with ⟨q, x, rfl, hq4, hx, hv⟩ | ⟨q, rfl, hq4, hx, hv⟩ | ⟨hp, hv⟩
  ·rw [wV_some hq4 hx, hv]
   refine Ctr.of_body func147 J ntmps147 J (eZ (aZ (gZ J (gZ J (gZ J (fZ (bZ (eZ (eZ (sQ (.lo 0 1 (.lo 1 1 (.lo 2 1 (.lo 3 1 (.lo 4 1 (.lo 5 1 (.lo 6 1 (.lo 7 1 (.lo 8 1 (.eff1 9 false (.lo 10 1 (.lo 11 1 (.lo 12 1 (.lo 13 1 (.lo 14 1 (.lo 15 1 (.lo 16 1 (.done)))))))))))))))))) [9] [] ([]) ([]) mixed (by kernel_rfl) (Imp.none _) (Imp.none _) (mZ J J (rQ J J (aQ J fa166_4 J (kZ J (rZ ti117 J) ?_))))))))))))))
   refine mZ J J (rQ J J (aQ J fa166_0 J (kZ J (rZ ti3 J) ?_)))
   refine mZ J J (zZ (kQ J J call195 J (iM) (Tl.look_miss W0 _ (t := t) (hand := σ.hand) (hits := σ.hits) (miss := σ.miss) (l := σ.l) (k : Int) (q : Int) G.tlb.ll (by omega) hf) J (fun _ => iM) (fun _ => Imp.refl _) (fun _ => iM) ?_))
   rintro ⟨⟩ -
   refine mZ J J (kZ J (uZ J J) (kZ J (uZ J J) (kZ J (uZ J J) (kZ J (hQ J) (kZ J (hQ J) (kZ J (hQ J) (qQ (bZ (eZ (aZ (dZ J (fZ (bZ (qZ J (wZ (bZ (eZ (sQ (.lo 0 1 (.lo 1 1 (.lo 2 1 (.lo 3 1 (.lo 4 1 (.lo 5 1 (.lo 6 1 (.lo 7 1 (.lo 8 1 (.eff1 9 false (.lo 10 1 (.lo 11 1 (.lo 12 1 (.lo 13 1 (.lo 14 1 (.lo 15 1 (.lo 16 1 (.done)))))))))))))))))) [9] [] ([]) ([]) mixed (by kernel_rfl) (Imp.none _) (Imp.none _) (mZ J J (rQ J J (aQ J fa166_2 J (kZ J (rZ ti111 J) ?_))))))))))))))))))))))
   refine mZ J J (rQ J J (aQ J fa166_1 J (kZ J (rZ ti3 J) ?_)))
   refine mZ J J (zZ (kQ J J call84 J (iM) (walk_ab W0 _ (m := m) (n := n) (σ := σ) G.rep hk (q : Int)) J (fun _ => iM) (fun _ => Imp.refl _) (fun _ => iM) ?_))
   rintro ⟨⟩ -
   rw [wV_some hq4 hx]
   refine mZ J J (kZ J (uZ J J) (kZ J (uZ J J) (kZ J (uZ J J) (kZ J (hQ J) (kZ J (hQ J) (kZ J (hQ J) (qQ (bZ (eZ (eZ (aZ (dZ J (cZ nQ ?_)))))))))))))
   refine fZ (bZ (qZ J (wZ (bZ (eZ (sQ (.lo 0 1 (.lo 1 1 (.lo 2 1 (.lo 3 1 (.lo 4 1 (.lo 5 1 (.lo 6 1 (.lo 7 1 (.lo 8 1 (.lo 9 1 (.lo 10 1 (.eff1 11 false (.done))))))))))))) [11] [] ([]) ([]) mixed (by kernel_rfl) (Imp.none _) (Imp.none _) (mZ J J (rQ J J (aQ J fa166_4 J (kZ J (rZ ti117 J) ?_))))))))))
   refine mZ J J (rQ J J (aQ J fa166_0 J (kZ J (rZ ti3 J) ?_)))
   refine mZ J J (mZ J J (mZ J J (zZ (kQ J J call196 J (iM) (Tl.put_spec W0 _ (t := t) (hand := σ.hand) (hits := σ.hits) (miss := σ.miss + 1) (l := σ.l) (k : Int) (q : Int) (x.1 : Int) (x.2 : Int) G.tlb.ll G.tlb.hh) J (fun _ => iM) (fun _ => Imp.refl _) (fun _ => iM) ?_))))
   rintro ⟨⟩ -
   refine qQ (bZ (eZ (aZ (dZ J (dZ J (gZ J (gZ J (gZ J (fZ (bZ (tZ ?_)))))))))))
   exact fV [.int .i64 x.1, .int .i64 x.2, .bool true] J ⟨rfl, rfl, rfl, trivial⟩ { σ with l := (putL σ.l σ.hand ⟨true, k, q, x.1, x.2⟩).1, hand := (putL σ.l σ.hand ⟨true, k, q, x.1, x.2⟩).2, hits := σ.hits, miss := σ.miss + 1 } ⟨G.find hx _ _, rfl, rfl, by simp only; omega⟩ J iM
  ·rw [wV_none hq4 hx, hv]
   refine Ctr.of_body func147 J ntmps147 J (eZ (aZ (gZ J (gZ J (gZ J (fZ (bZ (eZ (eZ (sQ (.lo 0 1 (.lo 1 1 (.lo 2 1 (.lo 3 1 (.lo 4 1 (.lo 5 1 (.lo 6 1 (.lo 7 1 (.lo 8 1 (.eff1 9 false (.lo 10 1 (.lo 11 1 (.lo 12 1 (.lo 13 1 (.lo 14 1 (.lo 15 1 (.lo 16 1 (.done)))))))))))))))))) [9] [] ([]) ([]) mixed (by kernel_rfl) (Imp.none _) (Imp.none _) (mZ J J (rQ J J (aQ J fa166_4 J (kZ J (rZ ti117 J) ?_))))))))))))))
   refine mZ J J (rQ J J (aQ J fa166_0 J (kZ J (rZ ti3 J) ?_)))
   refine mZ J J (zZ (kQ J J call195 J (iM) (Tl.look_miss W0 _ (t := t) (hand := σ.hand) (hits := σ.hits) (miss := σ.miss) (l := σ.l) (k : Int) (q : Int) G.tlb.ll (by omega) hf) J (fun _ => iM) (fun _ => Imp.refl _) (fun _ => iM) ?_))
   rintro ⟨⟩ -
   refine mZ J J (kZ J (uZ J J) (kZ J (uZ J J) (kZ J (uZ J J) (kZ J (hQ J) (kZ J (hQ J) (kZ J (hQ J) (qQ (bZ (eZ (aZ (dZ J (fZ (bZ (qZ J (wZ (bZ (eZ (sQ (.lo 0 1 (.lo 1 1 (.lo 2 1 (.lo 3 1 (.lo 4 1 (.lo 5 1 (.lo 6 1 (.lo 7 1 (.lo 8 1 (.eff1 9 false (.lo 10 1 (.lo 11 1 (.lo 12 1 (.lo 13 1 (.lo 14 1 (.lo 15 1 (.lo 16 1 (.done)))))))))))))))))) [9] [] ([]) ([]) mixed (by kernel_rfl) (Imp.none _) (Imp.none _) (mZ J J (rQ J J (aQ J fa166_2 J (kZ J (rZ ti111 J) ?_))))))))))))))))))))))
   refine mZ J J (rQ J J (aQ J fa166_1 J (kZ J (rZ ti3 J) ?_)))
   refine mZ J J (zZ (kQ J J call84 J (iM) (walk_ab W0 _ (m := m) (n := n) (σ := σ) G.rep hk (q : Int)) J (fun _ => iM) (fun _ => Imp.refl _) (fun _ => iM) ?_))
   rintro ⟨⟩ -
   rw [wV_none hq4 hx]
   refine mZ J J (kZ J (uZ J J) (kZ J (uZ J J) (kZ J (uZ J J) (kZ J (hQ J) (kZ J (hQ J) (kZ J (hQ J) (qQ (bZ (eZ (eZ (aZ (dZ J (cZ nQ ?_)))))))))))))
   refine fZ (bZ (gQ J (eZ (aZ (gZ J (gZ J (gZ J (fZ (bZ (tZ (vZ ?_)))))))))))
   exact fV [.int .i64 0, .int .i64 0, .bool false] J ⟨rfl, rfl, rfl, trivial⟩ { σ with hits := σ.hits, miss := σ.miss + 1 } ⟨G.count _ _, rfl, rfl, by simp only; omega⟩ J iM
  ·rw [wV_out hp, hv]
   refine Ctr.of_body func147 J ntmps147 J (eZ (aZ (gZ J (gZ J (gZ J (fZ (bZ (eZ (eZ (sQ (.lo 0 1 (.lo 1 1 (.lo 2 1 (.lo 3 1 (.lo 4 1 (.lo 5 1 (.lo 6 1 (.lo 7 1 (.lo 8 1 (.eff1 9 false (.lo 10 1 (.lo 11 1 (.lo 12 1 (.lo 13 1 (.lo 14 1 (.lo 15 1 (.lo 16 1 (.done)))))))))))))))))) [9] [] ([]) ([]) mixed (by kernel_rfl) (Imp.none _) (Imp.none _) (mZ J J (rQ J J (aQ J fa166_4 J (kZ J (rZ ti117 J) ?_))))))))))))))
   refine mZ J J (rQ J J (aQ J fa166_0 J (kZ J (rZ ti3 J) ?_)))
   refine mZ J J (zZ (kQ J J call195 J (iM) (Tl.look_miss W0 _ (t := t) (hand := σ.hand) (hits := σ.hits) (miss := σ.miss) (l := σ.l) (k : Int) p G.tlb.ll (by omega) hf) J (fun _ => iM) (fun _ => Imp.refl _) (fun _ => iM) ?_))
   rintro ⟨⟩ -
   refine mZ J J (kZ J (uZ J J) (kZ J (uZ J J) (kZ J (uZ J J) (kZ J (hQ J) (kZ J (hQ J) (kZ J (hQ J) (qQ (bZ (eZ (aZ (dZ J (fZ (bZ (qZ J (wZ (bZ (eZ (sQ (.lo 0 1 (.lo 1 1 (.lo 2 1 (.lo 3 1 (.lo 4 1 (.lo 5 1 (.lo 6 1 (.lo 7 1 (.lo 8 1 (.eff1 9 false (.lo 10 1 (.lo 11 1 (.lo 12 1 (.lo 13 1 (.lo 14 1 (.lo 15 1 (.lo 16 1 (.done)))))))))))))))))) [9] [] ([]) ([]) mixed (by kernel_rfl) (Imp.none _) (Imp.none _) (mZ J J (rQ J J (aQ J fa166_2 J (kZ J (rZ ti111 J) ?_))))))))))))))))))))))
   refine mZ J J (rQ J J (aQ J fa166_1 J (kZ J (rZ ti3 J) ?_)))
   refine mZ J J (zZ (kQ J J call84 J (iM) (walk_ab W0 _ (m := m) (n := n) (σ := σ) G.rep hk p) J (fun _ => iM) (fun _ => Imp.refl _) (fun _ => iM) ?_))
   rintro ⟨⟩ -
   rw [wV_out hp]
   refine mZ J J (kZ J (uZ J J) (kZ J (uZ J J) (kZ J (uZ J J) (kZ J (hQ J) (kZ J (hQ J) (kZ J (hQ J) (qQ (bZ (eZ (eZ (aZ (dZ J (cZ nQ ?_)))))))))))))
   refine fZ (bZ (gQ J (eZ (aZ (gZ J (gZ J (gZ J (fZ (bZ (tZ (vZ ?_)))))))))))
   exact fV [.int .i64 0, .int .i64 0, .bool false] J ⟨rfl, rfl, rfl, trivial⟩ { σ with hits := σ.hits, miss := σ.miss + 1 } ⟨G.count _ _, rfl, rfl, by simp only; omega⟩ J iM
end
end Go.Proofs.YtphljkplokjonaaGreat.Sp
namespace Go.Proofs.YtphljkplokjonaaGreat.Sp
open Go Go.Sl Go.RowKit Go.Proofs Go.Proofs.YtphljkplokjonaaGreat.T Go.Proofs.YtphljkplokjonaaGreat.Me Go.Proofs.YtphljkplokjonaaGreat.Pe Go.Proofs.YtphljkplokjonaaGreat.Pg
open Go.Proofs.YtphljkplokjonaaGreat.Fz (cnt cnt_set inv_take free_frame isP left left_in)
open Go.Proofs.YtphljkplokjonaaGreat.Tl (Slot hitB putL put_cases)
section
variable (W0 : World) (Fr : List HProp)
variable {n : Nat} {qs : List Int} {rt : Nat → Option Nat} {o : Ob} {c : Nat} {σ : St} {k r s m f t : Nat}
end
end Go.Proofs.YtphljkplokjonaaGreat.Sp
namespace Go.Proofs.YtphljkplokjonaaGreat.Ms
open Go Go.Sl Go.RowKit Go.Proofs Go.Proofs.YtphljkplokjonaaGreat.T
abbrev B := List UInt8
structure Msg where
 a : Option Addr
 c : Nat
 b : B
def Msg.cell (m : Msg) : Value := .slice m.a m.b.length m.c
abbrev Msg.own (m : Msg) : HProp := oby 5 m.a m.c m.b
abbrev pool (ms : List Msg) : HProp := Star (ms.map Msg.own)
def Msg.nil : Msg := ⟨none, 0, []⟩
theorem own_nil {G : List HProp} : Imp G (Msg.nil.own :: G) := oby_nil
theorem pool_nil {G : List HProp} : Imp G (pool [] :: G) := star_nil
theorem pool_add {G : List HProp} {m : Msg} {ms : List Msg} : Imp (m.own :: pool ms :: G) (pool (ms ++ [m]) :: G) := by
 have h := star_add (L := ms.map Msg.own) (A := m.own) (G := G)
 unfold pool; rw [List.map_append]; exact h
theorem pool_rd {W0 : World} {G R : List HProp} {ms : List Msg} (x : Ext G (pool ms) R) {m : Msg} (h : m ∈ ms) : RdB W0 G m.a m.c m.b :=
 RdB.of_star (E := 5) x (List.mem_map_of_mem h)
theorem set_self {α : Type} {l : List α} {i : Nat} {x : α} (h : l[i]? = some x) : l.set i x = l := by
 obtain ⟨hi, rfl⟩ := List.getElem?_eq_some_iff.1 h
 exact List.set_getElem_self hi
def intsV (k : IntKind) (l : List Int) : List Value := l.map (Value.int k)
theorem intsV_len (k : IntKind) (l : List Int) : (intsV k l).length = l.length := by simp [intsV]
theorem intsV_ones (k : IntKind) (l : List Int) : ∀ v ∈ intsV k l, one v = true := by intro v hv; unfold intsV at hv; rw [List.mem_map] at hv; obtain ⟨x, _, rfl⟩ := hv; rfl
theorem intsV_get {k : IntKind} {l : List Int} {i : Nat} {x : Int} (h : l[i]? = some x) : (intsV k l)[i]? = some (.int k x) := by unfold intsV; rw [List.getElem?_map, h]; rfl
theorem intsV_app (k : IntKind) (l : List Int) (x : Int) : intsV k (l ++ [x]) = intsV k l ++ [.int k x] := by simp [intsV]
abbrev onum (E : Nat) (k : IntKind) (a : Option Addr) (c : Nat) (l : List Int) : HProp := osl E 1 a c l.length (intsV k l)
theorem onum_app (E : Nat) (k : IntKind) (a : Option Addr) (c : Nat) (l : List Int) (x : Int) : onum E k a c (l ++ [x]) = osl E 1 a c (l.length + 1) (intsV k l ++ [.int k x]) := by unfold onum; rw [List.length_append, intsV_app]; rfl
theorem flat_ones {α : Type} {f : α → List Value} (hf : ∀ x, ∀ v ∈ f x, Sl.one v = true) (l : List α) : ∀ v ∈ (l.map f).flatten, Sl.one v = true := by
 intro v hv
 obtain ⟨x, hx, hvx⟩ := List.mem_flatten.1 hv
 obtain ⟨y, _, rfl⟩ := List.mem_map.1 hx
 exact hf y v hvx
theorem flat_app {α : Type} (f : α → List Value) (l : List α) (x : α) : ((l ++ [x]).map f).flatten = (l.map f).flatten ++ f x := by simp
end Go.Proofs.YtphljkplokjonaaGreat.Ms
