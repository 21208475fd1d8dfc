/- Ranges over functions: what an iterator owes (a contract at whatever its yield does), the statement, a round, and what stands at the end of a function that holds such a statement. No program in sight. -/
import Derived.Test.YtmlfcfbblfcpdaaArr
import Derived.Test.YtmlfcfbblfcpdaaPool
import Derived.Test.YtmlfcfbblfcpdaaRet
import Derived.Test.YtmlfcfbblfcpdaaFnv
import Derived.RangeFuncLeaves
import Derived.RangeFuncNested
namespace Go.Sl
open Go Go.RowKit
set_option linter.unusedVariables false
set_option linter.unusedSimpArgs false

/-- The record of a loop, in this state. -/
def lst (q : Loop) (s : LoopState) (p : Option Code) : Loop := { q with state := s, pending := p }
/-- The loop l's record. -/
abbrev lrec (l : Nat) (q : Loop) (s : LoopState) (p : Option Code) : HProp := obj l (.loop (lst q s p))
/-- The block of the deferred calls of a loop's rounds. -/
abbrev dblk (d : Nat) : HProp := obj d (.deferred (some []))
/-- A call of the yield of loop l. -/
def YCtr (P : Program) (W0 : World) (l : Nat) (args : List Value) (G : List HProp) {α : Type} (φ : α → Prop) (v : α → Value) (G' : α → List HProp) : Prop :=
  ∀ w, Sat W0 G w → ∃ fn tmps assign body, (Instr.yield l args.toArray).run P w = .ok (.round l fn tmps assign body) w ∧
    RoundIn (Fz none) 0 P l fn tmps assign body w fun e w' => ∃ x, φ x ∧ e = .returned (v x) ∧ Sat W0 (G' x) w'
/-- The value of a loop's yield. -/
abbrev yv (l : Nat) : Value := .func (.yield l) #[] #[]

theorem putObj_setObjW (w : World) (b : Nat) (o : Obj) : w.putObj b o = setObjW w b o := rfl
theorem Sat.put {W0 w : World} {G : List HProp} {b : Nat} {o o' : Obj} {put : HProp → List HProp} (fc : Foc G (obj b o) put) (s : Sat W0 G w) : Sat W0 (put (obj b o')) (w.putObj b o') := by
  obtain ⟨R, x⟩ := foc_ext fc
  refine Sat.write fc s (Sat.get_obj x s) fun f _ hA => ⟨hA, ?_⟩
  unfold obj updH; rw [if_pos rfl]

section
variable {P : Program} {W0 : World} {n : Nat} {ds : List Deferred} {e : Env} {G R : List HProp}

/-- A call of a yield within a region. -/
theorem OG.yieldc {ops : Array Oper} {Q : Exit → Act → World → Prop} {rest : List Oper} {d : Nat} {ty : TypeId} {pos : String} {af : Array Edge} {x : Operand} {l : Nat} {args : List Operand} {ats : Array TypeId} {vs : List Value} {G1 : List HProp} {α : Type} {φ : α → Prop} {v : α → Value} {G' : α → List HProp}
    (hx : e.ev x = some (yv l)) (ha : e.evs args = some vs) (hi : Imp G G1) (hs : YCtr P W0 l vs G1 φ v G') (hd : Nat.ble (d + 1) n = true)
    (k : ∀ x, φ x → OG P W0 n ds ops Q rest ((d, v x) :: e) (G' x)) :
    OG P W0 n ds ops Q (⟨some d, .call { callee := .value x, args := args.toArray, argTypes := ats }, ty, pos, af, none⟩ :: rest) e G := fun a w hat hw => by
  unfold wpL
  rw [if_pos (by simp [Region.wanted])]
  obtain ⟨fn, tmps, assign, body, hr, hR⟩ := hs w (hw.imp hi)
  refine Or.inr ⟨l, fn, tmps, assign, body, w, ?_, hR.mono ?_⟩
  · have h1 : a.eval x = .func (.yield l) #[] #[] := hat.agrees _ _ hx
    have h2 : args.map a.eval = vs := hat.agrees.evs ha
    simp [execOp, resolve, h1, Deferred.ofValue, bind, Sem.bind, pure, invoke, h2]
    exact hr
  · rintro e' w' ⟨y, hy, rfl, hs'⟩
    exact ⟨_, rfl, k y hy _ _ (hat.put (Nat.le_of_ble_eq_true hd)) hs'⟩

/-- The parameters of a round, in their slots. -/
def zipE : List Nat → List Value → Env → Env
  | p :: ps, v :: vs, e => zipE ps vs ((p, v) :: e)
  | _, _, e => e
theorem At.zip : ∀ {ps : List Nat} {vs : List Value} {e : Env} {a : Act}, At n ds e a → (∀ p ∈ ps, p < n) →
    At n [] (zipE ps vs e) { tmps := (ps.zip vs).foldl (fun t (p, v) => t.setIfInBounds p v) a.tmps, defers := [] }
  | [], _, e, a, h, _ => ⟨h.size, h.slot, rfl⟩
  | p :: ps, [], e, a, h, _ => ⟨h.size, h.slot, rfl⟩
  | p :: ps, v :: vs, e, a, h, hp => At.zip (ps := ps) (vs := vs) (a := a.put (some p) v) (h.put (hp p (by simp))) fun q hq => hp q (by simp [hq])

/-- What a round owes: it goes on (none), or leaves by a jump (some i). -/
def RoundR (W0 : World) {ι : Type} (ψ : ι → Prop) (Y : List HProp) (Z : ι → List HProp) : Ending → World → Prop := fun e w' =>
  ∃ o : Option ι, (match o with | none => True | some i => ψ i) ∧ e = .returned (.bool o.isNone) ∧ Sat W0 (match o with | none => Y | some i => Z i) w'

theorem QG.round_next {l : Nat} {q : Loop} {ι : Type} {ψ : ι → Prop} {Y : List HProp} {Z : ι → List HProp} (x : Ext G (lrec l q .busy none) R) (hi : Imp (lrec l q .ready none :: R) Y) :
    QG W0 n ds (roundPost P l (RoundR W0 ψ Y Z)) .normal e G := fun a w ha hw => by
  have h1 := hw.imp x.1
  have hr := run_endRound (P := P) none (Sat.get_obj Ext.here h1)
  exact ⟨_, _, hr, none, trivial, rfl, (Sat.put Foc.here h1).imp hi⟩
theorem QG.round_ret {l : Nat} {q : Loop} {ι : Type} {ψ : ι → Prop} {Y : List HProp} {Z : ι → List HProp} (i : ι) (hψ : ψ i) (x : Ext G (lrec l q .busy none) R) (hi : Imp (lrec l q .done (some .ret) :: R) (Z i)) :
    QG W0 n ds (roundPost P l (RoundR W0 ψ Y Z)) .ret e G := fun a w ha hw => by
  have h1 := hw.imp x.1
  have hr := run_endRound (P := P) (some .ret) (Sat.get_obj Ext.here h1)
  exact ⟨_, _, hr, some i, hψ, rfl, (Sat.put Foc.here h1).imp hi⟩
theorem QG.round_exit {l id : Nat} {q : Loop} {ι : Type} {ψ : ι → Prop} {Y : List HProp} {Z : ι → List HProp} (i : ι) (hψ : ψ i) (x : Ext G (lrec l q .busy none) R) (hi : Imp (lrec l q .done (some (.exit id)) :: R) (Z i)) :
    QG W0 n ds (roundPost P l (RoundR W0 ψ Y Z)) (.exit id) e G := fun a w ha hw => by
  have h1 := hw.imp x.1
  have hr := run_endRound (P := P) (some (.exit id)) (Sat.get_obj Ext.here h1)
  exact ⟨_, _, hr, some i, hψ, rfl, (Sat.put Foc.here h1).imp hi⟩
/-- Between the assignment to the loop's variables and the body. -/
def Begin (P : Program) (l : Nat) (body : Code) (R : Ending → World → Prop) : Act → World → Prop := fun a w => ∃ w₂, (Instr.beginRound l).run P w = .ok () w₂ ∧ body.wpIn (Fz (some l)) 0 P (roundPost P l R) a w₂
theorem QG.begin {l : Nat} {q : Loop} {body : Code} {K : Ending → World → Prop} {Q : Exit → Act → World → Prop} (x : Ext G (lrec l q .ready none) R) (k : CG (some l) P W0 n ds body (roundPost P l K) e (lrec l q .busy none :: R)) :
    QG W0 n ds (Exit.then (Begin P l body K) Q) .normal e G := fun a w ha hw => by
  have h1 := hw.imp x.1
  exact ⟨_, run_beginRound (Sat.get_obj Ext.here h1) rfl, k a _ ha (Sat.put Foc.here h1)⟩

/-- What an iterator owes at whatever its yield makes of Y: it calls it for the elements 0 .. N - 1, as long as it is told to go on. -/
def Hit (P : Program) (W0 : World) (gf : FuncId) (lb : List Value) (N : Nat) (enc : Nat → List Value) (l : Nat) {ι : Type} (ψ : ι → Prop) (Y : Nat → List HProp) (Z : ι → List HProp) : Prop :=
  (∀ k, k < N → YCtr P W0 l (enc k) (Y k) (α := Option ι) (fun o => match o with | none => True | some i => ψ i) (fun o => .bool o.isNone) (fun o => match o with | none => Y (k + 1) | some i => Z i)) →
  Ctr P W0 gf (yv l :: lb) (Y 0) (α := Option ι) (fun o => match o with | none => True | some i => ψ i) (fun _ => .tuple #[]) (fun o => match o with | none => Y N | some i => Z i)

theorem range_core {r : Option Nat} {g : Operand} {ps : List Nat} {assign body : Code} {Q : Exit → Act → World → Prop} {a : Act} {w w1 : World} {D : Nat} {mark : List Deferred} {gf : FuncId} {lb : List Value} {N : Nat} {enc : Nat → List Value} {ι : Type} {ψ : ι → Prop} {jc : ι → Code} {Inv : Nat → List HProp} {Gx : ι → List HProp}
    (hat : At n ds e a) (hg : e.ev g = some (.func (.func gf) #[] lb.toArray)) (hc : CallOK P gf) (hps : ∀ p ∈ ps, p < n) (henc : ∀ k, (enc k).length = ps.length)
    (he : ∀ fn, (Instr.enterLoop fn a.tmps ps.toArray assign body r).run P w = .ok (w1.heap.size, mark) (w1.alloc (.loop { state := .ready, pending := none, fn, tmps := a.tmps, params := ps.toArray, assign, body, defers := D })))
    (hs : Sat W0 (Inv 0) w1)
    (hit : ∀ l q, Hit P W0 gf lb N enc l ψ (fun k => lrec l q .ready none :: Inv k) (fun i => lrec l q .done (some (jc i)) :: Gx i))
    (hround : ∀ l q k, k < N → CG (some l) P W0 n [] assign (Exit.then (Begin P l body (RoundR W0 ψ (lrec l q .ready none :: Inv (k + 1)) (fun i => lrec l q .done (some (jc i)) :: Gx i))) (fun _ _ _ => False)) (zipE ps (enc k) e) (lrec l q .ready none :: Inv k))
    (hdone : ∀ w4, Sat W0 (Inv N) w4 → Q .normal { a with defers := mark ++ a.defers } w4)
    (hstop : ∀ i w4, ψ i → Sat W0 (Gx i) w4 → (jc i).wpIn (Fz r) 0 P Q { a with defers := mark ++ a.defers } w4) :
    (Code.rangeFunc g ps.toArray assign body).wpIn (Fz r) 0 P Q a w := by
  refine wpIn_rangeFunc ?_
  intro fn hfn
  obtain ⟨q, hq⟩ : ∃ q : Loop, q = { state := .ready, pending := none, fn, tmps := a.tmps, params := ps.toArray, assign, body, defers := D } := ⟨_, rfl⟩
  have hq0 : lst q .ready none = q := by rw [hq]; rfl
  obtain ⟨W1, hW1⟩ : ∃ W1, w1.alloc (.loop q) = W1 := ⟨_, rfl⟩
  have hev := hat.agrees _ _ hg
  obtain ⟨fn', c, hf1, hb1, hn1⟩ := hc
  have hs1 : Sat W0 (lrec w1.heap.size q .ready none :: Inv 0) W1 := by
    have := hs.new (.loop (lst q .ready none)); rw [hq0] at this; rw [← hW1, lrec, hq0]; exact this
  refine ⟨w1.heap.size, mark, W1, { target := .fn (.func gf) lb.toArray, args := #[yv w1.heap.size] }, W1, gf, (yv w1.heap.size :: lb).toArray, W1, ?_, ?_, ?_, ?_, (fun h => by cases h), ?_⟩
  · rw [← hW1, hq]; exact he fn
  · simp only [resolve, hev]
    simp [go_sem, Act.eval]
  · intro f' _; trivial
  · have h3 := callFunc_run hf1 hb1 hn1 (yv w1.heap.size :: lb).toArray W1
    have h4 : #[yv w1.heap.size] ++ lb.toArray = (yv w1.heap.size :: lb).toArray := by simp
    simp only [invoke, h4]; exact h3
  · refine CallsIn.mono (callsFz (hit w1.heap.size q ?_ W1 hs1)) ?_
    · intro k hk W hW
      have hl : W.heap[w1.heap.size]? = some (.loop q) := by have := Sat.get_obj Ext.here hW; rw [hq0] at this; exact this
      have hy := run_yield (P := P) (args := (enc k).toArray) hl (by rw [hq]; simpa using henc k)
      rw [hq] at hy
      refine ⟨fn, _, assign, body, hy, roundIn_of_wpIn hfn ?_⟩
      have hz := At.zip (vs := enc k) hat hps
      have hzz : (ps.toArray.zip (enc k).toArray).foldl (fun t (p, v) => t.setIfInBounds p v) a.tmps = (ps.zip (enc k)).foldl (fun t (p, v) => t.setIfInBounds p v) a.tmps := by simp
      dsimp only
      rw [hzz]
      exact hround w1.heap.size q k hk _ _ hz hW
    · rintro e' w3 ⟨o, ho, rfl, hs3⟩
      cases o with
      | none =>
        have hl : w3.heap[w1.heap.size]? = some (.loop (lst q .ready none)) := Sat.get_obj Ext.here hs3
        refine ⟨none, _, run_endLoop hl (by simp [lst]), hdone _ ?_⟩
        exact (Sat.put (o' := .loop { lst q .ready none with state := .exhausted }) Foc.here hs3).imp Imp.drop
      | some i =>
        have hl : w3.heap[w1.heap.size]? = some (.loop (lst q .done (some (jc i)))) := Sat.get_obj Ext.here hs3
        refine ⟨some (jc i), _, run_endLoop hl (by simp [lst]), hstop i _ ho ?_⟩
        exact (Sat.put (o' := .loop { lst q .done (some (jc i)) with state := .exhausted }) Foc.here hs3).imp Imp.drop

/-- The mark that a range over a function leaves among the deferred calls. -/
def mk1 (D : Nat) : Deferred := { target := .collected D, args := #[] }

/-- A range over a function, in no other one's body. -/
theorem CG.range {g : Operand} {ps : List Nat} {assign body : Code} {Q : Exit → Act → World → Prop} {gf : FuncId} {lb : List Value} {ι : Type} (N : Nat) (enc : Nat → List Value) (ψ : ι → Prop) (jc : ι → Code) (Inv : Nat → List HProp) (Gx : ι → List HProp)
    (hg : e.ev g = some (.func (.func gf) #[] lb.toArray)) (hc : CallOK P gf) (hps : ps.all (fun p => Nat.ble (p + 1) n) = true) (henc : ∀ k, (enc k).length = ps.length) (hG : Imp G (Inv 0))
    (hit : ∀ D l q, Hit P W0 gf lb N enc l ψ (fun k => lrec l q .ready none :: dblk D :: Inv k) (fun i => lrec l q .done (some (jc i)) :: dblk D :: Gx i))
    (hround : ∀ D l q k, k < N → CG (some l) P W0 n [] assign (Exit.then (Begin P l body (RoundR W0 ψ (lrec l q .ready none :: dblk D :: Inv (k + 1)) (fun i => lrec l q .done (some (jc i)) :: dblk D :: Gx i))) (fun _ _ _ => False)) (zipE ps (enc k) e) (lrec l q .ready none :: dblk D :: Inv k))
    (hdone : ∀ D, QG W0 n (mk1 D :: ds) Q .normal e (dblk D :: Inv N))
    (hstop : ∀ D i, ψ i → CG none P W0 n (mk1 D :: ds) (jc i) Q e (dblk D :: Gx i)) :
    CG none P W0 n ds (.rangeFunc g ps.toArray assign body) Q e G := fun a w ha hw => by
  have h2 : At n (mk1 w.heap.size :: ds) e { a with defers := [mk1 w.heap.size] ++ a.defers } := ⟨ha.size, ha.slot, by simp [ha.defers]⟩
  refine range_core (D := w.heap.size) (mark := [mk1 w.heap.size]) (w1 := w.alloc (.deferred (some []))) (Inv := fun k => dblk w.heap.size :: Inv k) (Gx := fun i => dblk w.heap.size :: Gx i) ha hg hc (fun p hp => Nat.le_of_ble_eq_true (List.all_eq_true.1 hps p hp)) henc ?_ ?_ (hit _) (hround _) ?_ ?_
  · intro fn
    have := run_enterLoop_outer (P := P) (w := w) fn a.tmps ps.toArray assign body
    rw [this]
    simp [mk1]
  · exact (hw.imp hG).new _
  · intro w4 h4; exact hdone _ _ _ h2 h4
  · intro i w4 hi h4; exact hstop _ i hi _ _ h2 h4
/-- .. in the body of another one (l0). -/
theorem CG.rangeIn {l0 : Nat} {q0 : Loop} {s0 : LoopState} {p0 : Option Code} {g : Operand} {ps : List Nat} {assign body : Code} {Q : Exit → Act → World → Prop} {gf : FuncId} {lb : List Value} {ι : Type} (N : Nat) (enc : Nat → List Value) (ψ : ι → Prop) (jc : ι → Code) (Inv : Nat → List HProp) (Gx : ι → List HProp)
    (x0 : Ext G (lrec l0 q0 s0 p0) R) (hg : e.ev g = some (.func (.func gf) #[] lb.toArray)) (hc : CallOK P gf) (hps : ps.all (fun p => Nat.ble (p + 1) n) = true) (henc : ∀ k, (enc k).length = ps.length) (hG : Imp G (Inv 0))
    (hit : ∀ l q, Hit P W0 gf lb N enc l ψ (fun k => lrec l q .ready none :: Inv k) (fun i => lrec l q .done (some (jc i)) :: Gx i))
    (hround : ∀ l q k, k < N → CG (some l) P W0 n [] assign (Exit.then (Begin P l body (RoundR W0 ψ (lrec l q .ready none :: Inv (k + 1)) (fun i => lrec l q .done (some (jc i)) :: Gx i))) (fun _ _ _ => False)) (zipE ps (enc k) e) (lrec l q .ready none :: Inv k))
    (hdone : QG W0 n ds Q .normal e (Inv N))
    (hstop : ∀ i, ψ i → CG (some l0) P W0 n ds (jc i) Q e (Gx i)) :
    CG (some l0) P W0 n ds (.rangeFunc g ps.toArray assign body) Q e G := fun a w ha hw => by
  refine range_core (D := (lst q0 s0 p0).defers) (mark := []) (w1 := w) (Inv := Inv) (Gx := Gx) ha hg hc (fun p hp => Nat.le_of_ble_eq_true (List.all_eq_true.1 hps p hp)) henc ?_ (hw.imp hG) hit hround ?_ ?_
  · intro fn
    rw [run_enterLoop_inner (P := P) (Sat.get_obj x0 hw)]
  · intro w4 h4; exact hdone _ _ ha h4
  · intro i w4 hi h4; exact hstop i hi _ _ ha h4

/-- Marks, one a range that was passed. -/
def marks (ms : List Nat) : List Deferred := ms.map mk1
/-- Their blocks. -/
def dblks (ms : List Nat) : HProp := Star (ms.map dblk)
theorem dblks_nil : Imp G (dblks [] :: G) := fun _ s => ⟨fun _ => none, fun _ _ e => (by cases e), trivial, s.mono fun k o e => minus_some.2 ⟨rfl, e⟩⟩
theorem dblks_push {D : Nat} {ms : List Nat} : Imp (dblk D :: dblks ms :: G) (dblks (D :: ms) :: G) := fun h s => by
  have h1 : Imp (dblk D :: dblks ms :: G) (dblk D :: (ms.map dblk ++ G)) := Imp.cons star_open
  exact star_close (D := dblk D :: ms.map dblk) h (h1 h s)
theorem dblks_pop {D : Nat} {ms : List Nat} : Imp (dblks (D :: ms) :: G) (dblk D :: dblks ms :: G) := fun h s => by
  have h1 := star_open (D := dblk D :: ms.map dblk) h s
  exact Imp.cons (star_close (D := ms.map dblk)) h h1

/-- The end of a function that has passed ranges over functions. -/
def LP (P : Program) (fn : Func) (R : Ending → World → Prop) : Exit → Act → World → Prop := bodyPostM (Fz none) 0 P fn R
theorem leaves_marks {fn : Func} {K : Ending → World → Prop} {tmps : Array Value} : ∀ (ms : List Nat) (w : World), Sat W0 (dblks ms :: R) w → (∀ w', Sat W0 R w' → LeavesInM (Fz none) 0 P fn tmps K [] .returning w') → LeavesInM (Fz none) 0 P fn tmps K (marks ms) .returning w
  | [], w, hw, k => k w (hw.imp Imp.drop)
  | D :: ms, w, hw, k => by
    have h1 := hw.imp dblks_pop
    refine ⟨by simp, .inl ⟨D, _, rfl, run_takeDeferred (Sat.get_obj Ext.here h1), ?_⟩⟩
    exact leaves_marks ms _ ((Sat.put (o' := .deferred none) Foc.here h1).imp Imp.drop) k
theorem QG.marks {fn : Func} {α : Type} {φ : α → Prop} {v : α → Value} {G' : α → List HProp} {ms : List Nat} {x : Exit} (hx : x = .ret ∨ x = .normal) (hm : Ext G (dblks ms) R) (k : QG W0 n [] (bodyPost P fn (RetP W0 φ v G')) x e R) : QG W0 n (Sl.marks ms) (LP P fn (RetP W0 φ v G')) x e G := fun a w ha hw => by
  have h2 : ∀ w', Sat W0 R w' → LeavesInM (Fz none) 0 P fn a.tmps (RetP W0 φ v G') [] .returning w' := fun w' hw' => by
    have h3 := k { a with defers := [] } w' ⟨ha.size, ha.slot, rfl⟩ hw'
    rcases hx with rfl | rfl <;> exact h3.2
  have h4 : LeavesInM (Fz none) 0 P fn a.tmps (RetP W0 φ v G') a.defers .returning w := by
    rw [ha.defers]; exact leaves_marks ms w (hw.imp hm.1) h2
  rcases hx with rfl | rfl <;> exact h4
theorem QG.mark1 {fn : Func} {α : Type} {φ : α → Prop} {v : α → Value} {G' : α → List HProp} {D : Nat} {x : Exit} (hx : x = .ret ∨ x = .normal) (hm : Ext G (dblk D) R) (k : QG W0 n [] (bodyPost P fn (RetP W0 φ v G')) x e R) : QG W0 n [mk1 D] (LP P fn (RetP W0 φ v G')) x e G := fun a w ha hw =>
  QG.marks (ms := [D]) hx (G := dblks [D] :: R) Ext.here k a w ha (hw.imp (Imp.trans hm.1 (star_close (D := [dblk D]))))
theorem QG.nomarks {fn : Func} {α : Type} {φ : α → Prop} {v : α → Value} {G' : α → List HProp} {x : Exit} (hx : x = .ret ∨ x = .normal) (k : QG W0 n [] (bodyPost P fn (RetP W0 φ v G')) x e G) : QG W0 n [] (LP P fn (RetP W0 φ v G')) x e G := fun a w ha hw =>
  QG.marks (ms := []) hx (R := G) ⟨Imp.refl _, Imp.refl _⟩ k a w ha (hw.imp dblks_nil)
theorem Ctr.of_bodyM {f : FuncId} {fn : Func} {c : Code} {args : List Value} {α : Type} {φ : α → Prop} {v : α → Value} {G' : α → List HProp} (hf : P.funcs[f]? = some fn) (hb : fn.body = some c) (hn : fn.ntmps = n)
    (hl : Nat.ble args.length n = true) (k : CG none P W0 n [] c (LP P fn (RetP W0 φ v G')) (env0 0 args) G) : Ctr P W0 f args G φ v G' := fun w hw => by
  subst hn
  exact (callsIn_wide (n := 0)).1 (callsIn_of_wp_marks (F := Fz none) hf hb trivial (k _ w (At.start (Nat.le_of_ble_eq_true hl)) hw))
/-- A contract of an iterator, said of other lists. -/
theorem Hit.conv {gf : FuncId} {lb : List Value} {N : Nat} {enc : Nat → List Value} {l : Nat} {ι : Type} {ψ : ι → Prop} {Y Y2 : Nat → List HProp} {Z Z2 : ι → List HProp} (h : Hit P W0 gf lb N enc l ψ Y2 Z2)
    (h1 : ∀ k, Imp (Y k) (Y2 k)) (h2 : ∀ k, Imp (Y2 k) (Y k)) (h3 : ∀ i, Imp (Z i) (Z2 i)) (h4 : ∀ i, Imp (Z2 i) (Z i)) : Hit P W0 gf lb N enc l ψ Y Z := fun hy w hw => by
  refine (h (fun k hk w hw => ?_) w (hw.imp (h1 0))).mono ?_
  · obtain ⟨fn, tmps, assign, body, hr, hR⟩ := hy k hk w (hw.imp (h2 k))
    refine ⟨fn, tmps, assign, body, hr, hR.mono ?_⟩
    rintro e w' ⟨o, ho, he, hs⟩
    refine ⟨o, ho, he, ?_⟩
    cases o with
    | none => exact hs.imp (h1 _)
    | some i => exact hs.imp (h3 i)
  · rintro e w' ⟨o, ho, he, hs⟩
    refine ⟨o, ho, he, ?_⟩
    cases o with
    | none => exact hs.imp (h2 _)
    | some i => exact hs.imp (h4 i)
/-- What holds at the head of a loop, the deferred calls among it. -/
def LoopAtD (W0 : World) (n : Nat) {ι : Type} (dsf : ι → List Deferred) (φ : ι → Prop) (vals : ι → Env) (Γ : ι → List HProp) (μ : ι → Nat) (m : Nat) (a : Act) (w : World) : Prop :=
  ∃ i, φ i ∧ μ i < m ∧ At n (dsf i) (vals i) a ∧ Sat W0 (Γ i) w
theorem CG.loopD {r : Option Nat} {Q : Exit → Act → World → Prop} {c : Code} {ι : Type} (dsf : ι → List Deferred) (φ : ι → Prop) (vals : ι → Env) (Γ : ι → List HProp) (μ : ι → Nat) (i0 : ι) (hd : dsf i0 = ds) (h0 : φ i0) (he : (vals i0).sub e) (hg : Imp G (Γ i0))
    (hr : ∀ i, φ i → CG r P W0 n (dsf i) c (Exit.then (LoopAtD W0 n dsf φ vals Γ μ (μ i)) Q) (vals i) (Γ i)) : CG r P W0 n ds (.loop c) Q e G := fun a w ha hw => by
  intro b k cs hro hF hrm
  have key : ∀ m i, μ i = m → ∀ a w, φ i → At n (dsf i) (vals i) a → Sat W0 (Γ i) w →
      ∃ x a' w', Q x a' w' ∧ ArrivesIn (Machine.fenced P (Fz r)) P (lone (b.atR a (.code c :: .inLoop c :: k)) cs w) b k cs x a' w' := by
    intro m
    induction m using Nat.strongRecOn with
    | _ m ih =>
      intro i hm a w hφ hat hsat
      obtain ⟨x, a1, w1, hq, harr⟩ := hr i hφ a w hat hsat b (.inLoop c :: k) cs hro hF hrm
      cases x with
      | normal =>
        obtain ⟨j, hj, hlt, hat', hsat'⟩ := hq
        obtain ⟨x2, a2, w2, hq2, harr2⟩ := ih (μ j) (by omega) j rfl a1 w1 hj hat' hsat'
        exact ⟨x2, a2, w2, hq2, .of_steps (StepsIn.trans harr (.one (fenced_calm hF hrm rfl) stepR_inLoop)) harr2⟩
      | exit id => exact ⟨_, a1, w1, hq, .pass (x := .inLoop c) rfl (fun _ _ => .inl (by simp)) harr⟩
      | goto l => exact ⟨_, a1, w1, hq, .pass (x := .inLoop c) rfl (fun _ _ => .inl (by simp)) harr⟩
      | ret => exact ⟨_, a1, w1, hq, .pass (x := .inLoop c) rfl (fun _ _ => .inl (by simp)) harr⟩
      | panic ch => exact ⟨_, a1, w1, hq, .pass (x := .inLoop c) rfl (fun _ _ => .inl (by simp)) harr⟩
      | outgrown => exact ⟨_, a1, w1, hq, .pass (x := .inLoop c) rfl (fun _ _ => .inl (by simp)) harr⟩
  obtain ⟨x, a', w', hq, harr⟩ := key _ i0 rfl a w h0 (by rw [hd]; exact ha.sub he) (hw.imp hg)
  exact ⟨x, a', w', hq, .of_steps (.one (fenced_calm hF hrm rfl) stepR_loop) harr⟩
theorem QG.nextD {Q : Exit → Act → World → Prop} {ι : Type} {dsf : ι → List Deferred} {φ : ι → Prop} {vals : ι → Env} {Γ : ι → List HProp} {μ : ι → Nat} {m : Nat} (j : ι) (hd : dsf j = ds) (hj : φ j) (hm : μ j < m) (he : (vals j).sub e) (hi : Imp G (Γ j)) :
    QG W0 n ds (Exit.then (LoopAtD W0 n dsf φ vals Γ μ m) Q) .normal e G := fun _ _ ha hw => ⟨j, hj, hm, by rw [hd]; exact ha.sub he, hw.imp hi⟩
/-- An array literal. -/
theorem Yield.buildArr {t el ty : TypeId} {len s1 : Nat} {parts : List (Nat × Operand)} {pvs : List (Nat × Value)} {zs cells : List Value} {sz by' by2 : Nat} {ag ag2 : Bool} {z : Value}
    (hu : P.underlying t = some (.array len el)) (ht : TI P t sz by' (.agg zs.toArray) ag) (hel : TI P el s1 by2 z ag2) (hp : e.evps parts = some pvs) (hf : Instr.fill (fun i => some (i * s1, s1)) zs.toArray pvs = some cells.toArray) : Yield P W0 (.build t parts.toArray) ty e G (.agg cells.toArray) := fun ρ hρ w _ _ _ _ _ => by
  have h1 : (Instr.build t (parts.toArray.map fun (i, x) => (i, ρ x))).run P w = .ok (.agg cells.toArray) w := by
    have hq : (parts.toArray.map fun (i, x) => (i, ρ x)) = pvs.toArray := by rw [List.map_toArray, hρ.evps hp]
    rw [hq]
    unfold Instr.build
    simp only [bind, pure]
    rw [run_bind_ok (ht.run_zero w)]
    rw [run_bind_ok (run_underlying hu w)]
    simp only []
    rw [run_bind_ok (hel.run_size w)]
    simp only [Value.cells] at hf ⊢
    rw [hf]
    rfl
  show ((Instr.build t (parts.toArray.map fun (i, x) => (i, ρ x))).bind _).run P w = _
  rw [run_bind_ok h1]; rfl
theorem run_equal_fn {t : TypeId} {ps rs : Array TypeId} {vd : Bool} {fn : Fn} {fi ca : Array Value} (hu : P.underlying t = some (.func ps rs vd)) (w : World) : (Op.equal t (.func fn fi ca) .nilFunc).run P w = .ok false w := by
  show (Op.equalIn (9999 + 1) t _ _).run P w = _
  rw [Op.equalIn]
  show ((underlying t).bind _).run P w = _
  rw [run_bind_ok (run_underlying hu w)]
  rfl
/-- A function that is one is not nil. -/
theorem Yield.fn_nil {t t' ty : TypeId} {x y : Operand} {ps rs : Array TypeId} {vd : Bool} {fn : Fn} {fi ca : Array Value} (hu : P.underlying t = some (.func ps rs vd)) (hx : e.ev x = some (.func fn fi ca)) (hy : e.ev y = some .nilFunc) : Yield P W0 (.binOp .eql t x y t') ty e G (.bool false) := fun ρ hρ w _ _ _ _ _ => by
  refine run_eqOf (hρ x _ hx) (hρ y _ hy) rfl ?_
  show ((Op.equal t (.func fn fi ca) .nilFunc).bind _).run P w = _
  rw [run_bind_ok (run_equal_fn hu w)]; rfl
end
end Go.Sl
