/- Function values: made, and called; a slice compared with nil. No program in sight. -/
import Derived.Test.YtmlfcfbblfcpdaaRet
namespace Go.Sl
open Go Go.RowKit
set_option linter.unusedSimpArgs false
set_option linter.unusedVariables false
section
variable {P : Program} {W0 : World} {n : Nat} {ds : List Deferred} {ops : Array Oper} {Q : Exit → Act → World → Prop} {rest : List Oper} {e : Env} {G : List HProp} {ty : TypeId}
theorem Yield.makeFunc {f : FuncId} {first cap : List Operand} {fi ca : List Value} (h1 : e.evs first = some fi) (h2 : e.evs cap = some ca) : Yield P W0 (.makeFunc (.func f) first.toArray cap.toArray) ty e G (.func (.func f) fi.toArray ca.toArray) := fun ρ hρ w _ _ _ _ _ => by
  have e1 := hρ.evs h1
  have e2 := hρ.evs h2
  simp [execOp, Instr.makeFunc, e1, e2, pure, Sem.run, bind, Sem.bind]
theorem run_callv {f : FuncId} {fn : Func} {c : Code} (hf : P.funcs[f]? = some fn) (hb : fn.body = some c) (hn : (fn.name == "runtime.NumGoroutine") = false) {x : Operand} {fi ca : List Value}
    {args : List Operand} {vs : List Value} {ats : Array TypeId} {ρ : Operand → Value} (hρ : Agrees e ρ) (hx : e.ev x = some (.func (.func f) fi.toArray ca.toArray)) (ha : e.evs args = some vs) (w : World) (dst pos after guard) :
    (execOp ρ ⟨dst, .call { callee := .value x, args := args.toArray, argTypes := ats }, ty, pos, after, guard⟩).run P w = .ok (.enter f (fi ++ vs ++ ca).toArray) w := by
  have h1 : ρ x = .func (.func f) fi.toArray ca.toArray := hρ _ _ hx
  have h2 : args.map ρ = vs := hρ.evs ha
  have h3 := callFunc_run hf hb hn (fi ++ vs ++ ca).toArray w
  have h4 : (fi.toArray ++ (args.toArray.map ρ)) ++ ca.toArray = (fi ++ vs ++ ca).toArray := by rw [List.map_toArray, h2]; simp
  simp only [execOp, resolve, h1, Deferred.ofValue, bind, Sem.bind, pure, invoke, h4]
  exact h3
theorem OG.callv {d : Nat} {pos : String} {af : Array Edge} {x : Operand} {f : FuncId} {fi ca : List Value} {args : List Operand} {ats : Array TypeId} {vs : List Value} {G1 : List HProp} {α : Type} {φ : α → Prop} {v : α → Value} {G' : α → List HProp}
    (hc : CallOK P f) (hx : e.ev x = some (.func (.func f) fi.toArray ca.toArray)) (ha : e.evs args = some vs) (hi : Imp G G1) (hs : Ctr P W0 f (fi ++ vs ++ ca) G1 φ v G') (hd : Nat.ble (d + 1) n = true)
    (k : ∀ x, φ x → OG P W0 n ds ops Q rest ((d, v x) :: e) (G' x)) :
    OG P W0 n ds ops Q (⟨some d, .call { callee := .value x, args := args.toArray, argTypes := ats }, ty, pos, af, none⟩ :: rest) e G := fun a w hat hw => by
  obtain ⟨fn, c, hf, hb, hn⟩ := hc
  unfold wpL
  rw [if_pos (by simp [Region.wanted])]
  refine Or.inl ?_
  unfold Oper.wp
  rw [run_callv hf hb hn hat.agrees hx ha w, Oper.upon_enter]
  refine (hs w (hw.imp hi)).mono ?_
  rintro r w' ⟨x, hx, rfl, hs'⟩
  exact k x hx _ _ (hat.put (Nat.le_of_ble_eq_true hd)) hs'
theorem Chg.callv {effs lt : List Nat} {K L : List HProp} {i : Nat} {rel : Bool} {p : Plan} {dst : Option Nat} {pos : String} {af : Array Edge} {g : Option (Nat × Bool)} {x : Operand} {f : FuncId} {fi ca : List Value} {args : List Operand} {ats : Array TypeId} {vs : List Value} {G1 : List HProp} {α : Type} {φ : α → Prop} {v : α → Value} {G' K' : α → List HProp}
    (ho : ops[i]? = some ⟨dst, .call { callee := .value x, args := args.toArray, argTypes := ats }, ty, pos, af, g⟩) (hg : guardS ops e ⟨dst, .call { callee := .value x, args := args.toArray, argTypes := ats }, ty, pos, af, g⟩ = some true)
    (hc : CallOK P f) (hx : e.ev x = some (.func (.func f) fi.toArray ca.toArray)) (ha : e.evs args = some vs) (hi : Imp G G1) (hs : Ctr P W0 f (fi ++ vs ++ ca) G1 φ v G') (hd : fitsE n dst = true) (hk : ∀ x, Imp (G' x) (K' x)) (hk' : ∀ x, Imp (K' x) K) (hl : ∀ x, Imp (G' x) (relL rel L))
    (k : ∀ x, φ x → DG P W0 n ds ops effs lt Q p (putE e dst (v x)) (K' x) (relL rel L) (G' x)) : Chg P W0 n ds ops effs lt Q i rel p e K L G := by
  obtain ⟨fn, c, hf, hb, hn⟩ := hc
  refine ⟨_, ho, fun a hat w hw => ?_⟩
  unfold wpOp
  simp only [ho]
  rw [if_pos (guardS_spec hg hat)]
  refine .inl ?_
  unfold Oper.wp
  rw [run_callv hf hb hn hat.agrees hx ha w, Oper.upon_enter]
  refine (hs w (hw.imp hi)).mono ?_
  rintro r w' ⟨x, hx, rfl, hs'⟩
  exact ⟨_, _, _, hat.putE hd, hs', hk x, hk' x, hl x, k x hx⟩
theorem run_equal_sl {t el : TypeId} {a b : Option Addr} {m c m' c' : Nat} (hu : P.underlying t = some (.slice el)) (hb : b = none) (w : World) : (Op.equal t (.slice a m c) (.slice b m' c')).run P w = .ok a.isNone w := by
  subst hb
  show (Op.equalIn (9999 + 1) t _ _).run P w = _
  rw [Op.equalIn]
  show ((underlying t).bind _).run P w = _
  rw [run_bind_ok (run_underlying hu w)]
  cases a <;> rfl
theorem Yield.sl_nil {t t' el : TypeId} {x y : Operand} {a : Option Addr} {m c : Nat} (hu : P.underlying t = some (.slice el)) (hx : e.ev x = some (.slice a m c)) (hy : e.ev y = some (.slice none 0 0)) : Yield P W0 (.binOp .eql t x y t') ty e G (.bool a.isNone) := fun ρ hρ w _ _ _ _ _ => by
  refine run_eqOf (hρ x _ hx) (hρ y _ hy) rfl ?_
  show ((Op.equal t (.slice a m c) (.slice none 0 0)).bind _).run P w = _
  rw [run_bind_ok (run_equal_sl hu rfl w)]; rfl
end
end Go.Sl
