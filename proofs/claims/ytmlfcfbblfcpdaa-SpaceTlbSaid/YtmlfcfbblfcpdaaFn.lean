/- Functions: from the body to a contract, and what stands at its end. No program in sight. -/
import Derived.Test.YtmlfcfbblfcpdaaDraw
namespace Go.Sl
open Go Go.RowKit
set_option linter.unusedSimpArgs false

/-- The arguments in their slots. -/
def env0 : Nat → List Value → Env
  | _, [] => []
  | i, v :: l => (i, v) :: env0 (i + 1) l
theorem env0_get : ∀ (l : List Value) (i t : Nat) (v : Value), (env0 i l).get t = some v → i ≤ t ∧ l[t - i]? = some v
  | [], _, _, _, h => by cases h
  | u :: l, i, t, v, h => by
    simp only [env0, Env.get] at h
    cases hb : Nat.beq t i with
    | true =>
      rw [hb] at h
      have := Nat.eq_of_beq_eq_true hb
      subst this
      simp only [cond_true, Option.some.injEq] at h
      subst h; simp
    | false =>
      rw [hb] at h
      obtain ⟨h1, h2⟩ := env0_get l (i + 1) t v h
      refine ⟨by omega, ?_⟩
      rw [show t - i = (t - (i + 1)) + 1 by omega]; simpa using h2

section
variable {P : Program} {W0 : World} {n : Nat} {e : Env} {G : List HProp}

theorem At.start {args : List Value} (h : args.length ≤ n) : At n [] (env0 0 args) { tmps := args.toArray ++ Array.replicate (n - args.toArray.size) undef, defers := [] } := by
  refine ⟨by simp; omega, fun t v ht => ?_, rfl⟩
  obtain ⟨_, h2⟩ := env0_get args 0 t v ht
  simp only [Nat.sub_zero] at h2
  have hlt : t < args.length := by
    rcases Nat.lt_or_ge t args.length with h1 | h1
    · exact h1
    · rw [List.getElem?_eq_none h1] at h2; cases h2
  simp only [Array.getD_eq_getD_getElem?]
  rw [Array.getElem?_append_left (by simpa using hlt)]
  simp [h2]

/-- What a contract's body owes at its end. -/
def RetP (W0 : World) {α : Type} (φ : α → Prop) (v : α → Value) (G' : α → List HProp) : Ending → World → Prop := fun r w' => ∃ x, φ x ∧ r = .returned (v x) ∧ Sat W0 (G' x) w'

theorem Ctr.of_body {f : FuncId} {fn : Func} {c : Code} {args : List Value} {α : Type} {φ : α → Prop} {v : α → Value} {G' : α → List HProp} (hf : P.funcs[f]? = some fn) (hb : fn.body = some c) (hn : fn.ntmps = n)
    (hl : Nat.ble args.length n = true) (k : CG none P W0 n [] c (bodyPost P fn (RetP W0 φ v G')) (env0 0 args) G) : Ctr P W0 f args G φ v G' := fun w hw => by
  subst hn
  exact calls_of_wp hf hb ((wpIn_wide (n := 0)).1 (k _ w (At.start (Nat.le_of_ble_eq_true hl)) hw))

theorem QG.ret0 {fn : Func} {α : Type} {φ : α → Prop} {v : α → Value} {G' : α → List HProp} (hr : fn.results = #[]) (x : α) (hx : φ x) (hv : v x = .tuple #[]) (hi : Imp G (G' x)) : QG W0 n [] (bodyPost P fn (RetP W0 φ v G')) .ret e G := fun a w ha hw =>
  ⟨ha.defers, _, results_none hr a.tmps P w, x, hx, by rw [hv], hw.imp hi⟩
theorem QG.end0 {fn : Func} {α : Type} {φ : α → Prop} {v : α → Value} {G' : α → List HProp} (hr : fn.results = #[]) (x : α) (hx : φ x) (hv : v x = .tuple #[]) (hi : Imp G (G' x)) : QG W0 n [] (bodyPost P fn (RetP W0 φ v G')) .normal e G := fun a w ha hw =>
  ⟨ha.defers, _, results_none hr a.tmps P w, x, hx, by rw [hv], hw.imp hi⟩
theorem QG.ret1 {fn : Func} {t : Nat} {u : Value} {α : Type} {φ : α → Prop} {v : α → Value} {G' : α → List HProp} (hr : fn.results = #[.tmp t]) (ht : e.get t = some u) (x : α) (hx : φ x) (hv : u = v x) (hi : Imp G (G' x)) : QG W0 n [] (bodyPost P fn (RetP W0 φ v G')) .ret e G := fun a w ha hw =>
  ⟨ha.defers, _, results_tmp hr a.tmps P w, x, hx, by rw [ha.slot t u ht, hv], hw.imp hi⟩
theorem QG.ret2 {fn : Func} {t1 t2 : Nat} {u1 u2 : Value} {α : Type} {φ : α → Prop} {v : α → Value} {G' : α → List HProp} (hr : fn.results = #[.tmp t1, .tmp t2]) (h1 : e.get t1 = some u1) (h2 : e.get t2 = some u2) (x : α) (hx : φ x) (hv : v x = .tuple #[u1, u2]) (hi : Imp G (G' x)) : QG W0 n [] (bodyPost P fn (RetP W0 φ v G')) .ret e G := fun a w ha hw =>
  ⟨ha.defers, _, results_tmp2 hr a.tmps P w, x, hx, by rw [ha.slot t1 u1 h1, ha.slot t2 u2 h2, hv], hw.imp hi⟩
theorem QG.ret3 {fn : Func} {t1 t2 t3 : Nat} {u1 u2 u3 : Value} {α : Type} {φ : α → Prop} {v : α → Value} {G' : α → List HProp} (hr : fn.results = #[.tmp t1, .tmp t2, .tmp t3]) (h1 : e.get t1 = some u1) (h2 : e.get t2 = some u2) (h3 : e.get t3 = some u3) (x : α) (hx : φ x) (hv : v x = .tuple #[u1, u2, u3]) (hi : Imp G (G' x)) : QG W0 n [] (bodyPost P fn (RetP W0 φ v G')) .ret e G := fun a w ha hw =>
  ⟨ha.defers, .tuple #[u1, u2, u3], by
    have q1 := ha.slot t1 u1 h1; have q2 := ha.slot t2 u2 h2; have q3 := ha.slot t3 u3 h3
    simp only [Array.getD_eq_getD_getElem?] at q1 q2 q3
    simp [results, hr, q1, q2, q3, pure, Sem.run], x, hx, by rw [hv], hw.imp hi⟩

theorem OG.pure {ds : List Deferred} {ops : Array Oper} {Q : Exit → Act → World → Prop} {l : List Oper} {φ : Prop} (h : ∀ w, Sat W0 G w → φ) (k : φ → OG P W0 n ds ops Q l e G) : OG P W0 n ds ops Q l e G := fun a w ha hw => k (h w hw) a w ha hw
theorem CG.pure {r : Option Nat} {ds : List Deferred} {Q : Exit → Act → World → Prop} {c : Code} {φ : Prop} (h : ∀ w, Sat W0 G w → φ) (k : φ → CG r P W0 n ds c Q e G) : CG r P W0 n ds c Q e G := fun a w ha hw => k (h w hw) a w ha hw
theorem Ctr.pure {f : FuncId} {args : List Value} {α : Type} {φ : α → Prop} {v : α → Value} {G' : α → List HProp} {ψ : Prop} (h : ∀ w, Sat W0 G w → ψ) (k : ψ → Ctr P W0 f args G φ v G') : Ctr P W0 f args G φ v G' := fun w hw => k (h w hw) w hw
theorem Ctr.imp {f : FuncId} {args : List Value} {α : Type} {φ : α → Prop} {v : α → Value} {G' : α → List HProp} {G1 : List HProp} (h : Imp G G1) (k : Ctr P W0 f args G1 φ v G') : Ctr P W0 f args G φ v G' := fun w hw => k w (hw.imp h)

/-- The round's end of a loop. -/
theorem QG.next {ds : List Deferred} {Q : Exit → Act → World → Prop} {ι : Type} {φ : ι → Prop} {vals : ι → Env} {Γ : ι → List HProp} {μ : ι → Nat} {m : Nat} (j : ι) (hj : φ j) (hm : μ j < m) (he : (vals j).sub e) (hi : Imp G (Γ j)) :
    QG W0 n ds (Exit.then (LoopAt W0 n ds φ vals Γ μ m) Q) .normal e G := fun _ _ ha hw => ⟨j, hj, hm, ha.sub he, hw.imp hi⟩
end
theorem wrap_u64_range (x : Int) : 0 ≤ IntKind.u64.wrap x ∧ IntKind.u64.wrap x ≤ 18446744073709551615 := by rw [IntKind.wrap_u64]; omega
theorem wu64 {x : Int} (h1 : 0 ≤ x) (h2 : x ≤ 18446744073709551615) : IntKind.u64.wrap x = x := by rw [IntKind.wrap_u64]; omega
theorem wrap_u32_range (x : Int) : 0 ≤ IntKind.u32.wrap x ∧ IntKind.u32.wrap x ≤ 4294967295 := by rw [IntKind.wrap_u32]; omega
theorem wu32 {x : Int} (h1 : 0 ≤ x) (h2 : x ≤ 4294967295) : IntKind.u32.wrap x = x := by rw [IntKind.wrap_u32]; omega
theorem loop_head (i m k : Nat) : (i < m ∧ i < k) ∨ (i < m ∧ ¬ i < k) ∨ ¬ i < m := by omega
end Go.Sl
