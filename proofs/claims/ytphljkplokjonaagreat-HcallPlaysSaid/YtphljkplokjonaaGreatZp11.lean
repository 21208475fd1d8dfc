/- HcallPlays: each call is answered as the document's machine answers it, and what is behind it is the same: the law returns true at every input and changes nothing that was there. No conditions. -/
import Derived.Test.YtphljkplokjonaaGreatZp10
set_option linter.unusedVariables false
set_option linter.unusedSimpArgs false
set_option linter.unusedSectionVars false
set_option maxRecDepth 100000
namespace Go.Proofs.YtphljkplokjonaaGreat.hcallPlays
open Go Go.Sl Go.RowKit Go.Proofs Go.Proofs.YtphljkplokjonaaGreat.T Go.Proofs.YtphljkplokjonaaGreat.Sp Go.Proofs.YtphljkplokjonaaGreat.Hc Tryz
open Go.ChangeShapes Go.WideShapes Go.ChangeAt
theorem own : ownKnob prog.godebug = none := by kernel_rfl
theorem laid : laidOutB prog = true := by kernel_rfl
set_option maxRecDepth 100000 in
theorem lifted (os : Os) (started : os.Started) (H : Type) (enc : TypeId × Value → H) :
 ReturnsInHanded {} checked os 11 .any (Rows.hcallPlaysSpec.pre6 enc prog f11 Rows.hcallPlaysRow.domain false) (Rows.hcallPlaysSpec.post enc prog f11 false true false false) := by
 refine returnsInHanded_of_change_sized (C := checked) own started (by kernel_rfl) func11
  (ChangeSpec.witness6 (enc := enc) (C := checked) false ⟨#[], #[.int .i64 0, .slice none 0 0], []⟩ 8 (by kernel_rfl) (by kernel_rfl) (by kernel_rfl) (by kernel_rfl)) ?_
 intro W base args ds gs before hval0 hW hcnd hsz0 _
 have hsz : (DataW.weightsEach prog (f11.params.toList ++ Rows.hcallPlaysSpec.plain.varTypes prog) (ds ++ gs)).all (· ≤ reachBytes) = true := hsz0
 have hval : ∀ (j : Nat) t v, f11.params[j]? = some t → args[j]? = some v → Value.okWide prog W .any base t v := hval0
 have hW' := hW
 obtain ⟨p, q, hA0, hV, rfl, hfz, hnd⟩ := hW
 have hA : DataW.TrodAll enc prog W 0 (fun _ => true) true f11.params.toList args.toList ds p := hA0
 rw [params11] at hA hval hsz
 obtain ⟨v0, vs0, d0, ds0, p0, q0, hargs, rfl, rfl, h0, r0⟩ := trodAll_cons hA
 obtain ⟨v1, vs1, d1, ds1, p1, q1, rfl, rfl, rfl, h1, r1⟩ := trodAll_cons r0
 obtain ⟨rfl, rfl, rfl⟩ := trodAll_nil r1
 obtain rfl : args = #[v0, v1] := by cases args; simp_all
 obtain ⟨rfl, rfl⟩ := trodVars_none hV
 obtain ⟨a0, rfl, rfl, rfl, w0⟩ := open_int underlying3 (hval 0 3 v0 rfl rfl) h0
 have k1 := weights_le hsz 1 (t := 22) (d := d1) J J
 have s1 := Opn.param underlying22 (HAct.list W) (hval 1 22 v1 J J) h1 k1
 obtain ⟨x0, c0, ops, e1, l0, ok0, s0, m0⟩ := s1
 cases e1
 clear hA0 hval0 hsz0 hsz
 refine ((walk W s0 ok0) W (Sat.start W)).mono fun e W' he => ?_
 obtain ⟨_, _, he, hs⟩ := he
 subst he
 exact ⟨_, rfl, law_post laid (params_ok (by kernel_rfl)) J underlying4 hW' J J (Sat.below eX hs)⟩
theorem over : Rows.hcallPlaysRow.holds pinned (OpenSpec.ofChange Rows.hcallPlaysSpec) :=
 OpenClaim.holds_of_wide 11 f11 J J J J J J J ⟨rfl, rfl, rfl, rfl, rfl⟩ J J J J J (by kernel_rfl) func11 (by kernel_rfl)
  (of_decide_eq_true (by kernel_rfl)) (by unfold Func.isWrapper; first | (rw [if_pos (by decide +kernel)]; kernel_rfl) | (rw [if_neg (by decide +kernel)]; exact ⟨rfl, rfl⟩))
  (fun os started H enc _ => lifted os started H enc)
theorem proved : Rows.HcallPlaysSaid := over
#print axioms proved
end Go.Proofs.YtphljkplokjonaaGreat.hcallPlays
