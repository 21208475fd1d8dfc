/- IowinApart: a partition to which no channel leads sees the same console, interrupts, requests and pages, whatever the others do and however quick the disk is: the law returns true at every input and changes nothing that was there. No conditions. -/
import Derived.Test.YtphljkplokjonaaGreatZa8
set_option linter.unusedVariables false
set_option linter.unusedSimpArgs false
set_option linter.unusedSectionVars false
set_option maxRecDepth 100000
namespace Go.Proofs.YtphljkplokjonaaGreat.iowinApart
open Go Go.Sl Go.RowKit Go.Proofs Go.Proofs.YtphljkplokjonaaGreat.T Go.Proofs.YtphljkplokjonaaGreat.Sp Go.Proofs.YtphljkplokjonaaGreat.Io Go.Proofs.YtphljkplokjonaaGreat.Ms Tryz
open Go.Proofs.YtphljkplokjonaaGreat.Hc (md md_range)
open Go.ChangeShapes Go.WideShapes Go.ChangeAt
theorem own : ownKnob prog.godebug = none := by kernel_rfl
theorem laid : laidOutB prog = true := by kernel_rfl
set_option maxRecDepth 100000 in
theorem lifted (os : Os) (started : os.Started) (H : Type) (enc : TypeId × Value → H) :
 ReturnsInHanded {} checked os 8 .any (Rows.iowinApartSpec.pre6 enc prog f8 Rows.iowinApartRow.domain false) (Rows.iowinApartSpec.post enc prog f8 false true false false) := by
 refine returnsInHanded_of_change_sized (C := checked) own started (by kernel_rfl) func8
  (ChangeSpec.witness6 (enc := enc) (C := checked) false ⟨#[], #[.slice none 0 0, .slice none 0 0, .slice none 0 0, .slice none 0 0], []⟩ 8 (by kernel_rfl) (by kernel_rfl) (by kernel_rfl) (by kernel_rfl)) ?_
 intro W base args ds gs before hval0 hW hcnd hsz0 _
 have hsz : (DataW.weightsEach prog (f8.params.toList ++ Rows.iowinApartSpec.plain.varTypes prog) (ds ++ gs)).all (· ≤ reachBytes) = true := hsz0
 have hval : ∀ (j : Nat) t v, f8.params[j]? = some t → args[j]? = some v → Value.okWide prog W .any base t v := hval0
 have hW' := hW
 obtain ⟨p, q, hA0, hV, rfl, hfz, hnd⟩ := hW
 have hA : DataW.TrodAll enc prog W 0 (fun _ => true) true f8.params.toList args.toList ds p := hA0
 rw [params8] at hA hval hsz
 obtain ⟨v0, vs0, d0, ds0, p0, q0, hargs, rfl, rfl, h0, r0⟩ := trodAll_cons hA
 obtain ⟨v1, vs1, d1, ds1, p1, q1, rfl, rfl, rfl, h1, r1⟩ := trodAll_cons r0
 obtain ⟨v2, vs2, d2, ds2, p2, q2, rfl, rfl, rfl, h2, r2⟩ := trodAll_cons r1
 obtain ⟨v3, vs3, d3, ds3, p3, q3, rfl, rfl, rfl, h3, r3⟩ := trodAll_cons r2
 obtain ⟨rfl, rfl, rfl⟩ := trodAll_nil r3
 obtain rfl : args = #[v0, v1, v2, v3] := by cases args; simp_all
 obtain ⟨rfl, rfl⟩ := trodVars_none hV
 have k0 := weights_le hsz 0 (t := 80) (d := d0) J J
 have s0 := Opn.param underlying80 (Opn.ints (by' := 8) underlying80 underlying3 (by kernel_rfl) (by kernel_rfl)) (hval 0 80 v0 J J) h0 k0
 obtain ⟨x0, c0, sl, e0, l0, ok0, s0, m0⟩ := s0
 cases e0
 have k1 := weights_le hsz 1 (t := 80) (d := d1) J J
 have s1 := Opn.param underlying80 (Opn.ints (by' := 8) underlying80 underlying3 (by kernel_rfl) (by kernel_rfl)) (hval 1 80 v1 J J) h1 k1
 obtain ⟨x1, c1, qk, e1, l1, ok1, s1, m1⟩ := s1
 cases e1
 have k2 := weights_le hsz 2 (t := 70) (d := d2) J J
 have s2 := Opn.param underlying70 (Inp.list W) (hval 2 70 v2 J J) h2 k2
 obtain ⟨x2, c2, ins, e2, l2, ok2, s2, m2⟩ := s2
 cases e2
 have k3 := weights_le hsz 3 (t := 47) (d := d3) J J
 have s3 := Opn.param underlying47 (IAct.list W) (hval 3 47 v3 J J) h3 k3
 obtain ⟨x3, c3, ops, e3, l3, ok3, s3, m3⟩ := s3
 cases e3
 clear hA0 hval0 hsz0 hsz
 refine ((walk W s0 s1 s2 ok2 (by unfold reachBytes at m2; omega) s3 ok3 (by unfold reachBytes at m3; omega)) W (Sat.start W)).mono fun e W' he => ?_
 obtain ⟨_, _, he, hs⟩ := he
 subst he
 exact ⟨_, rfl, law_post laid (params_ok (by kernel_rfl)) J underlying4 hW' J J (Sat.below eX hs)⟩
theorem over : Rows.iowinApartRow.holds pinned (OpenSpec.ofChange Rows.iowinApartSpec) :=
 OpenClaim.holds_of_wide 8 f8 J J J J J J J ⟨rfl, rfl, rfl, rfl, rfl⟩ J J J J J (by kernel_rfl) func8 (by kernel_rfl)
  (of_decide_eq_true (by kernel_rfl)) (by unfold Func.isWrapper; first | (rw [if_pos (by decide +kernel)]; kernel_rfl) | (rw [if_neg (by decide +kernel)]; exact ⟨rfl, rfl⟩))
  (fun os started H enc _ => lifted os started H enc)
theorem proved : Rows.IowinApartSaid := over
#print axioms proved
end Go.Proofs.YtphljkplokjonaaGreat.iowinApart
