/- What the memory laws share: the acts, the example of the chapter, bytes written over. -/
import Derived.Test.YtjdaglakhiifjaaMemo
import Derived.Test.YtjdaglakhiifjaaRows
namespace Go.Proofs.Ytjdaglakhiifjaa.Me
open Go Go.Sl Go.RowKit Go.Proofs Go.Proofs.Ytjdaglakhiifjaa.T
set_option linter.unusedVariables false
set_option linter.unusedSimpArgs false
set_option maxRecDepth 100000
structure MOp where
  Kind : Int
  Addr : Int
  Size : Int
  V : Int
  N : Int
  Ba : Option Go.Addr
  Bc : Nat
  B : List UInt8
def MOp.cells (o : MOp) : List Value := [.int .i64 o.Kind, .int .u32 o.Addr, .int .i64 o.Size, .int .u64 o.V, .int .i64 o.N, .slice o.Ba o.B.length o.Bc]
structure MOp.OK (W : World) (o : MOp) : Prop where
  mk ::
  Kind : (Lit.int .i64 o.Kind).wf = true
  Addr : (Lit.int .u32 o.Addr).wf = true
  Size : (Lit.int .i64 o.Size).wf = true
  V : (Lit.int .u64 o.V).wf = true
  N : (Lit.int .i64 o.N).wf = true
  Bc : o.B.length ≤ o.Bc
  B : SlAt W 1 o.Ba o.B.length (bytesV o.B)
  Bm : o.B.length ≤ reachBytes
theorem MOp.opn (W : World) : Opn Try.prog W 50 (fun cs => ∃ o : MOp, cs = o.cells ∧ o.OK W) := (Opn.of_fields Try.underlying50 (by kernel_rfl) (by kernel_rfl) (.cons (s := 1) (Opn.int Try.underlying3) (.cons (s := 1) (Opn.int Try.underlying37) (.cons (s := 1) (Opn.int Try.underlying3) (.cons (s := 1) (Opn.int Try.underlying24) (.cons (s := 1) (Opn.int Try.underlying3) (.cons (s := 1) (Opn.bytes Try.underlying48 Try.underlying5 (by kernel_rfl) (by kernel_rfl)) .nil))))))).mono fun cs h => by
  obtain ⟨_, _, rfl, _, ⟨xKind, rfl, wKind⟩, ⟨_, _, rfl, _, ⟨xAddr, rfl, wAddr⟩, ⟨_, _, rfl, _, ⟨xSize, rfl, wSize⟩, ⟨_, _, rfl, _, ⟨xV, rfl, wV⟩, ⟨_, _, rfl, _, ⟨xN, rfl, wN⟩, ⟨_, _, rfl, _, ⟨xBa, xBc, xB, rfl, wBc, wB, wBm⟩, rfl⟩⟩⟩⟩⟩⟩ := h
  exact ⟨⟨xKind, xAddr, xSize, xV, xN, xBa, xBc, xB⟩, rfl, ⟨wKind, wAddr, wSize, wV, wN, wBc, wB, wBm⟩⟩
theorem MOp.len (o : MOp) : o.cells.length = 6 := rfl
theorem MOp.ones (o : MOp) : ∀ v ∈ o.cells, one v = true := by simp [MOp.cells, one]
theorem MOp.list (W : World) : Opn Try.prog W 43 (fun cs => ∃ a c, ∃ xs : List MOp, cs = [.slice a xs.length c] ∧ xs.length ≤ c ∧ (∀ x ∈ xs, MOp.OK W x) ∧ SlAt W 6 a xs.length ((xs.map MOp.cells).flatten) ∧ xs.length * 64 ≤ reachBytes) :=
  Opn.recs (sz := 6) (by' := 64) Try.underlying43 (by kernel_rfl) (by decide) (by kernel_rfl) (MOp.opn W)
theorem overB_drop {bs ys : List UInt8} {a : Nat} (h : a ≤ bs.length) (j : Nat) (hj : j ≤ ys.length) : (overB bs a ys).drop (a + j) = ys.drop j ++ bs.drop (a + ys.length) := by
  unfold overB
  have e0 : (bs.take a).length = a := by rw [List.length_take]; omega
  rw [List.append_assoc, List.drop_append, e0, List.drop_eq_nil_of_le (by omega), List.nil_append, Nat.add_sub_cancel_left, List.drop_append, show j - ys.length = 0 by omega, List.drop_zero]
theorem leN_one {bs : List UInt8} {k : Nat} {x : UInt8} (h : bs[k]? = some x) : leN ((bs.drop k).take 1) = x.toNat := by
  obtain ⟨hk, rfl⟩ := List.getElem?_eq_some_iff.1 h
  rw [List.drop_eq_getElem_cons hk]; rfl
theorem byte_back (x : UInt8) : IntKind.u8.wrap (x.toNat : Int) = (x.toNat : Int) := by
  have := x.toNat_lt
  rw [IntKind.wrap_u8]; omega
section
variable {P : Program} {W0 : World} {e : Env} {G R : List HProp} {ty : TypeId}
/-- A byte stored into a block of bytes. -/
theorem Eff.storeByte {t bt : TypeId} {x y : Operand} {b o i : Nat} {z : UInt8} {bs : List UInt8} {put : HProp → List HProp} {by' zv ag} (ht : TI P t 1 by' zv ag) (ho : o = i) (hx : e.ev x = some (.pointer (some ⟨b, o, none⟩))) (hy : e.ev y = some (byteV z))
    (fc : Foc G (blk b (bytesV bs) bt) put) (hi : i < bs.length) : Eff P W0 (.store t x y) ty e G (fun _ : Unit => True) (fun _ => undef) (fun _ => put (blk b (bytesV (bs.set i z)) bt)) := by
  subst ho
  rw [← bytesV_set]
  exact Eff.store1 ht hx hy fc rfl (by rw [bytesV_length]; exact hi)
theorem Yield.loadByte {t bt : TypeId} {x : Operand} {b o i : Nat} {z : UInt8} {bs : List UInt8} {by' zv} (ht : TI P t 1 by' zv false) (ho : o = i) (hx : e.ev x = some (.pointer (some ⟨b, o, none⟩))) (x' : Ext G (blk b (bytesV bs) bt) R) (hz : bs[i]? = some z) : Yield P W0 (.load t x) ty e G (byteV z) := by
  subst ho
  exact Yield.load ht hx (Cel.of_blk x' (bytesV_get hz))
end
section
variable (W0 : World) (Fr : List HProp)
theorem works_spec : Ctr Try.prog W0 25 [] Fr (fun _ : Unit => True) (fun _ => .bool true) (fun _ => Fr) := by
  have e1 : putB 8589934850 4 = [2, 1, 0, 0] := by decide
  refine Ctr.of_body Try.func25 rfl Try.ntmps25 rfl ?_
  refine CG.seq ?_
  refine CG.region ?_
  refine OG.yield (Yield.assign rfl) rfl ?_
  refine OG.nil ?_
  refine QG.then ?_
  refine CG.seq ?_
  refine CG.region ?_
  refine OG.callo call26 rfl (Imp.refl _) (new_spec W0 Fr (n := 2) (by decide) (by decide)) rfl ?_
  rintro m -
  refine OG.yield (Yield.move rfl) rfl ?_
  refine OG.yield (Yield.extract rfl rfl) rfl ?_
  refine OG.yield (Yield.extract rfl rfl) rfl ?_
  refine OG.yield (Yield.assign rfl) rfl ?_
  refine OG.yield (Yield.assign rfl) rfl ?_
  refine OG.nil ?_
  refine QG.then ?_
  refine CG.seq ?_
  refine CG.seq ?_
  refine CG.region ?_
  refine OG.yield (Yield.move rfl) rfl ?_
  refine OG.yield (by first | exact Yield.as (Yield.neq rfl rfl) (bT (by omega)) | exact Yield.as (Yield.neq rfl rfl) (bF (by omega)) | exact Yield.neq rfl rfl) rfl ?_
  refine OG.yield (Yield.move rfl) rfl ?_
  refine OG.guard_yes rfl rfl rfl (by decide) ?_
  refine OG.yield (Yield.move rfl) rfl ?_
  refine OG.guard_yes rfl rfl rfl (by decide) ?_
  refine OG.yield (by first | exact Yield.ptr_nil Try.underlying44 rfl rfl | exact Yield.nil_nil Try.underlying44 rfl rfl) rfl ?_
  refine OG.yield (by first | exact Yield.pick_t rfl rfl | exact Yield.pick_f rfl rfl | exact Yield.pick rfl (fun _ => rfl) (fun _ => rfl)) rfl ?_
  refine OG.yield (Yield.move rfl) rfl ?_
  refine OG.guard_yes rfl rfl rfl (by decide) ?_
  refine OG.yield (Yield.move rfl) rfl ?_
  refine OG.guard_yes rfl rfl rfl (by decide) ?_
  refine OG.callo call27 rfl ((by repeat (first | exact Imp.refl _ | exact Imp.none _ | apply Imp.pull (by repeat (first | exact Ext.here | apply Ext.there)) | apply Imp.trans Imp.drop))) (store_ok W0 _ (s := 4) (a := 508) (v := 8589934850) (by decide) (by decide) (by decide) (by decide)) rfl ?_
  rintro ⟨⟩ -
  refine OG.guard_yes rfl rfl rfl (by decide) ?_
  refine OG.yield (by first | exact Yield.as (Yield.neq rfl rfl) (bT (by omega)) | exact Yield.as (Yield.neq rfl rfl) (bF (by omega)) | exact Yield.neq rfl rfl) rfl ?_
  refine OG.yield (by first | exact Yield.pick_t rfl rfl | exact Yield.pick_f rfl rfl | exact Yield.pick rfl (fun _ => rfl) (fun _ => rfl)) rfl ?_
  refine OG.nil ?_
  refine QG.then ?_
  refine CG.cond_f rfl ?_
  refine CG.skip ?_
  refine QG.then ?_
  refine CG.seq ?_
  have e2 : ((overB (List.replicate (2 * 256) 0) 508 (putB 8589934850 4)).drop 508).take 4 = putB 8589934850 4 := overB_at (ys := putB 8589934850 4) (by rw [List.length_replicate]; decide)
  have e3 := overB_drop (bs := List.replicate (2 * 256) 0) (ys := putB 8589934850 4) (a := 508) (by rw [List.length_replicate]; decide) 1 (by rw [e1]; decide)
  rw [e1] at e3
  generalize hB : overB (List.replicate (2 * 256) 0) 508 (putB 8589934850 4) = B at e2 e3 ⊢
  rw [← e1, hB] at e3
  refine CG.region ?_
  refine OG.yield (Yield.move rfl) rfl ?_
  refine OG.callo call28 rfl ((by repeat (first | exact Imp.refl _ | exact Imp.none _ | apply Imp.pull (by repeat (first | exact Ext.here | apply Ext.there)) | apply Imp.trans Imp.drop))) (load_ok W0 _ (s := 4) (a := 508) (bs := B) (by decide) (by decide) (by decide)) rfl ?_
  rintro ⟨⟩ -
  rw [e2, show leN (putB 8589934850 4) = 258 by rw [e1]; rfl]
  refine OG.yield (Yield.move rfl) rfl ?_
  refine OG.yield (Yield.extract rfl rfl) rfl ?_
  refine OG.yield (Yield.extract rfl rfl) rfl ?_
  refine OG.yield (Yield.assign rfl) rfl ?_
  refine OG.yield (Yield.assign rfl) rfl ?_
  refine OG.nil ?_
  refine QG.then ?_
  refine CG.seq ?_
  refine CG.region ?_
  refine OG.yield (Yield.move rfl) rfl ?_
  refine OG.callo call28 rfl ((by repeat (first | exact Imp.refl _ | exact Imp.none _ | apply Imp.pull (by repeat (first | exact Ext.here | apply Ext.there)) | apply Imp.trans Imp.drop))) (load_ok W0 _ (s := 1) (a := 509) (bs := B) (by decide) (by decide) (by decide)) rfl ?_
  rintro ⟨⟩ -
  rw [show leN ((B.drop 509).take 1) = 1 by rw [show B.drop 509 = _ from e3]; rfl]
  refine OG.yield (Yield.move rfl) rfl ?_
  refine OG.yield (Yield.extract rfl rfl) rfl ?_
  refine OG.yield (Yield.extract rfl rfl) rfl ?_
  refine OG.yield (Yield.assign rfl) rfl ?_
  refine OG.yield (Yield.assign rfl) rfl ?_
  refine OG.nil ?_
  refine QG.then ?_
  refine CG.seq ?_
  refine CG.region ?_
  refine OG.yield (Yield.move rfl) rfl ?_
  refine OG.callo call28 rfl ((by repeat (first | exact Imp.refl _ | exact Imp.none _ | apply Imp.pull (by repeat (first | exact Ext.here | apply Ext.there)) | apply Imp.trans Imp.drop))) (load_bad W0 _ (s := 1) (a := 512) (bs := B) (by decide) (by decide)) rfl ?_
  rintro ⟨⟩ -
  rw [show merr 2 512 1 = 31 from rfl]
  refine OG.yield (Yield.move rfl) rfl ?_
  refine OG.yield (Yield.extract rfl rfl) rfl ?_
  refine OG.yield (Yield.extract rfl rfl) rfl ?_
  refine OG.yield (Yield.assign rfl) rfl ?_
  refine OG.yield (Yield.assign rfl) rfl ?_
  refine OG.nil ?_
  refine QG.then ?_
  refine CG.seq ?_
  refine CG.region ?_
  refine OG.yield (Yield.move rfl) rfl ?_
  refine OG.yield (by first | exact Yield.as (Yield.eql rfl rfl) (bT (by omega)) | exact Yield.as (Yield.eql rfl rfl) (bF (by omega)) | exact Yield.eql rfl rfl) rfl ?_
  refine OG.yield (Yield.move rfl) rfl ?_
  refine OG.guard_yes rfl rfl rfl (by decide) ?_
  refine OG.yield (Yield.move rfl) rfl ?_
  refine OG.guard_yes rfl rfl rfl (by decide) ?_
  refine OG.yield (by first | exact Yield.as (Yield.eql rfl rfl) (bT (by omega)) | exact Yield.as (Yield.eql rfl rfl) (bF (by omega)) | exact Yield.eql rfl rfl) rfl ?_
  refine OG.yield (by first | exact Yield.pick_t rfl rfl | exact Yield.pick_f rfl rfl | exact Yield.pick rfl (fun _ => rfl) (fun _ => rfl)) rfl ?_
  refine OG.yield (Yield.move rfl) rfl ?_
  refine OG.guard_yes rfl rfl rfl (by decide) ?_
  refine OG.yield (Yield.move rfl) rfl ?_
  refine OG.guard_yes rfl rfl rfl (by decide) ?_
  refine OG.yield (by first | exact Yield.as (Yield.eql rfl rfl) (bT (by omega)) | exact Yield.as (Yield.eql rfl rfl) (bF (by omega)) | exact Yield.eql rfl rfl) rfl ?_
  refine OG.yield (by first | exact Yield.pick_t rfl rfl | exact Yield.pick_f rfl rfl | exact Yield.pick rfl (fun _ => rfl) (fun _ => rfl)) rfl ?_
  refine OG.yield (Yield.move rfl) rfl ?_
  refine OG.guard_yes rfl rfl rfl (by decide) ?_
  refine OG.yield (Yield.move rfl) rfl ?_
  refine OG.guard_yes rfl rfl rfl (by decide) ?_
  refine OG.yield (by first | exact Yield.as (Yield.eql rfl rfl) (bT (by omega)) | exact Yield.as (Yield.eql rfl rfl) (bF (by omega)) | exact Yield.eql rfl rfl) rfl ?_
  refine OG.yield (by first | exact Yield.pick_t rfl rfl | exact Yield.pick_f rfl rfl | exact Yield.pick rfl (fun _ => rfl) (fun _ => rfl)) rfl ?_
  refine OG.yield (Yield.move rfl) rfl ?_
  refine OG.guard_yes rfl rfl rfl (by decide) ?_
  refine OG.yield (Yield.move rfl) rfl ?_
  refine OG.guard_yes rfl rfl rfl (by decide) ?_
  refine OG.yield (by first | exact Yield.as (Yield.eql rfl rfl) (bT (by omega)) | exact Yield.as (Yield.eql rfl rfl) (bF (by omega)) | exact Yield.eql rfl rfl) rfl ?_
  refine OG.yield (by first | exact Yield.pick_t rfl rfl | exact Yield.pick_f rfl rfl | exact Yield.pick rfl (fun _ => rfl) (fun _ => rfl)) rfl ?_
  refine OG.yield (Yield.move rfl) rfl ?_
  refine OG.guard_yes rfl rfl rfl (by decide) ?_
  refine OG.yield (Yield.move rfl) rfl ?_
  refine OG.guard_yes rfl rfl rfl (by decide) ?_
  refine OG.callo call63 rfl ((by repeat (first | exact Imp.refl _ | exact Imp.none _ | apply Imp.pull (by repeat (first | exact Ext.here | apply Ext.there)) | apply Imp.trans Imp.drop))) (frames_spec W0 _) rfl ?_
  rintro ⟨⟩ -
  refine OG.guard_yes rfl rfl rfl (by decide) ?_
  refine OG.yield (by first | exact Yield.as (Yield.eql rfl rfl) (bT (by omega)) | exact Yield.as (Yield.eql rfl rfl) (bF (by omega)) | exact Yield.eql rfl rfl) rfl ?_
  refine OG.yield (by first | exact Yield.pick_t rfl rfl | exact Yield.pick_f rfl rfl | exact Yield.pick rfl (fun _ => rfl) (fun _ => rfl)) rfl ?_
  refine OG.yield (Yield.assign rfl) rfl ?_
  refine OG.nil ?_
  refine QG.then ?_
  refine CG.ret ?_
  exact QG.ret1 rfl rfl () trivial rfl (by repeat (first | exact Imp.refl _ | exact Imp.none _ | apply Imp.pull (by repeat (first | exact Ext.here | apply Ext.there)) | apply Imp.trans Imp.drop))
end
end Go.Proofs.Ytjdaglakhiifjaa.Me
