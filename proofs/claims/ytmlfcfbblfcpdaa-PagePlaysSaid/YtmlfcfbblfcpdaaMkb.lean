/- What the memory laws share: bytes written over, stores and loads of bytes. -/
import Derived.Test.YtmlfcfbblfcpdaaMemo
namespace Go.Proofs.Ytmlfcfbblfcpdaa.Me
open Go Go.Sl Go.RowKit Go.Proofs Go.Proofs.Ytmlfcfbblfcpdaa.T
set_option linter.unusedVariables false
set_option linter.unusedSimpArgs false
set_option maxRecDepth 100000
theorem overB_drop {bs ys : List UInt8} {a : Nat} (h : a ≤ bs.length) (j : Nat) (hj : j ≤ ys.length) : (overB bs a ys).drop (a + j) = ys.drop j ++ bs.drop (a + ys.length) := by
  unfold overB
  have e0 : (bs.take a).length = a := by rw [List.length_take]; omega
  rw [List.append_assoc, List.drop_append, e0, List.drop_eq_nil_of_le (by omega), List.nil_append, Nat.add_sub_cancel_left, List.drop_append, show j - ys.length = 0 by omega, List.drop_zero]
theorem leN_one {bs : List UInt8} {k : Nat} {x : UInt8} (h : bs[k]? = some x) : leN ((bs.drop k).take 1) = x.toNat := by
  obtain ⟨hk, rfl⟩ := List.getElem?_eq_some_iff.1 h
  rw [List.drop_eq_getElem_cons hk]; rfl
theorem byte_back (x : UInt8) : IntKind.u8.wrap (x.toNat : Int) = (x.toNat : Int) := by
  have := x.toNat_lt
  rw [IntKind.wrap_u8]; omega
section
variable {P : Program} {W0 : World} {e : Env} {G R : List HProp} {ty : TypeId}
/-- A byte stored into a block of bytes. -/
theorem Eff.storeByte {t bt : TypeId} {x y : Operand} {b o i : Nat} {z : UInt8} {bs : List UInt8} {put : HProp → List HProp} {by' zv ag} (ht : TI P t 1 by' zv ag) (ho : o = i) (hx : e.ev x = some (.pointer (some ⟨b, o, none⟩))) (hy : e.ev y = some (byteV z))
    (fc : Foc G (blk b (bytesV bs) bt) put) (hi : i < bs.length) : Eff P W0 (.store t x y) ty e G (fun _ : Unit => True) (fun _ => undef) (fun _ => put (blk b (bytesV (bs.set i z)) bt)) := by
  subst ho
  rw [← bytesV_set]
  exact Eff.store1 ht hx hy fc rfl (by rw [bytesV_length]; exact hi)
theorem Yield.loadByte {t bt : TypeId} {x : Operand} {b o i : Nat} {z : UInt8} {bs : List UInt8} {by' zv} (ht : TI P t 1 by' zv false) (ho : o = i) (hx : e.ev x = some (.pointer (some ⟨b, o, none⟩))) (x' : Ext G (blk b (bytesV bs) bt) R) (hz : bs[i]? = some z) : Yield P W0 (.load t x) ty e G (byteV z) := by
  subst ho
  exact Yield.load ht hx (Cel.of_blk x' (bytesV_get hz))
end
end Go.Proofs.Ytmlfcfbblfcpdaa.Me
