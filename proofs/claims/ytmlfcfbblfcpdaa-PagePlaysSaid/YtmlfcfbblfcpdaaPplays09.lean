/- PagePlays: tables in a memory are read and written as the document says: the law returns true and changes nothing that was there. -/
import Derived.Test.YtmlfcfbblfcpdaaSeen
import Derived.Test.YtmlfcfbblfcpdaaPkw
namespace Go.Proofs.Ytmlfcfbblfcpdaa.pagePlays
open Go Go.Sl Go.RowKit Go.Proofs Go.Proofs.Ytmlfcfbblfcpdaa.T Go.Proofs.Ytmlfcfbblfcpdaa.Me Go.Proofs.Ytmlfcfbblfcpdaa.Pe Go.Proofs.Ytmlfcfbblfcpdaa.Pg Go.Proofs.Ytmlfcfbblfcpdaa.Pr
set_option linter.unusedVariables false
set_option linter.unusedSimpArgs false
set_option maxRecDepth 100000
/-- All that is asked of root and page, and whether it is so. -/
theorem in_cases (n : Nat) (root p : Int) : (∃ rt q : Nat, root = rt ∧ p = q ∧ rt < n ∧ q < 4096) ∨ (¬(0 ≤ root ∧ root < n) ∨ ¬(0 ≤ p ∧ p < 4096)) := by
  by_cases h : (0 ≤ root ∧ root < n) ∧ (0 ≤ p ∧ p < 4096)
  · exact .inl ⟨root.toNat, p.toNat, by omega, by omega, by omega, by omega⟩
  · exact .inr (by omega)
section
variable (W0 : World) (Fr : List HProp)
/-- What Set does with whatever it is handed. -/
def setX (n : Nat) (bs : List UInt8) (root p f pm spare : Int) : Bool × Int × List UInt8 := if (0 ≤ root ∧ root < n) ∧ (0 ≤ p ∧ p < 4096) ∧ entryOf f pm ≠ 0 ∧ (0 ≤ f ∧ f < n) then setR n bs root.toNat p.toNat (entryOf f pm).toNat spare else (false, 2, bs)
theorem setX_ok {n rt q : Nat} {bs : List UInt8} {f pm spare : Int} (hr : rt < n) (hq : q < 4096) (he : entryOf f pm ≠ 0) (hf : 0 ≤ f ∧ f < n) : setX n bs rt q f pm spare = setR n bs rt q (entryOf f pm).toNat spare := by
  unfold setX; rw [if_pos ⟨by omega, by omega, he, hf⟩, Int.toNat_natCast, Int.toNat_natCast]
theorem setX_no {n : Nat} {bs : List UInt8} {root p f pm spare : Int} (h : ¬(0 ≤ root ∧ root < n) ∨ ¬(0 ≤ p ∧ p < 4096) ∨ entryOf f pm = 0 ∨ ¬(0 ≤ f ∧ f < n)) : setX n bs root p f pm spare = (false, 2, bs) := by
  unfold setX; rw [if_neg (fun q => h.elim (fun h => h q.1) fun h => h.elim (fun h => h q.2.1) fun h => h.elim (fun h => q.2.2.1 h) fun h => h q.2.2.2)]
theorem set_cases (n : Nat) (root p f pm : Int) : (∃ rt q : Nat, root = rt ∧ p = q ∧ rt < n ∧ q < 4096 ∧ entryOf f pm ≠ 0 ∧ (0 ≤ f ∧ f < n)) ∨ (¬(0 ≤ root ∧ root < n) ∨ ¬(0 ≤ p ∧ p < 4096) ∨ entryOf f pm = 0 ∨ ¬(0 ≤ f ∧ f < n)) := by
  by_cases h : (0 ≤ root ∧ root < n) ∧ (0 ≤ p ∧ p < 4096) ∧ entryOf f pm ≠ 0 ∧ (0 ≤ f ∧ f < n)
  · exact .inl ⟨root.toNat, p.toNat, by omega, by omega, by omega, by omega, h.2.2⟩
  · by_cases h1 : 0 ≤ root ∧ root < n
    · by_cases h2 : 0 ≤ p ∧ p < 4096
      · by_cases h3 : entryOf f pm = 0
        · exact .inr (.inr (.inr (.inl h3)))
        · by_cases h4 : 0 ≤ f ∧ f < n
          · exact absurd ⟨h1, h2, h3, h4⟩ h
          · exact .inr (.inr (.inr (.inr h4)))
      · exact .inr (.inr (.inl h2))
    · exact .inr (.inl h1)
theorem set_x {m n : Nat} {root p f pm spare : Int} {bs : List UInt8} : Ctr Try.prog W0 12 [.pointer (some ⟨m, 0, none⟩), .int .i64 root, .int .i64 p, .int .i64 f, .int .i64 pm, .int .i64 spare] (M m n bs :: Fr) (fun _ : Unit => True) (fun _ => .tuple #[.bool (setX n bs root p f pm spare).1, .int .i64 (setX n bs root p f pm spare).2.1]) (fun _ => M m n (setX n bs root p f pm spare).2.2 :: Fr) := by
  have her := entryOf_range f pm
  rcases set_cases n root p f pm with ⟨rt, q, rfl, rfl, h1, h2, h3, h4⟩ | h
  · rw [setX_ok h1 h2 h3 h4]
    exact Pg.set_spec W0 Fr h1 h2 (by omega) (by omega) h4
  · rw [setX_no h]
    exact Pg.set_bad W0 Fr h
theorem rset_x {m n : Nat} {root p f pm spare : Int} {bs : List UInt8} (hl : bs.length = n * 256 ∧ 1 ≤ n ∧ n ≤ 1024) : Ctr Try.prog W0 16 [.pointer (some ⟨m, 0, none⟩), .int .i64 root, .agg #[.int .i64 p, .int .i64 f, .int .i64 pm, .int .i64 spare]] (RM m n bs :: Fr) (fun _ : Unit => True) (fun _ => .tuple #[.bool (setX n bs root p f pm spare).1, .int .i64 (setX n bs root p f pm spare).2.1]) (fun _ => RM m n (setX n bs root p f pm spare).2.2 :: Fr) := by
  have her := entryOf_range f pm
  rcases set_cases n root p f pm with ⟨rt, q, rfl, rfl, h1, h2, h3, h4⟩ | h
  · rw [setX_ok h1 h2 h3 h4]
    exact Pr.set_spec W0 Fr hl h1 h2 (by omega) (by omega) h4
  · rw [setX_no h]
    exact Pr.set_bad W0 Fr h
/-- What Clear and Walk do with whatever they are handed. -/
def walkX (n : Nat) (bs : List UInt8) (root p : Int) : Int × Int × Int := if (0 ≤ root ∧ root < n) ∧ (0 ≤ p ∧ p < 4096) then walkR n bs root.toNat p.toNat else (0, 0, 2)
def clearX (n : Nat) (bs : List UInt8) (root p : Int) : List UInt8 := if (0 ≤ root ∧ root < n) ∧ (0 ≤ p ∧ p < 4096) then clearR n bs root.toNat p.toNat else bs
theorem walk_x {m n : Nat} {root p : Int} {bs : List UInt8} : Ctr Try.prog W0 13 [.pointer (some ⟨m, 0, none⟩), .int .i64 root, .int .i64 p] (M m n bs :: Fr) (fun _ : Unit => True) (fun _ => .tuple #[.int .i64 (walkX n bs root p).1, .int .i64 (walkX n bs root p).2.1, .int .i64 (walkX n bs root p).2.2]) (fun _ => M m n bs :: Fr) := by
  rcases in_cases n root p with ⟨rt, q, rfl, rfl, h1, h2⟩ | h
  · unfold walkX; rw [if_pos (by omega), Int.toNat_natCast, Int.toNat_natCast]; exact Pg.walk_spec W0 Fr h1 h2
  · unfold walkX; rw [if_neg (by omega)]; exact Pg.walk_bad W0 Fr h
theorem rwalk_x {m n : Nat} {root p : Int} {bs : List UInt8} (hl : bs.length = n * 256 ∧ 1 ≤ n ∧ n ≤ 1024) : Ctr Try.prog W0 18 [.pointer (some ⟨m, 0, none⟩), .int .i64 root, .int .i64 p] (RM m n bs :: Fr) (fun _ : Unit => True) (fun _ => .tuple #[.int .i64 (walkX n bs root p).1, .int .i64 (walkX n bs root p).2.1, .int .i64 (walkX n bs root p).2.2]) (fun _ => RM m n bs :: Fr) := by
  rcases in_cases n root p with ⟨rt, q, rfl, rfl, h1, h2⟩ | h
  · unfold walkX; rw [if_pos (by omega), Int.toNat_natCast, Int.toNat_natCast]; exact Pr.walk_spec W0 Fr hl h1 h2
  · unfold walkX; rw [if_neg (by omega)]; exact Pr.walk_bad W0 Fr h
theorem clear_x {m n : Nat} {root p : Int} {bs : List UInt8} : Ctr Try.prog W0 11 [.pointer (some ⟨m, 0, none⟩), .int .i64 root, .int .i64 p] (M m n bs :: Fr) (fun _ : Unit => True) (fun _ => .int .i64 (walkX n bs root p).2.2) (fun _ => M m n (clearX n bs root p) :: Fr) := by
  rcases in_cases n root p with ⟨rt, q, rfl, rfl, h1, h2⟩ | h
  · unfold walkX clearX; rw [if_pos (by omega), if_pos (by omega), Int.toNat_natCast, Int.toNat_natCast]; exact Pg.clear_spec W0 Fr h1 h2
  · unfold walkX clearX; rw [if_neg (by omega), if_neg (by omega)]; exact Pg.clear_bad W0 Fr h
theorem rclear_x {m n : Nat} {root p : Int} {bs : List UInt8} (hl : bs.length = n * 256 ∧ 1 ≤ n ∧ n ≤ 1024) : Ctr Try.prog W0 17 [.pointer (some ⟨m, 0, none⟩), .int .i64 root, .int .i64 p] (RM m n bs :: Fr) (fun _ : Unit => True) (fun _ => .int .i64 (walkX n bs root p).2.2) (fun _ => RM m n (clearX n bs root p) :: Fr) := by
  rcases in_cases n root p with ⟨rt, q, rfl, rfl, h1, h2⟩ | h
  · unfold walkX clearX; rw [if_pos (by omega), if_pos (by omega), Int.toNat_natCast, Int.toNat_natCast]; exact Pr.clear_spec W0 Fr hl h1 h2
  · unfold walkX clearX; rw [if_neg (by omega), if_neg (by omega)]; exact Pr.clear_bad W0 Fr h
/-- What Store does. -/
def storeX (n : Nat) (bs : List UInt8) (a v : Nat) : Int × List UInt8 := if merr n a 4 = 0 then (0, overB bs a (putB v 4)) else (merr n a 4, bs)
theorem store_x {m n a v : Nat} {bs : List UInt8} (ha : a < 4294967296) (hv : v < 4294967296) : Ctr Try.prog W0 19 [.pointer (some ⟨m, 0, none⟩), .int .u32 a, .int .i64 4, .int .u64 v] (M m n bs :: Fr) (fun _ : Unit => True) (fun _ => .int .i64 (storeX n bs a v).1) (fun _ => M m n (storeX n bs a v).2 :: Fr) := by
  unfold storeX
  rcases merr_cases n a 4 with ⟨k, hk, hk4, hk5, hk6, he⟩ | hbad
  · obtain rfl : k = 4 := by omega
    rw [if_pos he]
    exact store_ok W0 Fr (s := 4) (by omega) hk5 hk6 (by omega)
  · rw [if_neg hbad]; exact store_bad W0 Fr ha hbad
theorem rstore_x {m n a v : Nat} {bs : List UInt8} (ha : a < 4294967296) (hv : v < 4294967296) : Ctr Try.prog W0 20 [.pointer (some ⟨m, 0, none⟩), .int .u32 a, .int .i64 4, .int .u64 v] (RM m n bs :: Fr) (fun _ : Unit => True) (fun _ => .int .i64 (storeX n bs a v).1) (fun _ => RM m n (storeX n bs a v).2 :: Fr) := by
  unfold storeX
  rcases merr_cases n a 4 with ⟨k, hk, hk4, hk5, hk6, he⟩ | hbad
  · obtain rfl : k = 4 := by omega
    rw [if_pos he]
    exact rstore_ok W0 Fr (s := 4) (by omega) hk6 ha he (by omega)
  · rw [if_neg hbad]; exact rstore_bad W0 Fr ha hbad
end
theorem setX_len {n : Nat} {bs : List UInt8} {root p f pm spare : Int} (hl : bs.length = n * 256) : (setX n bs root p f pm spare).2.2.length = n * 256 := by
  rcases set_cases n root p f pm with ⟨rt, q, rfl, rfl, h1, h2, h3, h4⟩ | h
  · rw [setX_ok h1 h2 h3 h4]
    have hi : q % 64 < 64 := Nat.mod_lt _ (by decide)
    unfold setR
    split
    · rename_i hs
      obtain ⟨t, ht, htn⟩ := secR_in hs
      rw [ht]; exact stW_len hl htn hi
    · split
      · exact stW_len (stW_len (fill_len hl (by omega)) h1 (by omega)) (by omega) hi
      · exact hl
  · rw [setX_no h]; exact hl
theorem clearX_len {n : Nat} {bs : List UInt8} {root p : Int} (hl : bs.length = n * 256) : (clearX n bs root p).length = n * 256 := by
  unfold clearX
  split
  · unfold clearR
    split
    · rename_i h1 h2
      rcases walkR_0 (n := n) (bs := bs) (root := root.toNat) (p := p.toNat) with ⟨-, hs⟩ | hw
      · obtain ⟨t, ht, htn⟩ := secR_in hs
        rw [ht]; exact stW_len hl htn (Nat.mod_lt _ (by decide))
      · rw [hw] at h2; cases h2
    · exact hl
  · exact hl
theorem storeX_len {n a v : Nat} {bs : List UInt8} (hl : bs.length = n * 256) : (storeX n bs a v).2.length = n * 256 := by
  unfold storeX
  rcases merr_cases n a 4 with ⟨k, hk, hk4, hk5, hk6, he⟩ | hbad
  · rw [if_pos he, overB_len (by rw [putB_len]; omega)]; exact hl
  · rw [if_neg hbad]; exact hl
abbrev PS := Nat × List UInt8
set_option maxHeartbeats 8000000 in
theorem walk (W : World) {f0 stop : Int} (hst : -9223372036854775808 ≤ stop ∧ stop ≤ 9223372036854775807) {a0 : Option Addr} {c0 : Nat} {ops : List POp} (hops : SlAt W 8 a0 ops.length ((ops.map POp.cells).flatten)) (hok : ∀ o ∈ ops, o.OK W) :
    Ctr Try.prog W 5 [.int .i64 f0, .slice a0 ops.length c0, .int .i64 stop] [old W] (fun _ : Unit => True) (fun _ => .bool true) (fun _ => [old W]) := by
  have hwf := wrap_u64_range f0
  refine Ctr.of_body Try.func5 rfl Try.ntmps5 rfl ?_
  refine CG.seq ?_
  refine CG.region ?_
  refine OG.yield (Yield.assign rfl) rfl ?_
  refine OG.nil ?_
  refine QG.then ?_
  refine CG.seq ?_
  refine CG.region ?_
  refine OG.yield (Yield.move rfl) rfl ?_
  refine OG.yield (Yield.conv Try.underlying29 rfl rfl rfl) rfl ?_
  generalize IntKind.u64.wrap f0 = wf at hwf ⊢
  obtain ⟨n0, hn0, hn8⟩ : ∃ p : Nat, wf % 8 = (p : Int) ∧ p < 8 := ⟨(wf % 8).toNat, by omega, by omega⟩
  obtain ⟨n, hn⟩ : ∃ n, n = 1 + n0 := ⟨_, rfl⟩
  refine OG.yield (Yield.rem (c := (n0 : Int)) rfl rfl (by decide) (by rw [← hn0]; exact tmod_pos (by omega) (by omega))) rfl ?_
  refine OG.yield (by first | exact Yield.conv Try.underlying3 rfl rfl (w64 (by omega) (by omega)) | exact Yield.conv Try.underlying3 rfl rfl rfl) rfl ?_
  refine OG.yield (Yield.add (c := (n : Int)) rfl rfl (by rw [w64 (by omega) (by omega)]; omega)) rfl ?_
  refine OG.yield (Yield.assign rfl) rfl ?_
  refine OG.nil ?_
  refine QG.then ?_
  refine CG.seq ?_
  refine CG.region ?_
  refine OG.yield (Yield.move rfl) rfl ?_
  refine OG.callo call10 rfl (Imp.refl _) (Me.new_spec W _ (n := n) (by omega) (by omega)) rfl ?_
  rintro m -
  refine OG.yield (Yield.move rfl) rfl ?_
  refine OG.yield (Yield.extract rfl rfl) rfl ?_
  refine OG.yield (Yield.extract rfl rfl) rfl ?_
  refine OG.yield (Yield.assign rfl) rfl ?_
  refine OG.yield (Yield.assign rfl) rfl ?_
  refine OG.nil ?_
  refine QG.then ?_
  refine CG.seq ?_
  refine CG.region ?_
  refine OG.yield (Yield.move rfl) rfl ?_
  refine OG.callo call15 rfl ((by repeat (first | exact Imp.refl _ | exact Imp.none _ | apply Imp.pull (by repeat (first | exact Ext.here | apply Ext.there)) | apply Imp.trans Imp.drop))) (rnew_spec W _ (n := n) (by omega) (by omega)) rfl ?_
  rintro r -
  refine OG.yield (Yield.move rfl) rfl ?_
  refine OG.yield (Yield.extract rfl rfl) rfl ?_
  refine OG.yield (Yield.extract rfl rfl) rfl ?_
  refine OG.yield (Yield.assign rfl) rfl ?_
  refine OG.yield (Yield.assign rfl) rfl ?_
  refine OG.nil ?_
  refine QG.then ?_
  refine CG.seq ?_
  refine CG.seq ?_
  refine CG.region ?_
  refine OG.yield (Yield.move rfl) rfl ?_
  refine OG.yield (Yield.move rfl) rfl ?_
  refine OG.yield (by first | exact Yield.as (Yield.neq rfl rfl) (bT (by omega)) | exact Yield.as (Yield.neq rfl rfl) (bF (by omega)) | exact Yield.neq rfl rfl) rfl ?_
  refine OG.yield (Yield.move rfl) rfl ?_
  refine OG.guard_yes rfl rfl rfl (by decide) ?_
  refine OG.yield (Yield.move rfl) rfl ?_
  refine OG.guard_yes rfl rfl rfl (by decide) ?_
  refine OG.yield (by first | exact Yield.ptr_nil Try.underlying24 rfl rfl | exact Yield.nil_nil Try.underlying24 rfl rfl) rfl ?_
  refine OG.yield (by first | exact Yield.pick_t rfl rfl | exact Yield.pick_f rfl rfl | exact Yield.pick rfl (fun _ => rfl) (fun _ => rfl)) rfl ?_
  refine OG.yield (Yield.move rfl) rfl ?_
  refine OG.guard_yes rfl rfl rfl (by decide) ?_
  refine OG.yield (Yield.move rfl) rfl ?_
  refine OG.guard_yes rfl rfl rfl (by decide) ?_
  refine OG.yield (by first | exact Yield.ptr_nil Try.underlying49 rfl rfl | exact Yield.nil_nil Try.underlying49 rfl rfl) rfl ?_
  refine OG.yield (by first | exact Yield.pick_t rfl rfl | exact Yield.pick_f rfl rfl | exact Yield.pick rfl (fun _ => rfl) (fun _ => rfl)) rfl ?_
  refine OG.nil ?_
  refine QG.then ?_
  refine CG.cond_f rfl ?_
  refine CG.skip ?_
  refine QG.then ?_
  refine CG.cut (fun s : List UInt8 => s.length = n * 256) (fun s => [(2, .int .i64 stop), (7, .pointer (some ⟨m, 0, none⟩)), (9, .pointer (some ⟨r, 0, none⟩))]) (fun s => [M m n s, RM r n s, old W]) ?_ ?_
  · skip
    refine CG.seq ?_
    refine CG.region ?_
    refine OG.yield (Yield.assign rfl) rfl ?_
    refine OG.nil ?_
    refine QG.then ?_
    refine CG.block ?_
    refine CG.loop (fun s : PS => s.1 ≤ ops.length ∧ s.2.length = n * 256) (fun s => [(1, .slice a0 ops.length c0), (2, .int .i64 stop), (7, .pointer (some ⟨m, 0, none⟩)), (9, .pointer (some ⟨r, 0, none⟩)), (11, .int .i64 s.1)]) (fun s => [M m n s.2, RM r n s.2, old W]) (fun s => ops.length - s.1) (0, List.replicate (n * 256) 0) ⟨Nat.zero_le _, by simp⟩ (by repeat (first | exact Env.sub_nil _ | refine Env.sub_cons rfl ?_)) (by repeat (first | exact Imp.refl _ | exact Imp.none _ | apply Imp.pull (by repeat (first | exact Ext.here | apply Ext.there)) | apply Imp.trans Imp.drop)) ?_
    rintro ⟨i, bs⟩ ⟨hi, hl⟩
    dsimp only at hi hl ⊢
    refine CG.seq ?_
    refine CG.seq ?_
    rcases loop_head (i) (ops.length) 60 with hh | hh | hh
    · skip
      refine CG.region ?_
      refine OG.yield (Yield.move rfl) rfl ?_
      refine OG.yield (Yield.move rfl) rfl ?_
      refine OG.yield (Yield.len_slice Try.underlying22 rfl rfl) rfl ?_
      refine OG.yield (by first | exact Yield.as (Yield.lss rfl rfl) (bT (by omega)) | exact Yield.as (Yield.lss rfl rfl) (bF (by omega)) | exact Yield.lss rfl rfl) rfl ?_
      refine OG.yield (Yield.move rfl) rfl ?_
      refine OG.guard_yes rfl rfl rfl (by decide) ?_
      refine OG.yield (Yield.move rfl) rfl ?_
      refine OG.guard_yes rfl rfl rfl (by decide) ?_
      refine OG.yield (by first | exact Yield.as (Yield.lss rfl rfl) (bT (by omega)) | exact Yield.as (Yield.lss rfl rfl) (bF (by omega)) | exact Yield.lss rfl rfl) rfl ?_
      refine OG.yield (by first | exact Yield.pick_t rfl rfl | exact Yield.pick_f rfl rfl | exact Yield.pick rfl (fun _ => rfl) (fun _ => rfl)) rfl ?_
      refine OG.nil ?_
      refine QG.then ?_
      refine CG.cond_t rfl ?_
      refine CG.skip ?_
      refine QG.then ?_
      refine CG.seq ?_
      refine CG.block ?_
      refine CG.seq ?_
      obtain ⟨h1, h2⟩ := hh
      have hget : ops[i]? = some ops[i] := by simp [h1]
      have hko := hok ops[i] (List.getElem_mem h1)
      generalize ops[i] = op at hget hko
      refine CG.pure (fun w hw => (hops.old (G := [M m n bs, RM r n bs, old W]) (by repeat (first | exact Ext.here | apply Ext.there))).elem_shape POp.len (by decide) h1 w hw) ?_
      rintro ⟨b, o, rfl⟩
      have hrow : ∀ {G R : List HProp}, Ext G (old W) R → Row W G b (o + i * 8) op.cells := fun x => (hops.old x).elem POp.len hget
      obtain ⟨hA0, hA1⟩ := wf_u32 hko.Addr
      obtain ⟨hV0, hV1⟩ := wf_u32 hko.V
      obtain ⟨v, hv⟩ : ∃ v : Nat, op.V = (v : Int) := ⟨op.V.toNat, by omega⟩
      obtain ⟨ad, had⟩ : ∃ v : Nat, op.Addr = (v : Int) := ⟨op.Addr.toNat, by omega⟩
      refine CG.region ?_
      refine OG.yield (Yield.move rfl) rfl ?_
      refine OG.yield (Yield.move rfl) rfl ?_
      refine OG.yield (Yield.index_slice Try.underlying22 ti34 rfl rfl (by omega) (by omega)) rfl ?_
      refine OG.yield (Yield.load_agg (vs := op.cells) ti34 rfl (POp.len _) (hrow (by repeat (first | exact Ext.here | apply Ext.there)))) rfl ?_
      refine OG.effd (Eff.alloc ti34) rfl ?_
      rintro b12 -
      refine OG.eff (Eff.storeAll ti34 rfl rfl (by repeat (first | exact Foc.here | apply Foc.there)) rfl (by simp [POp.cells, one]) (by first | rfl | simp)) rfl ?_
      rintro ⟨⟩ -
      refine OG.nil ?_
      refine QG.then ?_
      refine CG.cut (fun s : List UInt8 => s.length = n * 256) (fun s => [(1, .slice (some ⟨b, o, none⟩) ops.length c0), (2, .int .i64 stop), (7, .pointer (some ⟨m, 0, none⟩)), (9, .pointer (some ⟨r, 0, none⟩)), (11, .int .i64 i), (12, .pointer (some ⟨b12, 0, none⟩))]) (fun s => [blk b12 op.cells 34, M m n s, RM r n s, old W]) ?_ ?_
      · skip
        refine CG.seq ?_
        have hn1 : bs.length = n * 256 ∧ 1 ≤ n ∧ n ≤ 1024 := ⟨hl, by omega, by omega⟩
        refine CG.region ?_
        refine OG.yield (Yield.fieldAddr fa34_0 rfl) rfl ?_
        refine OG.yield (Yield.load (v := .int .i64 op.Kind) ti3 rfl (Cel.of_blk (by repeat (first | exact Ext.here | apply Ext.there)) rfl)) rfl ?_
        refine OG.nil ?_
        refine QG.then ?_
        refine CG.block ?_
        refine CG.seq ?_
        refine CG.region ?_
        refine OG.yield (by first | exact Yield.as (Yield.eql rfl rfl) (bT (by omega)) | exact Yield.as (Yield.eql rfl rfl) (bF (by omega)) | exact Yield.eql rfl rfl) rfl ?_
        refine OG.yield (Yield.assign rfl) rfl ?_
        refine OG.nil ?_
        refine QG.then ?_
        refine CG.cond rfl (fun hc => ?_) (fun hc => ?_)
        · try replace hc := of_decide_eq_true hc
          refine CG.seq ?_
          refine CG.region ?_
          refine OG.yield (Yield.move rfl) rfl ?_
          refine OG.yield (Yield.fieldAddr fa34_1 rfl) rfl ?_
          refine OG.yield (Yield.load ti3 rfl (by first | exact Cel.of_blk (by repeat (first | exact Ext.here | apply Ext.there)) rfl | exact (hrow (by repeat (first | exact Ext.here | apply Ext.there))) _ _ rfl)) rfl ?_
          refine OG.yield (Yield.fieldAddr fa34_2 rfl) rfl ?_
          refine OG.yield (Yield.fieldAddr fa31_0 rfl) rfl ?_
          refine OG.yield (Yield.load ti3 rfl (by first | exact Cel.of_blk (by repeat (first | exact Ext.here | apply Ext.there)) rfl | exact (hrow (by repeat (first | exact Ext.here | apply Ext.there))) _ _ rfl)) rfl ?_
          refine OG.yield (Yield.fieldAddr fa34_2 rfl) rfl ?_
          refine OG.yield (Yield.fieldAddr fa31_1 rfl) rfl ?_
          refine OG.yield (Yield.load ti3 rfl (by first | exact Cel.of_blk (by repeat (first | exact Ext.here | apply Ext.there)) rfl | exact (hrow (by repeat (first | exact Ext.here | apply Ext.there))) _ _ rfl)) rfl ?_
          refine OG.yield (Yield.fieldAddr fa34_2 rfl) rfl ?_
          refine OG.yield (Yield.fieldAddr fa31_2 rfl) rfl ?_
          refine OG.yield (Yield.load ti3 rfl (by first | exact Cel.of_blk (by repeat (first | exact Ext.here | apply Ext.there)) rfl | exact (hrow (by repeat (first | exact Ext.here | apply Ext.there))) _ _ rfl)) rfl ?_
          refine OG.yield (Yield.fieldAddr fa34_2 rfl) rfl ?_
          refine OG.yield (Yield.fieldAddr fa31_3 rfl) rfl ?_
          refine OG.yield (Yield.load ti3 rfl (by first | exact Cel.of_blk (by repeat (first | exact Ext.here | apply Ext.there)) rfl | exact (hrow (by repeat (first | exact Ext.here | apply Ext.there))) _ _ rfl)) rfl ?_
          refine OG.callo call12 rfl ((by repeat (first | exact Imp.refl _ | exact Imp.none _ | apply Imp.pull (by repeat (first | exact Ext.here | apply Ext.there)) | apply Imp.trans Imp.drop))) (set_x W _ (m := m) (n := n) (bs := bs) (root := op.Root) (p := op.Put_Page) (f := op.Put_Frame) (pm := op.Put_Perm) (spare := op.Put_Spare)) rfl ?_
          rintro ⟨⟩ -
          refine OG.yield (Yield.move rfl) rfl ?_
          refine OG.yield (Yield.extract rfl rfl) rfl ?_
          refine OG.yield (Yield.extract rfl rfl) rfl ?_
          refine OG.yield (Yield.assign rfl) rfl ?_
          refine OG.yield (Yield.assign rfl) rfl ?_
          refine OG.nil ?_
          refine QG.then ?_
          refine CG.seq ?_
          refine CG.region ?_
          refine OG.yield (Yield.move rfl) rfl ?_
          refine OG.yield (Yield.fieldAddr fa34_1 rfl) rfl ?_
          refine OG.yield (Yield.load ti3 rfl (by first | exact Cel.of_blk (by repeat (first | exact Ext.here | apply Ext.there)) rfl | exact (hrow (by repeat (first | exact Ext.here | apply Ext.there))) _ _ rfl)) rfl ?_
          refine OG.yield (Yield.fieldAddr fa34_2 rfl) rfl ?_
          refine OG.yield (Yield.load_agg (vs := [.int .i64 op.Put_Page, .int .i64 op.Put_Frame, .int .i64 op.Put_Perm, .int .i64 op.Put_Spare]) ti31 rfl rfl (Row.of_blk (b := b12) (by repeat (first | exact Ext.here | apply Ext.there)) rfl)) rfl ?_
          refine OG.callo call16 rfl ((by repeat (first | exact Imp.refl _ | exact Imp.none _ | apply Imp.pull (by repeat (first | exact Ext.here | apply Ext.there)) | apply Imp.trans Imp.drop))) (rset_x W _ (m := r) (n := n) (bs := bs) (root := op.Root) (p := op.Put_Page) (f := op.Put_Frame) (pm := op.Put_Perm) (spare := op.Put_Spare) hn1) rfl ?_
          rintro ⟨⟩ -
          refine OG.yield (Yield.move rfl) rfl ?_
          refine OG.yield (Yield.extract rfl rfl) rfl ?_
          refine OG.yield (Yield.extract rfl rfl) rfl ?_
          refine OG.yield (Yield.assign rfl) rfl ?_
          refine OG.yield (Yield.assign rfl) rfl ?_
          refine OG.nil ?_
          refine QG.then ?_
          refine CG.seq ?_
          refine CG.region ?_
          refine OG.yield (Yield.move rfl) rfl ?_
          refine OG.yield (Yield.move rfl) rfl ?_
          refine OG.yield (Yield.as (Yield.bool_neq Try.underlying4 rfl rfl) (v' := .bool false) (by simp)) rfl ?_
          refine OG.yield (Yield.move rfl) rfl ?_
          refine OG.guard_yes rfl rfl rfl (by decide) ?_
          refine OG.yield (Yield.move rfl) rfl ?_
          refine OG.guard_yes rfl rfl rfl (by decide) ?_
          refine OG.yield (Yield.move rfl) rfl ?_
          refine OG.guard_yes rfl rfl rfl (by decide) ?_
          refine OG.yield (by first | exact Yield.as (Yield.neq rfl rfl) (bT (by omega)) | exact Yield.as (Yield.neq rfl rfl) (bF (by omega)) | exact Yield.neq rfl rfl) rfl ?_
          refine OG.yield (by first | exact Yield.pick_t rfl rfl | exact Yield.pick_f rfl rfl | exact Yield.pick rfl (fun _ => rfl) (fun _ => rfl)) rfl ?_
          refine OG.nil ?_
          refine QG.then ?_
          refine CG.cond_f rfl ?_
          refine CG.skip ?_
          refine QG.block_normal ?_
          exact QG.mid _ (setX_len hl) (by repeat (first | exact Env.sub_nil _ | refine Env.sub_cons rfl ?_)) (by repeat (first | exact Imp.refl _ | exact Imp.none _ | apply Imp.pull (by repeat (first | exact Ext.here | apply Ext.there)) | apply Imp.trans Imp.drop))
        · try replace hc := of_decide_eq_false hc
          refine CG.seq ?_
          refine CG.region ?_
          refine OG.yield (by first | exact Yield.as (Yield.eql rfl rfl) (bT (by omega)) | exact Yield.as (Yield.eql rfl rfl) (bF (by omega)) | exact Yield.eql rfl rfl) rfl ?_
          refine OG.yield (Yield.assign rfl) rfl ?_
          refine OG.nil ?_
          refine QG.then ?_
          refine CG.cond rfl (fun hc => ?_) (fun hc => ?_)
          · try replace hc := of_decide_eq_true hc
            refine CG.seq ?_
            refine CG.draw (.look 0 1 (.look 1 1 (.look 2 1 (.look 3 1 (.look 4 1 (.look 5 1 (.look 7 0 (.look 8 0 (.look 9 0 (.look 10 0 (.look 11 0 (.look 12 0 (.eff1 6 false (.eff1 13 false (.look 14 1 (.done)))))))))))))))) [6, 13] [] ([blk b12 op.cells 34]) ([]) mixed (by kernel_rfl) (by repeat (first | exact Imp.refl _ | exact Imp.none _ | apply Imp.pull (by repeat (first | exact Ext.here | apply Ext.there)) | apply Imp.trans Imp.drop)) (Imp.none _) ?_
            refine DG.look rfl rfl (Yield.move rfl) rfl ?_
            refine DG.look rfl rfl (Yield.fieldAddr fa34_1 rfl) rfl ?_
            refine DG.look rfl rfl (Yield.load ti3 rfl (by first | exact Cel.of_blk (by repeat (first | exact Ext.here | apply Ext.there)) rfl | exact (hrow (by repeat (first | exact Ext.here | apply Ext.there))) _ _ rfl)) rfl ?_
            refine DG.look rfl rfl (Yield.fieldAddr fa34_2 rfl) rfl ?_
            refine DG.look rfl rfl (Yield.fieldAddr fa31_0 rfl) rfl ?_
            refine DG.look rfl rfl (Yield.load ti3 rfl (by first | exact Cel.of_blk (by repeat (first | exact Ext.here | apply Ext.there)) rfl | exact (hrow (by repeat (first | exact Ext.here | apply Ext.there))) _ _ rfl)) rfl ?_
            refine DG.look rfl rfl (Yield.move rfl) rfl ?_
            refine DG.look rfl rfl (Yield.fieldAddr fa34_1 rfl) rfl ?_
            refine DG.look rfl rfl (Yield.load ti3 rfl (by first | exact Cel.of_blk (by repeat (first | exact Ext.here | apply Ext.there)) rfl | exact (hrow (by repeat (first | exact Ext.here | apply Ext.there))) _ _ rfl)) rfl ?_
            refine DG.look rfl rfl (Yield.fieldAddr fa34_2 rfl) rfl ?_
            refine DG.look rfl rfl (Yield.fieldAddr fa31_0 rfl) rfl ?_
            refine DG.look rfl rfl (Yield.load ti3 rfl (by first | exact Cel.of_blk (by repeat (first | exact Ext.here | apply Ext.there)) rfl | exact (hrow (by repeat (first | exact Ext.here | apply Ext.there))) _ _ rfl)) rfl ?_
            refine DG.eff1 ?_
            refine Chg.callo rfl rfl call11 rfl ((by repeat (first | exact Imp.refl _ | exact Imp.none _ | apply Imp.pull (by repeat (first | exact Ext.here | apply Ext.there)) | apply Imp.trans Imp.drop))) (clear_x W _ (m := m) (n := n) (bs := bs) (root := op.Root) (p := op.Put_Page)) rfl (fun _ => (by repeat (first | exact Imp.refl _ | exact Imp.none _ | apply Imp.pull (by repeat (first | exact Ext.here | apply Ext.there)) | apply Imp.trans Imp.drop))) (fun _ => Imp.refl _) (fun _ => (by repeat (first | exact Imp.refl _ | exact Imp.none _ | apply Imp.pull (by repeat (first | exact Ext.here | apply Ext.there)) | apply Imp.trans Imp.drop))) ?_
            rintro ⟨⟩ -
            refine DG.eff1 ?_
            refine Chg.callo rfl rfl call17 rfl ((by repeat (first | exact Imp.refl _ | exact Imp.none _ | apply Imp.pull (by repeat (first | exact Ext.here | apply Ext.there)) | apply Imp.trans Imp.drop))) (rclear_x W _ (m := r) (n := n) (bs := bs) (root := op.Root) (p := op.Put_Page) hn1) rfl (fun _ => (by repeat (first | exact Imp.refl _ | exact Imp.none _ | apply Imp.pull (by repeat (first | exact Ext.here | apply Ext.there)) | apply Imp.trans Imp.drop))) (fun _ => Imp.refl _) (fun _ => (by repeat (first | exact Imp.refl _ | exact Imp.none _ | apply Imp.pull (by repeat (first | exact Ext.here | apply Ext.there)) | apply Imp.trans Imp.drop))) ?_
            rintro ⟨⟩ -
            refine DG.look rfl rfl (by first | exact Yield.as (Yield.neq rfl rfl) (bT (by omega)) | exact Yield.as (Yield.neq rfl rfl) (bF (by omega)) | exact Yield.neq rfl rfl) rfl ?_
            refine DG.done ?_
            refine QG.then ?_
            refine CG.cond_f rfl ?_
            refine CG.skip ?_
            refine QG.block_normal ?_
            exact QG.mid _ (clearX_len hl) (by repeat (first | exact Env.sub_nil _ | refine Env.sub_cons rfl ?_)) (by repeat (first | exact Imp.refl _ | exact Imp.none _ | apply Imp.pull (by repeat (first | exact Ext.here | apply Ext.there)) | apply Imp.trans Imp.drop))
          · try replace hc := of_decide_eq_false hc
            refine CG.seq ?_
            refine CG.region ?_
            refine OG.yield (by first | exact Yield.as (Yield.eql rfl rfl) (bT (by omega)) | exact Yield.as (Yield.eql rfl rfl) (bF (by omega)) | exact Yield.eql rfl rfl) rfl ?_
            refine OG.yield (Yield.assign rfl) rfl ?_
            refine OG.nil ?_
            refine QG.then ?_
            refine CG.cond rfl (fun hc => ?_) (fun hc => ?_)
            · try replace hc := of_decide_eq_true hc
              refine CG.seq ?_
              refine CG.region ?_
              refine OG.yield (Yield.move rfl) rfl ?_
              refine OG.yield (Yield.fieldAddr fa34_1 rfl) rfl ?_
              refine OG.yield (Yield.load ti3 rfl (by first | exact Cel.of_blk (by repeat (first | exact Ext.here | apply Ext.there)) rfl | exact (hrow (by repeat (first | exact Ext.here | apply Ext.there))) _ _ rfl)) rfl ?_
              refine OG.yield (Yield.fieldAddr fa34_2 rfl) rfl ?_
              refine OG.yield (Yield.fieldAddr fa31_0 rfl) rfl ?_
              refine OG.yield (Yield.load ti3 rfl (by first | exact Cel.of_blk (by repeat (first | exact Ext.here | apply Ext.there)) rfl | exact (hrow (by repeat (first | exact Ext.here | apply Ext.there))) _ _ rfl)) rfl ?_
              refine OG.callo call13 rfl ((by repeat (first | exact Imp.refl _ | exact Imp.none _ | apply Imp.pull (by repeat (first | exact Ext.here | apply Ext.there)) | apply Imp.trans Imp.drop))) (walk_x W _ (m := m) (n := n) (bs := bs) (root := op.Root) (p := op.Put_Page)) rfl ?_
              rintro ⟨⟩ -
              refine OG.yield (Yield.move rfl) rfl ?_
              refine OG.yield (Yield.extract rfl rfl) rfl ?_
              refine OG.yield (Yield.extract rfl rfl) rfl ?_
              refine OG.yield (Yield.extract rfl rfl) rfl ?_
              refine OG.yield (Yield.assign rfl) rfl ?_
              refine OG.yield (Yield.assign rfl) rfl ?_
              refine OG.yield (Yield.assign rfl) rfl ?_
              refine OG.nil ?_
              refine QG.then ?_
              refine CG.seq ?_
              refine CG.region ?_
              refine OG.yield (Yield.move rfl) rfl ?_
              refine OG.yield (Yield.fieldAddr fa34_1 rfl) rfl ?_
              refine OG.yield (Yield.load ti3 rfl (by first | exact Cel.of_blk (by repeat (first | exact Ext.here | apply Ext.there)) rfl | exact (hrow (by repeat (first | exact Ext.here | apply Ext.there))) _ _ rfl)) rfl ?_
              refine OG.yield (Yield.fieldAddr fa34_2 rfl) rfl ?_
              refine OG.yield (Yield.fieldAddr fa31_0 rfl) rfl ?_
              refine OG.yield (Yield.load ti3 rfl (by first | exact Cel.of_blk (by repeat (first | exact Ext.here | apply Ext.there)) rfl | exact (hrow (by repeat (first | exact Ext.here | apply Ext.there))) _ _ rfl)) rfl ?_
              refine OG.callo call18 rfl ((by repeat (first | exact Imp.refl _ | exact Imp.none _ | apply Imp.pull (by repeat (first | exact Ext.here | apply Ext.there)) | apply Imp.trans Imp.drop))) (rwalk_x W _ (m := r) (n := n) (bs := bs) (root := op.Root) (p := op.Put_Page) hn1) rfl ?_
              rintro ⟨⟩ -
              refine OG.yield (Yield.move rfl) rfl ?_
              refine OG.yield (Yield.extract rfl rfl) rfl ?_
              refine OG.yield (Yield.extract rfl rfl) rfl ?_
              refine OG.yield (Yield.extract rfl rfl) rfl ?_
              refine OG.yield (Yield.assign rfl) rfl ?_
              refine OG.yield (Yield.assign rfl) rfl ?_
              refine OG.yield (Yield.assign rfl) rfl ?_
              refine OG.nil ?_
              refine QG.then ?_
              refine CG.seq ?_
              refine CG.region ?_
              refine OG.yield (Yield.move rfl) rfl ?_
              refine OG.yield (Yield.move rfl) rfl ?_
              refine OG.yield (by first | exact Yield.as (Yield.neq rfl rfl) (bT (by omega)) | exact Yield.as (Yield.neq rfl rfl) (bF (by omega)) | exact Yield.neq rfl rfl) rfl ?_
              refine OG.yield (Yield.move rfl) rfl ?_
              refine OG.guard_yes rfl rfl rfl (by decide) ?_
              refine OG.yield (Yield.move rfl) rfl ?_
              refine OG.guard_yes rfl rfl rfl (by decide) ?_
              refine OG.yield (Yield.move rfl) rfl ?_
              refine OG.guard_yes rfl rfl rfl (by decide) ?_
              refine OG.yield (by first | exact Yield.as (Yield.neq rfl rfl) (bT (by omega)) | exact Yield.as (Yield.neq rfl rfl) (bF (by omega)) | exact Yield.neq rfl rfl) rfl ?_
              refine OG.yield (by first | exact Yield.pick_t rfl rfl | exact Yield.pick_f rfl rfl | exact Yield.pick rfl (fun _ => rfl) (fun _ => rfl)) rfl ?_
              refine OG.yield (Yield.move rfl) rfl ?_
              refine OG.guard_yes rfl rfl rfl (by decide) ?_
              refine OG.yield (Yield.move rfl) rfl ?_
              refine OG.guard_yes rfl rfl rfl (by decide) ?_
              refine OG.yield (Yield.move rfl) rfl ?_
              refine OG.guard_yes rfl rfl rfl (by decide) ?_
              refine OG.yield (by first | exact Yield.as (Yield.neq rfl rfl) (bT (by omega)) | exact Yield.as (Yield.neq rfl rfl) (bF (by omega)) | exact Yield.neq rfl rfl) rfl ?_
              refine OG.yield (by first | exact Yield.pick_t rfl rfl | exact Yield.pick_f rfl rfl | exact Yield.pick rfl (fun _ => rfl) (fun _ => rfl)) rfl ?_
              refine OG.nil ?_
              refine QG.then ?_
              refine CG.cond_f rfl ?_
              refine CG.skip ?_
              refine QG.block_normal ?_
              exact QG.mid _ hl (by repeat (first | exact Env.sub_nil _ | refine Env.sub_cons rfl ?_)) (by repeat (first | exact Imp.refl _ | exact Imp.none _ | apply Imp.pull (by repeat (first | exact Ext.here | apply Ext.there)) | apply Imp.trans Imp.drop))
            · try replace hc := of_decide_eq_false hc
              refine CG.seq ?_
              refine CG.draw (.look 0 1 (.look 1 1 (.look 2 1 (.look 3 1 (.look 4 1 (.look 5 1 (.look 7 0 (.look 8 0 (.look 9 0 (.look 10 0 (.look 11 0 (.look 12 0 (.eff1 6 false (.eff1 13 false (.look 14 1 (.done)))))))))))))))) [6, 13] [] ([blk b12 op.cells 34]) ([]) mixed (by kernel_rfl) (by repeat (first | exact Imp.refl _ | exact Imp.none _ | apply Imp.pull (by repeat (first | exact Ext.here | apply Ext.there)) | apply Imp.trans Imp.drop)) (Imp.none _) ?_
              refine DG.look rfl rfl (Yield.move rfl) rfl ?_
              refine DG.look rfl rfl (Yield.fieldAddr fa34_3 rfl) rfl ?_
              refine DG.look rfl rfl (Yield.as (Yield.load (v := .int .u32 op.Addr) ti32 rfl (Cel.of_blk (by repeat (first | exact Ext.here | apply Ext.there)) rfl)) (v' := .int .u32 ad) (by rw [had])) rfl ?_
              refine DG.look rfl rfl (Yield.fieldAddr fa34_4 rfl) rfl ?_
              refine DG.look rfl rfl (Yield.as (Yield.load (v := .int .u32 op.V) ti32 rfl (Cel.of_blk (by repeat (first | exact Ext.here | apply Ext.there)) rfl)) (v' := .int .u32 v) (by rw [hv])) rfl ?_
              refine DG.look rfl rfl (Yield.conv (c := (v : Int)) Try.underlying29 rfl rfl (wu64 (by omega) (by omega))) rfl ?_
              refine DG.look rfl rfl (Yield.move rfl) rfl ?_
              refine DG.look rfl rfl (Yield.fieldAddr fa34_3 rfl) rfl ?_
              refine DG.look rfl rfl (Yield.as (Yield.load (v := .int .u32 op.Addr) ti32 rfl (Cel.of_blk (by repeat (first | exact Ext.here | apply Ext.there)) rfl)) (v' := .int .u32 ad) (by rw [had])) rfl ?_
              refine DG.look rfl rfl (Yield.fieldAddr fa34_4 rfl) rfl ?_
              refine DG.look rfl rfl (Yield.as (Yield.load (v := .int .u32 op.V) ti32 rfl (Cel.of_blk (by repeat (first | exact Ext.here | apply Ext.there)) rfl)) (v' := .int .u32 v) (by rw [hv])) rfl ?_
              refine DG.look rfl rfl (Yield.conv (c := (v : Int)) Try.underlying29 rfl rfl (wu64 (by omega) (by omega))) rfl ?_
              refine DG.eff1 ?_
              refine Chg.callo rfl rfl call19 rfl ((by repeat (first | exact Imp.refl _ | exact Imp.none _ | apply Imp.pull (by repeat (first | exact Ext.here | apply Ext.there)) | apply Imp.trans Imp.drop))) (store_x W _ (m := m) (n := n) (bs := bs) (a := ad) (v := v) (by omega) (by omega)) rfl (fun _ => (by repeat (first | exact Imp.refl _ | exact Imp.none _ | apply Imp.pull (by repeat (first | exact Ext.here | apply Ext.there)) | apply Imp.trans Imp.drop))) (fun _ => Imp.refl _) (fun _ => (by repeat (first | exact Imp.refl _ | exact Imp.none _ | apply Imp.pull (by repeat (first | exact Ext.here | apply Ext.there)) | apply Imp.trans Imp.drop))) ?_
              rintro ⟨⟩ -
              refine DG.eff1 ?_
              refine Chg.callo rfl rfl call20 rfl ((by repeat (first | exact Imp.refl _ | exact Imp.none _ | apply Imp.pull (by repeat (first | exact Ext.here | apply Ext.there)) | apply Imp.trans Imp.drop))) (rstore_x W _ (m := r) (n := n) (bs := bs) (a := ad) (v := v) (by omega) (by omega)) rfl (fun _ => (by repeat (first | exact Imp.refl _ | exact Imp.none _ | apply Imp.pull (by repeat (first | exact Ext.here | apply Ext.there)) | apply Imp.trans Imp.drop))) (fun _ => Imp.refl _) (fun _ => (by repeat (first | exact Imp.refl _ | exact Imp.none _ | apply Imp.pull (by repeat (first | exact Ext.here | apply Ext.there)) | apply Imp.trans Imp.drop))) ?_
              rintro ⟨⟩ -
              refine DG.look rfl rfl (by first | exact Yield.as (Yield.neq rfl rfl) (bT (by omega)) | exact Yield.as (Yield.neq rfl rfl) (bF (by omega)) | exact Yield.neq rfl rfl) rfl ?_
              refine DG.done ?_
              refine QG.then ?_
              refine CG.cond_f rfl ?_
              refine CG.skip ?_
              refine QG.block_normal ?_
              exact QG.mid _ (storeX_len hl) (by repeat (first | exact Env.sub_nil _ | refine Env.sub_cons rfl ?_)) (by repeat (first | exact Imp.refl _ | exact Imp.none _ | apply Imp.pull (by repeat (first | exact Ext.here | apply Ext.there)) | apply Imp.trans Imp.drop))
      rintro cs hlc
      refine CG.seq ?_
      rcases (show i % 8 = 7 ∨ i % 8 ≠ 7 by omega) with h7 | h7
      · skip
        refine CG.region ?_
        refine OG.yield (Yield.move rfl) rfl ?_
        refine OG.yield (Yield.rem (c := ((i % 8 : Nat) : Int)) rfl rfl (by decide) (tmod_nat i 8 (by decide))) rfl ?_
        refine OG.yield (by first | exact Yield.as (Yield.eql rfl rfl) (bT (by omega)) | exact Yield.as (Yield.eql rfl rfl) (bF (by omega)) | exact Yield.eql rfl rfl) rfl ?_
        refine OG.yield (Yield.move rfl) rfl ?_
        refine OG.guard_yes rfl rfl rfl (by decide) ?_
        refine OG.yield (Yield.move rfl) rfl ?_
        refine OG.guard_yes rfl rfl rfl (by decide) ?_
        refine OG.yield (Yield.move rfl) rfl ?_
        refine OG.guard_yes rfl rfl rfl (by decide) ?_
        refine OG.yield (Yield.fieldAddr fa34_1 rfl) rfl ?_
        refine OG.guard_yes rfl rfl rfl (by decide) ?_
        refine OG.yield (Yield.load (v := .int .i64 op.Root) ti3 rfl (Cel.of_blk (by repeat (first | exact Ext.here | apply Ext.there)) rfl)) rfl ?_
        refine OG.guard_yes rfl rfl rfl (by decide) ?_
        refine OG.yield (Yield.move rfl) rfl ?_
        refine OG.guard_yes rfl rfl rfl (by decide) ?_
        refine OG.callo call21 rfl ((by repeat (first | exact Imp.refl _ | exact Imp.none _ | apply Imp.pull (by repeat (first | exact Ext.here | apply Ext.there)) | apply Imp.trans Imp.drop))) (seen_spec W _ (m := m) (r := r) (n := n) (bs := cs) (root := op.Root) (stop := stop) ⟨hlc, by omega, by omega⟩ hst) rfl ?_
        rintro ⟨⟩ -
        refine OG.guard_yes rfl rfl rfl (by decide) ?_
        refine OG.yield (Yield.not rfl) rfl ?_
        refine OG.yield (by first | exact Yield.pick_t rfl rfl | exact Yield.pick_f rfl rfl | exact Yield.pick rfl (fun _ => rfl) (fun _ => rfl)) rfl ?_
        refine OG.nil ?_
        refine QG.then ?_
        refine CG.cond_f rfl ?_
        refine CG.skip ?_
        refine QG.block_normal ?_
        refine QG.then ?_
        refine CG.region ?_
        refine OG.yield (Yield.move rfl) rfl ?_
        refine OG.yield (Yield.add rfl rfl (w64 (by omega) (by omega))) rfl ?_
        refine OG.yield (Yield.assign rfl) rfl ?_
        refine OG.nil ?_
        exact QG.next (i + 1, cs) ⟨h1, hlc⟩ (by simp only; omega) (by repeat (first | exact Env.sub_nil _ | refine Env.sub_cons rfl ?_)) (by repeat (first | exact Imp.refl _ | exact Imp.none _ | apply Imp.pull (by repeat (first | exact Ext.here | apply Ext.there)) | apply Imp.trans Imp.drop))
      · skip
        refine CG.region ?_
        refine OG.yield (Yield.move rfl) rfl ?_
        refine OG.yield (Yield.rem (c := ((i % 8 : Nat) : Int)) rfl rfl (by decide) (tmod_nat i 8 (by decide))) rfl ?_
        refine OG.yield (by first | exact Yield.as (Yield.eql rfl rfl) (bT (by omega)) | exact Yield.as (Yield.eql rfl rfl) (bF (by omega)) | exact Yield.eql rfl rfl) rfl ?_
        refine OG.yield (Yield.move rfl) rfl ?_
        refine OG.guard_no rfl rfl rfl rfl rfl (by decide) (by decide) ?_
        refine OG.guard_no rfl rfl rfl rfl rfl (by decide) (by decide) ?_
        refine OG.guard_no rfl rfl rfl rfl rfl (by decide) (by decide) ?_
        refine OG.guard_no rfl rfl rfl rfl rfl (by decide) (by decide) ?_
        refine OG.guard_no rfl rfl rfl rfl rfl (by decide) (by decide) ?_
        refine OG.guard_no rfl rfl rfl rfl rfl (by decide) (by decide) ?_
        refine OG.guard_no rfl rfl rfl rfl rfl (by decide) (by decide) ?_
        refine OG.yield (by first | exact Yield.pick_t rfl rfl | exact Yield.pick_f rfl rfl | exact Yield.pick rfl (fun _ => rfl) (fun _ => rfl)) rfl ?_
        refine OG.nil ?_
        refine QG.then ?_
        refine CG.cond_f rfl ?_
        refine CG.skip ?_
        refine QG.block_normal ?_
        refine QG.then ?_
        refine CG.region ?_
        refine OG.yield (Yield.move rfl) rfl ?_
        refine OG.yield (Yield.add rfl rfl (w64 (by omega) (by omega))) rfl ?_
        refine OG.yield (Yield.assign rfl) rfl ?_
        refine OG.nil ?_
        exact QG.next (i + 1, cs) ⟨h1, hlc⟩ (by simp only; omega) (by repeat (first | exact Env.sub_nil _ | refine Env.sub_cons rfl ?_)) (by repeat (first | exact Imp.refl _ | exact Imp.none _ | apply Imp.pull (by repeat (first | exact Ext.here | apply Ext.there)) | apply Imp.trans Imp.drop))
    · skip
      refine CG.region ?_
      refine OG.yield (Yield.move rfl) rfl ?_
      refine OG.yield (Yield.move rfl) rfl ?_
      refine OG.yield (Yield.len_slice Try.underlying22 rfl rfl) rfl ?_
      refine OG.yield (by first | exact Yield.as (Yield.lss rfl rfl) (bT (by omega)) | exact Yield.as (Yield.lss rfl rfl) (bF (by omega)) | exact Yield.lss rfl rfl) rfl ?_
      refine OG.yield (Yield.move rfl) rfl ?_
      refine OG.guard_yes rfl rfl rfl (by decide) ?_
      refine OG.yield (Yield.move rfl) rfl ?_
      refine OG.guard_yes rfl rfl rfl (by decide) ?_
      refine OG.yield (by first | exact Yield.as (Yield.lss rfl rfl) (bT (by omega)) | exact Yield.as (Yield.lss rfl rfl) (bF (by omega)) | exact Yield.lss rfl rfl) rfl ?_
      refine OG.yield (by first | exact Yield.pick_t rfl rfl | exact Yield.pick_f rfl rfl | exact Yield.pick rfl (fun _ => rfl) (fun _ => rfl)) rfl ?_
      refine OG.nil ?_
      refine QG.then ?_
      refine CG.cond_f rfl ?_
      refine CG.exit ?_
      refine QG.pass_exit ?_
      refine QG.pass_exit ?_
      refine QG.block_exit ?_
      exact QG.mid bs hl (by repeat (first | exact Env.sub_nil _ | refine Env.sub_cons rfl ?_)) (by repeat (first | exact Imp.refl _ | exact Imp.none _ | apply Imp.pull (by repeat (first | exact Ext.here | apply Ext.there)) | apply Imp.trans Imp.drop))
    · skip
      refine CG.region ?_
      refine OG.yield (Yield.move rfl) rfl ?_
      refine OG.yield (Yield.move rfl) rfl ?_
      refine OG.yield (Yield.len_slice Try.underlying22 rfl rfl) rfl ?_
      refine OG.yield (by first | exact Yield.as (Yield.lss rfl rfl) (bT (by omega)) | exact Yield.as (Yield.lss rfl rfl) (bF (by omega)) | exact Yield.lss rfl rfl) rfl ?_
      refine OG.yield (Yield.move rfl) rfl ?_
      refine OG.guard_no rfl rfl rfl rfl rfl (by decide) (by decide) ?_
      refine OG.guard_no rfl rfl rfl rfl rfl (by decide) (by decide) ?_
      refine OG.yield (by first | exact Yield.pick_t rfl rfl | exact Yield.pick_f rfl rfl | exact Yield.pick rfl (fun _ => rfl) (fun _ => rfl)) rfl ?_
      refine OG.nil ?_
      refine QG.then ?_
      refine CG.cond_f rfl ?_
      refine CG.exit ?_
      refine QG.pass_exit ?_
      refine QG.pass_exit ?_
      refine QG.block_exit ?_
      exact QG.mid bs hl (by repeat (first | exact Env.sub_nil _ | refine Env.sub_cons rfl ?_)) (by repeat (first | exact Imp.refl _ | exact Imp.none _ | apply Imp.pull (by repeat (first | exact Ext.here | apply Ext.there)) | apply Imp.trans Imp.drop))
  rintro bs hl
  refine CG.seq ?_
  refine CG.region ?_
  refine OG.yield (Yield.move rfl) rfl ?_
  refine OG.yield (Yield.move rfl) rfl ?_
  refine OG.callo call22 rfl ((by repeat (first | exact Imp.refl _ | exact Imp.none _ | apply Imp.pull (by repeat (first | exact Ext.here | apply Ext.there)) | apply Imp.trans Imp.drop))) (same_spec W _ (m := m) (r := r) (n := n) (bs := bs)) rfl ?_
  rintro ⟨⟩ -
  refine OG.yield (Yield.move rfl) rfl ?_
  refine OG.guard_yes rfl rfl rfl (by decide) ?_
  refine OG.yield (Yield.move rfl) rfl ?_
  refine OG.guard_yes rfl rfl rfl (by decide) ?_
  refine OG.yield (Yield.move rfl) rfl ?_
  refine OG.guard_yes rfl rfl rfl (by decide) ?_
  refine OG.yield (Yield.move rfl) rfl ?_
  refine OG.guard_yes rfl rfl rfl (by decide) ?_
  refine OG.callo call21 rfl ((by repeat (first | exact Imp.refl _ | exact Imp.none _ | apply Imp.pull (by repeat (first | exact Ext.here | apply Ext.there)) | apply Imp.trans Imp.drop))) (seen_spec W _ (m := m) (r := r) (n := n) (bs := bs) (root := 0) (stop := stop) ⟨hl, by omega, by omega⟩ hst) rfl ?_
  rintro ⟨⟩ -
  refine OG.yield (by first | exact Yield.pick_t rfl rfl | exact Yield.pick_f rfl rfl | exact Yield.pick rfl (fun _ => rfl) (fun _ => rfl)) rfl ?_
  refine OG.yield (Yield.assign rfl) rfl ?_
  refine OG.nil ?_
  refine QG.then ?_
  refine CG.ret ?_
  exact QG.ret1 rfl rfl () trivial rfl (by repeat (first | exact Imp.refl _ | exact Imp.none _ | apply Imp.pull (by repeat (first | exact Ext.here | apply Ext.there)) | apply Imp.trans Imp.drop))
open Go.ChangeShapes Go.WideShapes Go.ChangeAt
theorem own : ownKnob Try.prog.godebug = none := by kernel_rfl
theorem laid : laidOutB Try.prog = true := by kernel_rfl
set_option maxRecDepth 100000 in
theorem lifted (os : Os) (started : os.Started) (H : Type) (enc : TypeId × Value → H) :
    ReturnsInHanded {} Try.checked os 5 .any (Rows.pagePlaysSpec.pre6 enc Try.prog Try.f5 Rows.pagePlaysRow.domain false) (Rows.pagePlaysSpec.post enc Try.prog Try.f5 false true false false) := by
  refine returnsInHanded_of_change_sized (C := Try.checked) own started (by kernel_rfl) Try.func5
    (ChangeSpec.witness6 (enc := enc) (C := Try.checked) false ⟨#[], #[.int .i64 0, .slice none 0 0, .int .i64 0], []⟩ 8 (by kernel_rfl) (by kernel_rfl) (by kernel_rfl) (by kernel_rfl)) ?_
  intro W base args ds gs before hval0 hW hcnd hsz0 _
  have hsz : (DataW.weightsEach Try.prog (Try.f5.params.toList ++ Rows.pagePlaysSpec.plain.varTypes Try.prog) (ds ++ gs)).all (· ≤ reachBytes) = true := hsz0
  have hval : ∀ (j : Nat) t v, Try.f5.params[j]? = some t → args[j]? = some v → Value.okWide Try.prog W .any base t v := hval0
  have hW' := hW
  obtain ⟨p, q, hA0, hV, rfl, hfz, hnd⟩ := hW
  have hA : DataW.TrodAll enc Try.prog W 0 (fun _ => true) true Try.f5.params.toList args.toList ds p := hA0
  rw [Try.params5] at hA hval hsz
  obtain ⟨v0, vs0, d0, ds0, p0, q0, hargs, rfl, rfl, h0, r0⟩ := trodAll_cons hA
  obtain ⟨v1, vs1, d1, ds1, p1, q1, rfl, rfl, rfl, h1, r1⟩ := trodAll_cons r0
  obtain ⟨v2, vs2, d2, ds2, p2, q2, rfl, rfl, rfl, h2, r2⟩ := trodAll_cons r1
  obtain ⟨rfl, rfl, rfl⟩ := trodAll_nil r2
  obtain rfl : args = #[v0, v1, v2] := by cases args; simp_all
  obtain ⟨rfl, rfl⟩ := trodVars_none hV
  obtain ⟨a0, rfl, rfl, rfl, w0⟩ := open_int Try.underlying3 (hval 0 3 v0 rfl rfl) h0
  have k1 := weights_le hsz 1 (t := 22) (d := d1) rfl rfl
  have s1 := Opn.param Try.underlying22 (POp.list W) (hval 1 22 v1 rfl rfl) h1 k1
  obtain ⟨x1, c1, ops, e1, l1, ok1, s1, m1⟩ := s1
  cases e1
  obtain ⟨a2, rfl, rfl, rfl, w2⟩ := open_int Try.underlying3 (hval 2 3 v2 rfl rfl) h2
  clear hA0 hval0 hsz0 hsz
  refine ((walk W (wf_i64 w2) s1 ok1) W (Sat.start W)).mono fun e W' he => ?_
  obtain ⟨_, _, he, hs⟩ := he
  subst he
  exact ⟨_, rfl, law_post laid (params_ok (by kernel_rfl)) rfl Try.underlying4 hW' rfl rfl (Sat.below (by repeat (first | exact Ext.here | apply Ext.there)) hs)⟩
theorem over : Rows.pagePlaysRow.holds Try.pinned (OpenSpec.ofChange Rows.pagePlaysSpec) :=
  OpenClaim.holds_of_wide 5 Try.f5 rfl rfl rfl rfl rfl rfl rfl ⟨rfl, rfl, rfl, rfl, rfl⟩ rfl rfl rfl rfl rfl (by kernel_rfl) Try.func5 (by kernel_rfl)
    (of_decide_eq_true (by kernel_rfl)) (by unfold Func.isWrapper; first | (rw [if_pos (by decide +kernel)]; kernel_rfl) | (rw [if_neg (by decide +kernel)]; exact ⟨rfl, rfl⟩))
    (fun os started H enc _ => lifted os started H enc)
theorem proved : Rows.PagePlaysSaid := over
#print axioms proved
end Go.Proofs.Ytmlfcfbblfcpdaa.pagePlays
