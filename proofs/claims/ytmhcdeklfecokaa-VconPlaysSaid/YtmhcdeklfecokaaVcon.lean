/- vcon.Console: New, Write, Read, Feed, Drain, Out, In, Clone, as two lists of bytes. -/
import Derived.Test.YtmhcdeklfecokaaVring
namespace Go.Proofs.Ytmhcdeklfecokaa.Vc
open Go Go.Sl Go.RowKit Go.Proofs Go.Proofs.Ytmhcdeklfecokaa.T
set_option linter.unusedVariables false
set_option linter.unusedSimpArgs false
set_option maxRecDepth 100000

/-- At block g lies a console: out and inn lie in its rings. -/
def Con (g : Nat) (out inn : List UInt8) : HProp := fun h => ∃ cs, (cs.length = 132 ∧ Ring cs 0 out ∧ Ring cs 66 inn) ∧ blk g cs 65 h
theorem con_open {g : Nat} {out inn : List UInt8} (y : Heaplet) (h : Con g out inn y) : ∃ cs, (cs.length = 132 ∧ Ring cs 0 out ∧ Ring cs 66 inn) ∧ blk g cs 65 y := h
theorem con_len {g : Nat} {out inn : List UInt8} {y : Heaplet} (h : Con g out inn y) : out.length ≤ 64 ∧ inn.length ≤ 64 := by
  obtain ⟨cs, ⟨_, ⟨_, _, h1⟩, ⟨_, _, h2⟩⟩, _⟩ := h
  exact ⟨h1.few, h2.few⟩
theorem ring_one {cs : List Value} {o : Nat} {bs : List UInt8} (h : Ring cs o bs) {i : Nat} {v : Value} (h1 : o ≤ i) (h2 : i < o + 66) (hv : cs[i]? = some v) : one v = true := by
  obtain ⟨arr, first, h⟩ := h
  by_cases hi : i < o + 64
  · have hlt : i - o < arr.length := by rw [h.len]; omega
    have := h.carr (i - o) arr[i - o] (by simp [hlt])
    rw [show o + (i - o) = i by omega, hv] at this
    cases this; rfl
  · by_cases hq : i = o + 64
    · subst hq; rw [h.cfirst] at hv; cases hv; rfl
    · have : i = o + 65 := by omega
      subst this; rw [h.cn] at hv; cases hv; rfl
theorem ring_zero {cs : List Value} {o : Nat} (h : o + 66 ≤ cs.length) (hz : ∀ i, i < 64 → cs[o + i]? = some (byteV 0)) (h1 : cs[o + 64]? = some (.int .i64 0)) (h2 : cs[o + 65]? = some (.int .i64 0)) : Ring cs o [] :=
  ⟨List.replicate 64 0, 0, h, by simp, by omega, by simp, fun i b hi => by
    have hlt := lt_of_get hi
    simp only [List.length_replicate] at hlt
    rw [List.getElem?_replicate, if_pos hlt] at hi
    cases hi
    exact hz i hlt, h1, h2, fun i b hi => by simp at hi⟩
def zeroCells : List Value := List.replicate 64 (.int .u8 0) ++ List.replicate 2 (.int .i64 0) ++ List.replicate 64 (.int .u8 0) ++ List.replicate 2 (.int .i64 0)
theorem con_zero {g : Nat} {y : Heaplet} (h : blk g zeroCells 65 y) : Con g [] [] y := by
  refine ⟨zeroCells, ⟨rfl, ring_zero (by decide) ?_ rfl rfl, ring_zero (by decide) ?_ rfl rfl⟩, h⟩
  all_goals
    intro i hi
    have : ∀ j : Fin 64, zeroCells[0 + j.val]? = some (byteV 0) ∧ zeroCells[66 + j.val]? = some (byteV 0) := by
      intro j
      refine ⟨?_, ?_⟩
      · have hj := j.isLt
        unfold zeroCells
        rw [List.getElem?_append_left (by simp; omega), List.getElem?_append_left (by simp; omega), List.getElem?_append_left (by simp only [List.length_replicate]; omega), List.getElem?_replicate]
        simp [byteV]
      · have hj := j.isLt
        unfold zeroCells
        rw [List.getElem?_append_left (by simp; omega), List.getElem?_append_right (by simp), List.getElem?_replicate]
        simp [byteV]
    first | exact (this ⟨i, hi⟩).1 | exact (this ⟨i, hi⟩).2

section
variable (W0 : World) (Fr : List HProp)

theorem new_spec : Ctr Try.prog W0 25 [] Fr (fun _ : Nat => True) (fun g => .pointer (some ⟨g, 0, none⟩)) (fun g => Con g [] [] :: Fr) := by
  refine Ctr.of_body Try.func25 rfl Try.ntmps25 rfl ?_
  refine CG.seq ?_
  refine CG.region ?_
  refine OG.yield (Yield.assign rfl) rfl ?_
  refine OG.nil ?_
  refine QG.then ?_
  refine CG.seq ?_
  refine CG.region ?_
  refine OG.yield (Yield.build0 bu65 ti65) rfl ?_
  refine OG.effd (Eff.box rfl) rfl ?_
  rintro b2 -
  refine OG.yield (Yield.assign rfl) rfl ?_
  refine OG.nil ?_
  refine QG.then ?_
  refine CG.ret ?_
  refine QG.ret1 rfl rfl b2 trivial rfl (Imp.head fun y hy => con_zero ?_)
  have e : zeroCells = (Value.agg ((List.replicate 64 (Value.int .u8 0) ++ List.replicate 2 (Value.int .i64 0) ++ List.replicate 64 (Value.int .u8 0) ++ List.replicate 2 (Value.int .i64 0)).toArray)).cells.toList := by simp [zeroCells, Value.cells]
  rw [e]; exact hy

theorem out_spec {g : Nat} {out inn : List UInt8} :
    Ctr Try.prog W0 26 [.pointer (some ⟨g, 0, none⟩)] (Con g out inn :: Fr) (fun _ : Option Addr × Nat => True) (fun p => .slice p.1 out.length p.2) (fun p => osl 5 1 p.1 p.2 out.length (bytesV out) :: Con g out inn :: Fr) := by
  refine Ctr.ex Ext.here con_open ?_
  rintro cs ⟨hl, h1, h2⟩
  refine Ctr.of_body Try.func26 rfl Try.ntmps26 rfl ?_
  refine CG.seq ?_
  refine CG.region ?_
  refine OG.yield (Yield.assign rfl) rfl ?_
  refine OG.nil ?_
  refine QG.then ?_
  refine CG.seq ?_
  refine CG.region ?_
  refine OG.yield (Yield.move rfl) rfl ?_
  refine OG.yield (Yield.nilCheck rfl) rfl ?_
  refine OG.yield (Yield.fieldAddr fa65_0 rfl) rfl ?_
  refine OG.callo call39 rfl ((by repeat (first | exact Imp.refl _ | exact Imp.none _ | apply Imp.pull (by repeat (first | exact Ext.here | apply Ext.there)) | apply Imp.trans Imp.drop))) (all_spec W0 Fr h1) rfl ?_
  rintro p -
  refine OG.yield (Yield.assign rfl) rfl ?_
  refine OG.nil ?_
  refine QG.then ?_
  refine CG.ret ?_
  exact QG.ret1 rfl rfl p trivial rfl (Imp.cons (Imp.head fun y hy => ⟨cs, ⟨hl, h1, h2⟩, hy⟩))
theorem in_spec {g : Nat} {out inn : List UInt8} :
    Ctr Try.prog W0 27 [.pointer (some ⟨g, 0, none⟩)] (Con g out inn :: Fr) (fun _ : Option Addr × Nat => True) (fun p => .slice p.1 inn.length p.2) (fun p => osl 5 1 p.1 p.2 inn.length (bytesV inn) :: Con g out inn :: Fr) := by
  refine Ctr.ex Ext.here con_open ?_
  rintro cs ⟨hl, h1, h2⟩
  refine Ctr.of_body Try.func27 rfl Try.ntmps27 rfl ?_
  refine CG.seq ?_
  refine CG.region ?_
  refine OG.yield (Yield.assign rfl) rfl ?_
  refine OG.nil ?_
  refine QG.then ?_
  refine CG.seq ?_
  refine CG.region ?_
  refine OG.yield (Yield.move rfl) rfl ?_
  refine OG.yield (Yield.nilCheck rfl) rfl ?_
  refine OG.yield (Yield.fieldAddr fa65_1 rfl) rfl ?_
  refine OG.callo call39 rfl ((by repeat (first | exact Imp.refl _ | exact Imp.none _ | apply Imp.pull (by repeat (first | exact Ext.here | apply Ext.there)) | apply Imp.trans Imp.drop))) (all_spec W0 Fr h2) rfl ?_
  rintro p -
  refine OG.yield (Yield.assign rfl) rfl ?_
  refine OG.nil ?_
  refine QG.then ?_
  refine CG.ret ?_
  exact QG.ret1 rfl rfl p trivial rfl (Imp.cons (Imp.head fun y hy => ⟨cs, ⟨hl, h1, h2⟩, hy⟩))
theorem write_spec {g : Nat} {out inn ds : List UInt8} {a2 : Option Addr} {c2 : Nat} (hd : SlR W0 Fr 1 a2 ds.length (bytesV ds)) (hc2 : ds.length ≤ c2) (hsz : ds.length ≤ 2 ^ 48) :
    Ctr Try.prog W0 28 [.pointer (some ⟨g, 0, none⟩), .slice a2 ds.length c2] (Con g out inn :: Fr) (fun _ : Unit => True) (fun _ => .int .i64 (min ds.length (64 - out.length) : Nat)) (fun _ => Con g (out ++ ds.take (64 - out.length)) inn :: Fr) := by
  refine Ctr.ex Ext.here con_open ?_
  rintro cs ⟨hl, h1, h2⟩
  refine Ctr.of_body Try.func28 rfl Try.ntmps28 rfl ?_
  refine CG.seq ?_
  refine CG.region ?_
  refine OG.yield (Yield.assign rfl) rfl ?_
  refine OG.nil ?_
  refine QG.then ?_
  refine CG.seq ?_
  refine CG.region ?_
  refine OG.yield (Yield.move rfl) rfl ?_
  refine OG.yield (Yield.nilCheck rfl) rfl ?_
  refine OG.yield (Yield.fieldAddr fa65_0 rfl) rfl ?_
  refine OG.yield (Yield.move rfl) rfl ?_
  refine OG.callo call40 rfl ((by repeat (first | exact Imp.refl _ | exact Imp.none _ | apply Imp.pull (by repeat (first | exact Ext.here | apply Ext.there)) | apply Imp.trans Imp.drop))) (lay_spec W0 Fr h1 hd hc2 hsz) rfl ?_
  rintro cs' ⟨hb, hr⟩
  refine OG.yield (Yield.assign rfl) rfl ?_
  refine OG.nil ?_
  refine QG.then ?_
  refine CG.ret ?_
  exact QG.ret1 rfl rfl () trivial rfl (Imp.head fun y hy => ⟨cs', ⟨by rw [hb.1, hl], hr, h2.but hb (by omega)⟩, hy⟩)
theorem feed_spec {g : Nat} {out inn ds : List UInt8} {a2 : Option Addr} {c2 : Nat} (hd : SlR W0 Fr 1 a2 ds.length (bytesV ds)) (hc2 : ds.length ≤ c2) (hsz : ds.length ≤ 2 ^ 48) :
    Ctr Try.prog W0 30 [.pointer (some ⟨g, 0, none⟩), .slice a2 ds.length c2] (Con g out inn :: Fr) (fun _ : Unit => True) (fun _ => .int .i64 (min ds.length (64 - inn.length) : Nat)) (fun _ => Con g out (inn ++ ds.take (64 - inn.length)) :: Fr) := by
  refine Ctr.ex Ext.here con_open ?_
  rintro cs ⟨hl, h1, h2⟩
  refine Ctr.of_body Try.func30 rfl Try.ntmps30 rfl ?_
  refine CG.seq ?_
  refine CG.region ?_
  refine OG.yield (Yield.assign rfl) rfl ?_
  refine OG.nil ?_
  refine QG.then ?_
  refine CG.seq ?_
  refine CG.region ?_
  refine OG.yield (Yield.move rfl) rfl ?_
  refine OG.yield (Yield.nilCheck rfl) rfl ?_
  refine OG.yield (Yield.fieldAddr fa65_1 rfl) rfl ?_
  refine OG.yield (Yield.move rfl) rfl ?_
  refine OG.callo call40 rfl ((by repeat (first | exact Imp.refl _ | exact Imp.none _ | apply Imp.pull (by repeat (first | exact Ext.here | apply Ext.there)) | apply Imp.trans Imp.drop))) (lay_spec W0 Fr h2 hd hc2 hsz) rfl ?_
  rintro cs' ⟨hb, hr⟩
  refine OG.yield (Yield.assign rfl) rfl ?_
  refine OG.nil ?_
  refine QG.then ?_
  refine CG.ret ?_
  exact QG.ret1 rfl rfl () trivial rfl (Imp.head fun y hy => ⟨cs', ⟨by rw [hb.1, hl], h1.but hb (by omega), hr⟩, hy⟩)
theorem read_spec {g : Nat} {out inn : List UInt8} (n : Int) :
    Ctr Try.prog W0 29 [.pointer (some ⟨g, 0, none⟩), .int .i64 n] (Con g out inn :: Fr) (fun _ : Option Addr × Nat => True) (fun p => .slice p.1 (kOf n inn.length) p.2)
      (fun p => osl 5 1 p.1 p.2 (kOf n inn.length) (bytesV (inn.take (kOf n inn.length))) :: Con g out (inn.drop (kOf n inn.length)) :: Fr) := by
  refine Ctr.ex Ext.here con_open ?_
  rintro cs ⟨hl, h1, h2⟩
  refine Ctr.of_body Try.func29 rfl Try.ntmps29 rfl ?_
  refine CG.seq ?_
  refine CG.region ?_
  refine OG.yield (Yield.assign rfl) rfl ?_
  refine OG.nil ?_
  refine QG.then ?_
  refine CG.seq ?_
  refine CG.region ?_
  refine OG.yield (Yield.move rfl) rfl ?_
  refine OG.yield (Yield.nilCheck rfl) rfl ?_
  refine OG.yield (Yield.fieldAddr fa65_1 rfl) rfl ?_
  refine OG.yield (Yield.move rfl) rfl ?_
  refine OG.callo call41 rfl ((by repeat (first | exact Imp.refl _ | exact Imp.none _ | apply Imp.pull (by repeat (first | exact Ext.here | apply Ext.there)) | apply Imp.trans Imp.drop))) (take_spec W0 Fr n h2) rfl ?_
  rintro ⟨p, cs'⟩ ⟨hb, hr⟩
  refine OG.yield (Yield.assign rfl) rfl ?_
  refine OG.nil ?_
  refine QG.then ?_
  refine CG.ret ?_
  exact QG.ret1 rfl rfl p trivial rfl (Imp.cons (Imp.head fun y hy => ⟨cs', ⟨by rw [hb.1, hl], h1.but hb (by omega), hr⟩, hy⟩))
theorem kOf_all {n : Int} {m : Nat} (h : (m : Int) ≤ n) : kOf n m = m := by unfold kOf; omega
theorem drain_spec {g : Nat} {out inn : List UInt8} :
    Ctr Try.prog W0 31 [.pointer (some ⟨g, 0, none⟩)] (Con g out inn :: Fr) (fun _ : Option Addr × Nat => True) (fun p => .slice p.1 out.length p.2)
      (fun p => osl 5 1 p.1 p.2 out.length (bytesV out) :: Con g [] inn :: Fr) := by
  refine Ctr.ex Ext.here con_open ?_
  rintro cs ⟨hl, h1, h2⟩
  have hk : kOf 64 out.length = out.length := kOf_all (by obtain ⟨_, _, h⟩ := h1; have := h.few; omega)
  have hts := take_spec W0 Fr (g := g) (t := 65) 64 h1
  rw [hk, List.take_length, List.drop_length] at hts
  refine Ctr.of_body Try.func31 rfl Try.ntmps31 rfl ?_
  refine CG.seq ?_
  refine CG.region ?_
  refine OG.yield (Yield.assign rfl) rfl ?_
  refine OG.nil ?_
  refine QG.then ?_
  refine CG.seq ?_
  refine CG.region ?_
  refine OG.yield (Yield.move rfl) rfl ?_
  refine OG.yield (Yield.nilCheck rfl) rfl ?_
  refine OG.yield (Yield.fieldAddr fa65_0 rfl) rfl ?_
  refine OG.callo call41 rfl ((by repeat (first | exact Imp.refl _ | exact Imp.none _ | apply Imp.pull (by repeat (first | exact Ext.here | apply Ext.there)) | apply Imp.trans Imp.drop))) (hts) rfl ?_
  rintro ⟨p, cs'⟩ ⟨hb, hr⟩
  refine OG.yield (Yield.assign rfl) rfl ?_
  refine OG.nil ?_
  refine QG.then ?_
  refine CG.ret ?_
  exact QG.ret1 rfl rfl p trivial rfl (Imp.cons (Imp.head fun y hy => ⟨cs', ⟨by rw [hb.1, hl], hr, h2.but hb (by omega)⟩, hy⟩))
theorem clone_spec {g : Nat} {out inn : List UInt8} :
    Ctr Try.prog W0 38 [.pointer (some ⟨g, 0, none⟩)] (Con g out inn :: Fr) (fun _ : Nat => True) (fun g' => .pointer (some ⟨g', 0, none⟩)) (fun g' => Con g' out inn :: Con g out inn :: Fr) := by
  refine Ctr.ex Ext.here con_open ?_
  rintro cs ⟨hl, h1, h2⟩
  refine Ctr.of_body Try.func38 rfl Try.ntmps38 rfl ?_
  refine CG.seq ?_
  refine CG.region ?_
  refine OG.yield (Yield.assign rfl) rfl ?_
  refine OG.nil ?_
  refine QG.then ?_
  refine CG.seq ?_
  refine CG.region ?_
  refine OG.yield (Yield.move rfl) rfl ?_
  refine OG.yield (Yield.nilCheck rfl) rfl ?_
  refine OG.yield (Yield.load_agg ti65 rfl hl (Row.of_blk (by repeat (first | exact Ext.here | apply Ext.there)) (by simp))) rfl ?_
  refine OG.effd (Eff.alloc ti65) rfl ?_
  rintro b3 -
  refine OG.eff (Eff.store ti65 rfl rfl (by repeat (first | exact Foc.here | apply Foc.there)) (by simp [Value.cells, hl]) ?_ (by simp [Value.cells]) (over_all (by simp [Value.cells, hl]))) rfl ?_
  · intro c hc
    simp only [Value.cells] at hc
    obtain ⟨i, hi, rfl⟩ := List.getElem_of_mem hc
    have hi' : i < cs.length := by simpa using hi
    by_cases q : i < 66
    · exact ring_one (i := i) h1 (Nat.zero_le _) (by omega) (by simp [hi'])
    · exact ring_one (i := i) h2 (by omega) (by omega) (by simp [hi'])
  rintro ⟨⟩ -
  refine OG.nil ?_
  refine QG.then ?_
  refine CG.seq ?_
  refine CG.region ?_
  refine OG.yield (Yield.assign rfl) rfl ?_
  refine OG.nil ?_
  refine QG.then ?_
  refine CG.ret ?_
  refine QG.ret1 rfl rfl b3 trivial rfl (Imp.trans (Imp.head fun y hy => (⟨cs, ⟨hl, h1, h2⟩, by simpa [Value.cells] using hy⟩ : Con b3 out inn y)) (Imp.cons (Imp.head fun y hy => ⟨cs, ⟨hl, h1, h2⟩, hy⟩)))
theorem writeB {g : Nat} {out inn ds : List UInt8} {a2 : Option Addr} {c2 : Nat} (hd : RdB W0 Fr a2 c2 ds) (hsz : ds.length ≤ 2 ^ 48) :
    Ctr Try.prog W0 28 [.pointer (some ⟨g, 0, none⟩), .slice a2 ds.length c2] (Con g out inn :: Fr) (fun _ : Unit => True) (fun _ => .int .i64 (min ds.length (64 - out.length) : Nat)) (fun _ => Con g (out ++ ds.take (64 - out.length)) inn :: Fr) :=
  Ctr.pure (fun w hw => hd.cap w (hw.imp Imp.drop)) fun hc => write_spec W0 Fr hd.slR hc hsz
theorem feedB {g : Nat} {out inn ds : List UInt8} {a2 : Option Addr} {c2 : Nat} (hd : RdB W0 Fr a2 c2 ds) (hsz : ds.length ≤ 2 ^ 48) :
    Ctr Try.prog W0 30 [.pointer (some ⟨g, 0, none⟩), .slice a2 ds.length c2] (Con g out inn :: Fr) (fun _ : Unit => True) (fun _ => .int .i64 (min ds.length (64 - inn.length) : Nat)) (fun _ => Con g out (inn ++ ds.take (64 - inn.length)) :: Fr) :=
  Ctr.pure (fun w hw => hd.cap w (hw.imp Imp.drop)) fun hc => feed_spec W0 Fr hd.slR hc hsz
theorem readB {g : Nat} {out inn : List UInt8} (n : Int) :
    Ctr Try.prog W0 29 [.pointer (some ⟨g, 0, none⟩), .int .i64 n] (Con g out inn :: Fr) (fun _ : Option Addr × Nat => True) (fun p => .slice p.1 (inn.take (kOf n inn.length)).length p.2)
      (fun p => oby 5 p.1 p.2 (inn.take (kOf n inn.length)) :: Con g out (inn.drop (kOf n inn.length)) :: Fr) := by
  have h := read_spec W0 Fr (g := g) (out := out) (inn := inn) n
  have e : (inn.take (kOf n inn.length)).length = kOf n inn.length := by rw [List.length_take]; have := kOf_le n inn.length; omega
  unfold oby; rw [e]; exact h
theorem readAll {g : Nat} {out inn : List UInt8} (n : Int) (hn : (inn.length : Int) ≤ n) :
    Ctr Try.prog W0 29 [.pointer (some ⟨g, 0, none⟩), .int .i64 n] (Con g out inn :: Fr) (fun _ : Option Addr × Nat => True) (fun p => .slice p.1 inn.length p.2)
      (fun p => oby 5 p.1 p.2 inn :: Con g out [] :: Fr) := by
  have h := readB W0 Fr (g := g) (out := out) (inn := inn) n
  rw [kOf_all hn, List.take_length, List.drop_length] at h; exact h
end
end Go.Proofs.Ytmhcdeklfecokaa.Vc
