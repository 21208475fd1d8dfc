/- From a law's call to its row: what the arguments read as, and that they read as they did. No program in sight. -/
import Derived.Test.YtmlfcfbblfcpdaaMk
import Derived.WideKeyArgs
import Derived.ProofKit
import Derived.OpenShut
import Derived.ChangeOld
import Derived.SizedLaws
import Derived.KernelRfl
namespace Go.Sl
open Go Go.RowKit Go.ChangeShapes Go.WideShapes
set_option linter.unusedSimpArgs false
set_option linter.unusedVariables false

/-- What is read at type t in the world W (with its weights within the reach) has cells that meet R. -/
def Opn (P : Program) (W : World) (t : TypeId) (R : List Value → Prop) : Prop :=
  ∀ (H : Type) (enc : TypeId × Value → H) (n : Nat) (cs : List Value) (x : DataW H × List MemPlace), DataW.trod enc P W 0 (fun _ => true) true n t cs = some x → (∀ k ∈ x.1.weights P t, k ≤ reachBytes) → R cs

section
variable {P : Program} {W : World}

theorem Opn.int {t : TypeId} {k : IntKind} (hu : P.underlying t = some (.int k)) : Opn P W t (fun cs => ∃ n, cs = [.int k n] ∧ (Lit.int k n).wf = true) := fun H enc n cs x h _ => by
  obtain ⟨n, h1, _, h2⟩ := DataW.trod_int hu h
  exact ⟨n, h1, h2⟩
theorem Opn.bool {t : TypeId} (hu : P.underlying t = some .bool) : Opn P W t (fun cs => ∃ b, cs = [.bool b]) := fun H enc n cs x h _ => by
  obtain ⟨b, h1, _⟩ := DataW.trod_bool hu h
  exact ⟨b, h1⟩
theorem Opn.mono {t : TypeId} {R R' : List Value → Prop} (h : Opn P W t R) (hr : ∀ cs, R cs → R' cs) : Opn P W t R' := fun H enc n cs x h1 h2 => hr _ (h H enc n cs x h1 h2)

theorem flatten_get {sz : Nat} : ∀ {els : List (List Value)}, (∀ l ∈ els, l.length = sz) → ∀ {i j : Nat}, j < sz → els.flatten[i * sz + j]? = (els[i]?).bind (·[j]?)
  | [], _, i, j, hj => by simp
  | l :: els, h, i, j, hj => by
    have hl : l.length = sz := h l (by simp)
    rw [List.flatten_cons]
    cases i with
    | zero => rw [List.getElem?_append_left (by omega)]; simp
    | succ i =>
      rw [List.getElem?_append_right (by rw [hl, Nat.succ_mul]; omega), hl, Nat.succ_mul, show i * sz + sz + j - sz = i * sz + j by omega, flatten_get (fun m hm => h m (by simp [hm])) hj]
      simp
theorem flatten_len {sz : Nat} : ∀ {els : List (List Value)}, (∀ l ∈ els, l.length = sz) → els.flatten.length = els.length * sz
  | [], _ => by simp
  | l :: els, h => by
    rw [List.flatten_cons, List.length_append, flatten_len (fun m hm => h m (by simp [hm])), h l (by simp), List.length_cons, Nat.succ_mul]; omega

theorem mapM_range {α : Type} {f : Nat → Option α} : ∀ {n : Nat} {l : List α}, (List.range n).mapM f = some l → l.length = n ∧ ∀ i, i < n → f i = l[i]? := by
  intro n l h
  have h1 : l.length = n := by simpa using mapM_some_length h
  refine ⟨h1, fun i hi => ?_⟩
  have := mapM_some_get h i i (by simp [hi])
  exact this

theorem Opn.slice {t e sz by' : Nat} {R : List Value → Prop} (hu : P.underlying t = some (.slice e)) (hsz : P.cellsOf e = sz) (h0 : 0 < sz) (hby : P.bytesOf e = by') (he : Opn P W e R) :
    Opn P W t (fun cs => ∃ a m c, ∃ els : List (List Value), cs = [.slice a m c] ∧ m ≤ c ∧ els.length = m ∧ (∀ l ∈ els, l.length = sz ∧ R l) ∧ SlAt W sz a m els.flatten ∧ m * by' ≤ reachBytes) := fun H enc n cs x h hw => by
  rcases DataW.trod_slice hu h with ⟨rfl, rfl⟩ | ⟨a, len, cap, elems, rest, n', rfl, rfl, rfl, hb, hl, hm, hlen, hel, hsp, hns⟩
  · exact ⟨none, 0, 0, [], rfl, Nat.le_refl _, rfl, by simp, ⟨by simp, .inl rfl⟩, by simp⟩
  · have hwt : (elems.length + rest.length) * by' ≤ reachBytes := by
      have := hw ((elems.length + rest.length) * P.bytesOf e) (by simp [DataW.weights, hu])
      rw [hby] at this; exact this
    have hwe : ∀ y ∈ elems, ∀ k ∈ y.1.weights P e, k ≤ reachBytes := by
      intro y hy k hk
      refine hw k ?_
      simp only [DataW.weights, hu, List.mem_cons, List.mem_append]
      right; left
      have : ∀ (ys : List (DataW H × List MemPlace)), y ∈ ys → k ∈ DataW.weightsAll P e (ys.map (·.1)) := by
        intro ys
        induction ys with
        | nil => intro h; cases h
        | cons z ys ih =>
          intro h
          simp only [List.map_cons, DataW.weightsAll, List.mem_append]
          rcases List.mem_cons.1 h with rfl | h
          · exact .inl hk
          · exact .inr (ih h)
      exact this elems hy
    have hcell : ∀ i, i < len → ∃ l, W.cells? 0 (a.add (i * sz)) sz = some l ∧ R l := by
      intro i hi
      have h1 := hel i hi
      rw [hsz] at h1
      have h2 : elems[i]? = some elems[i] := by simp [hlen, hi]
      rw [h2] at h1
      obtain ⟨l, hl1, hl2⟩ := Option.bind_eq_some_iff.1 h1
      exact ⟨l, hl1, he H enc n' l _ hl2 (hwe _ (List.getElem_mem (by omega)))⟩
    let els := (List.range len).map fun i => (W.cells? 0 (a.add (i * sz)) sz).getD []
    have hels : ∀ i, i < len → ∃ l, W.cells? 0 (a.add (i * sz)) sz = some l ∧ els[i]? = some l ∧ R l := by
      intro i hi
      obtain ⟨l, h1, h2⟩ := hcell i hi
      exact ⟨l, h1, by simp [els, hi, h1], h2⟩
    have hll : ∀ l ∈ els, l.length = sz ∧ R l := by
      intro l hl
      obtain ⟨i, hi, rfl⟩ := List.mem_map.1 hl
      have hi' : i < len := by simpa using hi
      obtain ⟨l, h1, h2⟩ := hcell i hi'
      rw [h1]
      refine ⟨?_, h2⟩
      unfold World.cells? at h1
      rw [if_pos (Nat.zero_le _)] at h1
      exact (mapM_range h1).1
    refine ⟨some a, len, cap, els, rfl, hl, by simp [els], hll, ⟨?_, ?_⟩, ?_⟩
    · rw [flatten_len (fun l h => (hll l h).1)]; simp [els]
    · by_cases hz : len = 0
      · subst hz; left; simp [els]
      · right
        have hspot : a.spot = none := by
          obtain ⟨l, h1, _⟩ := hcell 0 (by omega)
          unfold World.cells? at h1
          rw [if_pos (Nat.zero_le _)] at h1
          obtain ⟨q1, q2⟩ := mapM_range h1
          have h2 := q2 0 h0
          have h3 : l[0]? = some l[0] := by simp [q1, h0]
          rw [h3] at h2
          cases hs : a.spot with
          | none => rfl
          | some s =>
            exfalso
            have e1 : (a.add (0 * sz)).add 0 = a := by simp [Addr.add]
            rw [e1] at h2
            unfold World.cell? at h2
            split at h2
            · simp [hs] at h2
            · cases h2
        obtain ⟨b, o, sp⟩ := a
        simp only at hspot
        subst hspot
        refine ⟨b, o, rfl, fun q v hq => ?_⟩
        have hlen2 : els.flatten.length = len * sz := by rw [flatten_len (fun l h => (hll l h).1)]; simp [els]
        have hq2 := le_of_get hq
        rw [hlen2] at hq2
        have hi : q / sz < len := Nat.div_lt_of_lt_mul (by rw [Nat.mul_comm]; exact hq2)
        have hj : q % sz < sz := Nat.mod_lt _ h0
        have hqe : q = q / sz * sz + q % sz := by rw [Nat.mul_comm]; exact (Nat.div_add_mod q sz).symm
        obtain ⟨l, h1, h2, _⟩ := hels (q / sz) hi
        rw [hqe, flatten_get (fun l h => (hll l h).1) hj, h2] at hq
        simp only [Option.bind_some] at hq
        unfold World.cells? at h1
        rw [if_pos (Nat.zero_le _)] at h1
        have h3 := (mapM_range h1).2 (q % sz) hj
        rw [hq, add_at, add_at, Nat.add_assoc, ← hqe] at h3
        exact h3
    · have : len * by' ≤ (elems.length + rest.length) * by' := Nat.mul_le_mul_right _ (by omega)
      omega

theorem Opn.struct {t : TypeId} {fs : Array Field} {Rs : Nat → List Value → Prop} (hu : P.underlying t = some (.struct fs)) (h : ∀ i f, fs[i]? = some f → Opn P W f.type (Rs i)) :
    Opn P W t (fun cs => cs.length = P.cellsOf t ∧ ∀ i f, fs[i]? = some f → Rs i ((cs.drop f.offset).take (P.cellsOf f.type))) := fun H enc n cs x hx hw => by
  obtain ⟨xs, n', rfl, rfl, hl, hxl, hf⟩ := DataW.trod_struct hu hx
  refine ⟨hl, fun i f hi => ?_⟩
  have h1 := hf i f hi
  have hlt : i < fs.size := by
    rcases Nat.lt_or_ge i fs.size with q | q
    · exact q
    · rw [Array.getElem?_eq_none q] at hi; cases hi
  have h2 : xs[i]? = some xs[i] := by simp [hxl, hlt]
  rw [h2] at h1
  refine h i f hi H enc n' _ _ h1 (fun k hk => hw k ?_)
  simp only [DataW.weights, hu]
  have hmem : ∀ (ts : List TypeId) (ds : List (DataW H)) (i : Nat) (t : TypeId) (d : DataW H), ts[i]? = some t → ds[i]? = some d → k ∈ d.weights P t → k ∈ DataW.weightsEach P ts ds := by
    intro ts
    induction ts with
    | nil => intro ds i t d h; simp at h
    | cons t' ts ih =>
      intro ds i t d h1 h2 h3
      cases ds with
      | nil => simp at h2
      | cons d' ds =>
        simp only [DataW.weightsEach, List.mem_append]
        cases i with
        | zero => simp at h1 h2; subst h1 h2; exact .inl h3
        | succ i => exact .inr (ih ds i t d (by simpa using h1) (by simpa using h2) h3)
  exact hmem (fs.toList.map (·.type)) (xs.map (·.1)) i f.type xs[i].1 (by
    rw [List.getElem?_map, Array.getElem?_toList, hi]; rfl) (by rw [List.getElem?_map, h2]; rfl) hk

/-- The fields of a struct, one behind another. -/
def OpnF (P : Program) (W : World) (l : List (Nat × Nat × Nat)) (p : Nat) (Q : List Value → Prop) : Prop :=
  ∀ cs : List Value, cs.length = p + (l.map (·.2.2)).sum → (∀ q ∈ l, ∃ (H : Type) (enc : TypeId × Value → H) (n : Nat) (x : DataW H × List MemPlace), DataW.trod enc P W 0 (fun _ => true) true n q.1 ((cs.drop q.2.1).take q.2.2) = some x ∧ ∀ k ∈ x.1.weights P q.1, k ≤ reachBytes) → Q (cs.drop p)
theorem OpnF.nil {p : Nat} : OpnF P W [] p (fun cs => cs = []) := fun cs h _ => by simp at h; exact List.drop_eq_nil_of_le (by omega)
theorem OpnF.cons {t p s : Nat} {l : List (Nat × Nat × Nat)} {R Q : List Value → Prop} (h : Opn P W t R) (k : OpnF P W l (p + s) Q) : OpnF P W ((t, p, s) :: l) p (fun cs => ∃ a b, cs = a ++ b ∧ a.length = s ∧ R a ∧ Q b) := fun cs hl hq => by
  simp only [List.map_cons, List.sum_cons] at hl
  refine ⟨(cs.drop p).take s, cs.drop (p + s), ?_, by simp; omega, ?_, k cs (by omega) (fun q hq' => hq q (by simp [hq']))⟩
  · rw [← List.drop_drop, List.take_append_drop]
  · obtain ⟨H, enc, n, x, h1, h2⟩ := hq (t, p, s) (by simp)
    exact h H enc n _ x h1 h2
theorem Opn.of_fields {t : TypeId} {fs : Array Field} {l : List (Nat × Nat × Nat)} {Q : List Value → Prop} (hu : P.underlying t = some (.struct fs)) (hl : (fs.toList.map fun f => (f.type, f.offset, P.cellsOf f.type)) = l) (hsz : P.cellsOf t = (l.map (·.2.2)).sum) (h : OpnF P W l 0 Q) : Opn P W t Q := fun H enc n cs x hx hw => by
  obtain ⟨xs, n', rfl, rfl, hlen, hxl, hf⟩ := DataW.trod_struct hu hx
  have hq := h cs (by omega) ?_
  · simpa using hq
  intro q hq
  subst hl
  obtain ⟨i, hi, rfl⟩ := List.getElem_of_mem hq
  have hi' : i < fs.size := by simpa using hi
  have hfi : fs[i]? = some fs[i] := by simp [hi']
  have h1 := hf i fs[i] hfi
  have h2 : xs[i]? = some xs[i] := by simp [hxl, hi']
  rw [h2] at h1
  refine ⟨H, enc, n', xs[i], by simpa using h1, fun k hk => hw k ?_⟩
  simp only [DataW.weights, hu]
  have hmem : ∀ (ts : List TypeId) (ds : List (DataW H)) (i : Nat) (t : TypeId) (d : DataW H), ts[i]? = some t → ds[i]? = some d → k ∈ d.weights P t → k ∈ DataW.weightsEach P ts ds := by
    intro ts
    induction ts with
    | nil => intro ds i t d h; simp at h
    | cons t' ts ih =>
      intro ds i t d h1 h2 h3
      cases ds with
      | nil => simp at h2
      | cons d' ds =>
        simp only [DataW.weightsEach, List.mem_append]
        cases i with
        | zero => simp at h1 h2; subst h1 h2; exact .inl h3
        | succ i => exact .inr (ih ds i t d (by simpa using h1) (by simpa using h2) h3)
  refine hmem (fs.toList.map (·.type)) (xs.map (·.1)) i fs[i].type xs[i].1 (by
    rw [List.getElem?_map, Array.getElem?_toList, hfi]; rfl) (by rw [List.getElem?_map, h2]; rfl) ?_
  simpa using hk

/-- A parameter that is a slice. -/
theorem Opn.param {r : Reach} {H : Type} {enc : TypeId × Value → H} {b0 : Nat} {t e : TypeId} {v : Value} {d : DataW H} {ps : List MemPlace} {R : List Value → Prop} (hu : P.underlying t = some (.slice e)) (ho : Opn P W t R) (hval : Value.okWide P W r b0 t v)
    (hd : DataW.Trod enc P W 0 (fun _ => true) true t v d ps) (hw : ∀ k ∈ d.weights P t, k ≤ reachBytes) : R [v] := by
  obtain ⟨a, m, c, rfl⟩ := okWide_slice hu hval
  obtain ⟨n, hn⟩ := hd
  exact ho H enc n _ _ hn hw
theorem SlAt.old {sz : Nat} {a : Option Addr} {m : Nat} {xs : List Value} {G R : List HProp} (h : SlAt W sz a m xs) (x : Ext G (old W) R) : SlR W G sz a m xs := fun w hw => by
  obtain ⟨h1, h2⟩ := h
  refine ⟨h1, ?_⟩
  rcases h2 with h2 | ⟨b, o, ha, h2⟩
  · exact .inl h2
  · exact .inr ⟨b, o, ha, fun i v hi => Cel.of_old x (h2 i v hi) w hw⟩

/-- Bytes: cells that are bytes. -/
theorem bytes_of : ∀ {els : List (List Value)}, (∀ l ∈ els, l.length = 1 ∧ ∃ n, l = [Value.int .u8 n] ∧ (Lit.int .u8 n).wf = true) → ∃ bs : List UInt8, els.flatten = bytesV bs
  | [], _ => ⟨[], rfl⟩
  | l :: els, h => by
    obtain ⟨bs, hb⟩ := bytes_of (els := els) (fun m hm => h m (by simp [hm]))
    obtain ⟨_, n, rfl, hw⟩ := h l (by simp)
    refine ⟨UInt8.ofNat n.toNat :: bs, ?_⟩
    have hn : 0 ≤ n ∧ n ≤ 255 := by simpa [Lit.wf, IntKind.min, IntKind.max, IntKind.signed, IntKind.bits] using hw
    rw [List.flatten_cons, hb]
    simp only [bytesV, List.map_cons, byteV, List.singleton_append, List.cons.injEq, Value.int.injEq, true_and, and_true]
    rw [UInt8.toNat_ofNat']; omega
theorem Opn.bytes {t e : Nat} (hu : P.underlying t = some (.slice e)) (hue : P.underlying e = some (.int .u8)) (hsz : P.cellsOf e = 1) (hby : P.bytesOf e = 1) :
    Opn P W t (fun cs => ∃ a c, ∃ bs : List UInt8, cs = [.slice a bs.length c] ∧ bs.length ≤ c ∧ SlAt W 1 a bs.length (bytesV bs) ∧ bs.length ≤ reachBytes) :=
  (Opn.slice hu hsz (by decide) hby (Opn.int hue)).mono fun cs ⟨a, m, c, els, h1, h2, h3, h4, h5, h6⟩ => by
    obtain ⟨bs, hb⟩ := bytes_of h4
    have hm : m = bs.length := by
      have := h5.1
      rw [hb, bytesV_length] at this; omega
    subst hm
    exact ⟨a, c, bs, h1, h2, by rw [← hb]; exact h5, by omega⟩
/-- From 'each element is f of something' to a list of those. -/
theorem list_choose {α β : Type} {f : β → α} {Q : β → Prop} : ∀ {l : List α}, (∀ x ∈ l, ∃ y, x = f y ∧ Q y) → ∃ ys : List β, l = ys.map f ∧ ∀ y ∈ ys, Q y
  | [], _ => ⟨[], rfl, by simp⟩
  | x :: l, h => by
    obtain ⟨y, rfl, hy⟩ := h x (by simp)
    obtain ⟨ys, rfl, hys⟩ := list_choose (l := l) (fun z hz => h z (by simp [hz]))
    exact ⟨y :: ys, rfl, by intro z hz; rcases List.mem_cons.1 hz with rfl | hz; exact hy; exact hys z hz⟩
/-- A slice of records. -/
theorem Opn.recs {α : Type} {f : α → List Value} {OK : α → Prop} {t e sz by' : Nat} (hu : P.underlying t = some (.slice e)) (hsz : P.cellsOf e = sz) (h0 : 0 < sz) (hby : P.bytesOf e = by') (he : Opn P W e (fun cs => ∃ x, cs = f x ∧ OK x)) :
    Opn P W t (fun cs => ∃ a c, ∃ xs : List α, cs = [.slice a xs.length c] ∧ xs.length ≤ c ∧ (∀ x ∈ xs, OK x) ∧ SlAt W sz a xs.length ((xs.map f).flatten) ∧ xs.length * by' ≤ reachBytes) :=
  (Opn.slice hu hsz h0 hby he).mono fun cs ⟨a, m, c, els, h1, h2, h3, h4, h5, h6⟩ => by
    obtain ⟨xs, rfl, hxs⟩ := list_choose (l := els) (f := f) (Q := OK) (fun l hl => (h4 l hl).2)
    have : xs.length = m := by simpa using h3
    subst this
    exact ⟨a, c, xs, h1, h2, hxs, h5, h6⟩
def intC (k : IntKind) (n : Int) : List Value := [.int k n]
theorem Opn.ints {t e by' : Nat} {k : IntKind} (hu : P.underlying t = some (.slice e)) (hue : P.underlying e = some (.int k)) (hsz : P.cellsOf e = 1) (hby : P.bytesOf e = by') :
    Opn P W t (fun cs => ∃ a c, ∃ xs : List Int, cs = [.slice a xs.length c] ∧ xs.length ≤ c ∧ (∀ x ∈ xs, (Lit.int k x).wf = true) ∧ SlAt W 1 a xs.length ((xs.map (intC k)).flatten) ∧ xs.length * by' ≤ reachBytes) :=
  Opn.recs (f := intC k) hu hsz (by decide) hby (Opn.int hue)
theorem wf_i64 {n : Int} (h : (Lit.int .i64 n).wf = true) : -9223372036854775808 ≤ n ∧ n ≤ 9223372036854775807 := by
  simpa [Lit.wf, IntKind.min, IntKind.max, IntKind.signed, IntKind.bits] using h
theorem wf_u32 {n : Int} (h : (Lit.int .u32 n).wf = true) : 0 ≤ n ∧ n ≤ 4294967295 := by
  simpa [Lit.wf, IntKind.min, IntKind.max, IntKind.signed, IntKind.bits] using h
theorem wf_u64 {n : Int} (h : (Lit.int .u64 n).wf = true) : 0 ≤ n ∧ n ≤ 18446744073709551615 := by
  simpa [Lit.wf, IntKind.min, IntKind.max, IntKind.signed, IntKind.bits] using h

theorem weights_mem {H : Type} {k : Nat} : ∀ {ts : List TypeId} {ds : List (DataW H)} (i : Nat) {t : TypeId} {d : DataW H}, ts[i]? = some t → ds[i]? = some d → k ∈ d.weights P t → k ∈ DataW.weightsEach P ts ds
  | [], _, i, _, _, h, _, _ => by simp at h
  | t' :: ts, [], i, _, _, _, h, _ => by simp at h
  | t' :: ts, d' :: ds, 0, _, _, h1, h2, h3 => by
    simp only [List.getElem?_cons_zero, Option.some.injEq] at h1 h2
    subst h1 h2; simp only [DataW.weightsEach, List.mem_append]; exact .inl h3
  | t' :: ts, d' :: ds, i + 1, _, _, h1, h2, h3 => by
    simp only [DataW.weightsEach, List.mem_append]
    exact .inr (weights_mem i (by simpa using h1) (by simpa using h2) h3)
theorem weights_le {H : Type} {ts : List TypeId} {ds : List (DataW H)} (h : (DataW.weightsEach P ts ds).all (· ≤ reachBytes) = true) (i : Nat) {t : TypeId} {d : DataW H} (h1 : ts[i]? = some t) (h2 : ds[i]? = some d) : ∀ k ∈ d.weights P t, k ≤ reachBytes := fun k hk => by
  have := List.all_eq_true.1 h k (weights_mem i h1 h2 hk)
  simpa using this
theorem params_ok {ts : Array TypeId} (h : (ts.toList.all fun t => P.readableRec t && decide (t < P.types.size)) = true) : ∀ t ∈ ts.toList, P.readableRec t = true ∧ t < P.types.size := fun t ht => by
  have := List.all_eq_true.1 h t ht
  simpa using this

/-- What a law that returned true, and changed nothing that was there, owes its row. -/
theorem law_post {H : Type} {enc : TypeId × Value → H} {s : ChangeSpec} {f : Func} {apart : Bool} {W W' : World} {args : Array Value} {ds gs : List (DataW H)} {before : List MemPlace} {tb : TypeId}
    (hl : laidOutB P = true) (hr : ∀ t ∈ f.params.toList, P.readableRec t = true ∧ t < P.types.size) (hres : f.resultTypes = #[tb]) (hb : P.underlying tb = some .bool)
    (hW : DataW.Whole enc P f.params.toList s.vars apart W args.toList ds gs before) (hv : s.vars = []) (hfn : s.fn H (ds ++ gs) = { results := [.lit (.bool true)], args := ds }) (hbel : Below W.heap.size W W') :
    s.post enc P f apart true false false W args (.bool true) W' := by
  have hW' := hW
  obtain ⟨p, q, hA, hV, rfl, hfz, hnd⟩ := hW
  rw [hv] at hV
  obtain ⟨rfl, rfl⟩ := trodVars_none hV
  have hstay : ∀ (ts : List TypeId) (vs : List Value) (ds : List (DataW H)) (p : List MemPlace), (∀ t ∈ ts, P.readableRec t = true ∧ t < P.types.size) → (∀ m ∈ p, m.block < W.heap.size) →
      DataW.TrodAll enc P W 0 (fun _ => true) true ts vs ds p → DataW.TrodAll enc P W' 0 (fun b => decide (b < W.heap.size)) true ts vs ds p := by
    intro ts
    induction ts with
    | nil => intro vs ds p _ _ h; obtain ⟨rfl, rfl, rfl⟩ := trodAll_nil h; exact trodAll_mk0
    | cons t ts ih =>
      intro vs ds p ht hp h
      obtain ⟨v, vs', d, ds', p1, q1, rfl, rfl, rfl, h1, h2⟩ := trodAll_cons h
      refine trodAll_cons_mk ?_ (ih vs' ds' q1 (fun t ht' => ht t (by simp [ht'])) (fun m hm => hp m (by simp [hm])) h2)
      obtain ⟨r1, r2⟩ := ht t (by simp)
      exact Go.WideElems.Trod_stays hl r1 r2 h1 (fun m hm => hbel.same (hp m (by simp [hm]))) (fun m hm => by simpa using hp m (by simp [hm]))
  have hlt : ∀ m ∈ p, m.block < W.heap.size := fun m hm => hW'.lt m (by simp [hm])
  refine ⟨ds, [], p ++ [], [], p, [], hW', ?_, ?_, ?_, hbel.frame _, fun h => by cases h⟩
  · rw [hfn, hres]
    exact trodAll_mk1 (shut_bool hb _)
  · rw [hfn]; exact hstay _ _ _ _ hr hlt hA
  · rw [hfn, hv]; rfl
end
end Go.Sl
