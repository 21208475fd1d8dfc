/- VdiskLatency: a partition sees one latency: the law returns true and changes nothing that was there. -/
import Derived.Test.YtoejnhfcegchhaaVlt
namespace Go.Proofs.Ytoejnhfcegchhaa.vdiskLatency
open Go Go.Sl Go.RowKit Go.Proofs Go.Proofs.Ytoejnhfcegchhaa.T Go.Proofs.Ytoejnhfcegchhaa.Ms Go.Proofs.Ytoejnhfcegchhaa.Vd
set_option linter.unusedVariables false
set_option linter.unusedSimpArgs false
set_option maxRecDepth 100000
def vi (x : Int) : Value := .int .i64 x
def vu (x : Int) : Value := .int .u32 x
theorem keyU : KeyOK Try.prog 35 vu := KeyOK.int Try.underlying35
def md (k x : Int) : Int := IntKind.u64.wrap x % k
theorem md_range {k : Int} (h : 0 < k) (x : Int) : 0 ≤ md k x ∧ md k x < k := ⟨Int.emod_nonneg _ (by omega), Int.emod_lt_of_pos _ h⟩
theorem u8_bt {t : Int} (h : 0 ≤ t) : IntKind.u8.wrap t = ((bt t).toNat : Int) := by
  rw [IntKind.wrap_u8]; unfold bt
  obtain ⟨n, rfl⟩ := Int.eq_ofNat_of_zero_le h
  simp
theorem ints_flat (l : List Int) : ((l.map (intC .i64)).flatten) = intsV .i64 l := by
  induction l with
  | nil => rfl
  | cons x l ih => simp only [List.map_cons, List.flatten_cons, ih]; rfl
theorem mset_new {l : List (Int × Int)} {k v : Int} (h : k ∉ l.map (·.1)) : mset l k v = l ++ [(k, v)] := by
  induction l with
  | nil => rfl
  | cons p l ih =>
    simp only [List.map_cons, List.mem_cons, not_or] at h
    rw [mset_cons, if_neg (fun e => h.1 e.symm), ih h.2]; rfl
theorem mget_ent : ∀ {l : List Ak} {a : Ak}, l.Pairwise (fun a b => a.tag < b.tag) → a ∈ l → mget (l.map ent) a.tag = some a.due
  | x :: l, a, h, ha => by
    rw [List.pairwise_cons] at h
    rw [List.map_cons, mget_cons]
    rcases List.mem_cons.1 ha with rfl | ha
    · rw [if_pos (show (ent a).1 = a.tag from rfl)]; rfl
    · rw [if_neg (show ¬ (ent x).1 = a.tag by have := h.1 a ha; show ¬ x.tag = a.tag; omega)]; exact mget_ent h.2 ha
theorem drop_cons {α : Type} {l : List α} {i : Nat} {x : α} (h : l[i]? = some x) : l.drop i = x :: l.drop (i + 1) := by
  obtain ⟨hlt, rfl⟩ := List.getElem?_eq_some_iff.1 h
  exact List.drop_eq_getElem_cons hlt
structure St where
  T : Nat
  s : Ds
  k : Nat
  fl : List CR
  fa : Option Addr
  fc : Nat
  wh : List Int
  wa : Option Addr
  wc : Nat
structure St.OK (lat cnt : Int) (x : St) : Prop where
  le : x.T ≤ 40
  beg : Beg lat cnt x.s x.k x.fl x.wh x.T
  k : x.k ≤ 100 * x.T
  fll : x.fl.length ≤ 4 * x.T
structure I4 where
  i : Nat
  ws : List Int
  fa : Option Addr
  fc : Nat
  wa : Option Addr
  wc : Nat
set_option maxHeartbeats 16000000 in
theorem walk (W : World) {a2 a3 : Option Addr} {c2 c3 : Nat} {latency0 count0 : Int} {ops : List VAct} {late : List Int} (hops : SlAt W 11 a2 ops.length ((ops.map VAct.cells).flatten)) (hlt0 : SlAt W 1 a3 late.length ((late.map (intC .i64)).flatten)) (hlm : late.length * 8 ≤ reachBytes) :
    Ctr Try.prog W 3 [.int .i64 latency0, .int .i64 count0, .slice a2 ops.length c2, .slice a3 late.length c3] [old W] (fun _ : Unit => True) (fun _ => .bool true) (fun _ => [old W]) := by
  rw [ints_flat] at hlt0
  unfold reachBytes at hlm
  have hl7 := md_range (k := 7) (by decide) latency0
  have hc20 := md_range (k := 20) (by decide) count0
  have hwl := wrap_u64_range latency0
  have hwc := wrap_u64_range count0
  obtain ⟨lat, hlat⟩ : ∃ lat, 2 + md 7 latency0 = lat := ⟨_, rfl⟩
  obtain ⟨cnt, hcnt⟩ : ∃ cnt, 1 + md 20 count0 = cnt := ⟨_, rfl⟩
  have hlr : 2 ≤ lat ∧ lat ≤ 8 := by omega
  have hcr : 1 ≤ cnt ∧ cnt ≤ 20 := by omega
  have hnb : newBad 3 50 cnt lat = false := by unfold newBad; simp only [Bool.or_eq_false_iff, Bool.not_eq_false', decide_eq_false_iff_not, decide_eq_true_eq]; omega
  refine Ctr.of_body Try.func3 rfl Try.ntmps3 rfl ?_
  refine CG.seq ?_
  refine CG.region ?_
  refine OG.yield (Yield.assign rfl) rfl ?_
  refine OG.nil ?_
  refine QG.then ?_
  refine CG.seq ?_
  refine CG.seq ?_
  refine CG.region ?_
  refine OG.callo call9 rfl (Imp.refl _) (works_spec W _) rfl ?_
  rintro ⟨⟩ -
  refine OG.yield (Yield.not rfl) rfl ?_
  refine OG.nil ?_
  refine QG.then ?_
  refine CG.cond_f rfl ?_
  refine CG.skip ?_
  refine QG.then ?_
  refine CG.seq ?_
  refine CG.seq ?_
  rcases (show 100 < ops.length ∨ ops.length ≤ 100 by omega) with hp | hp
  · skip
    refine CG.region ?_
    refine OG.yield (Yield.move rfl) rfl ?_
    refine OG.yield (Yield.len_slice Try.underlying22 rfl rfl) rfl ?_
    refine OG.yield (by first | exact Yield.as (Yield.gtr rfl rfl) (bT (by omega)) | exact Yield.as (Yield.gtr rfl rfl) (bF (by omega)) | exact Yield.gtr rfl rfl) rfl ?_
    refine OG.nil ?_
    refine QG.then ?_
    refine CG.cond_t rfl ?_
    refine CG.seq ?_
    refine CG.region ?_
    refine OG.yield (Yield.assign rfl) rfl ?_
    refine OG.nil ?_
    refine QG.then ?_
    refine CG.ret ?_
    refine QG.pass_ret ?_
    exact QG.ret1 rfl rfl () trivial rfl (by repeat (first | exact Imp.refl _ | exact Imp.none _ | apply Imp.pull (by repeat (first | exact Ext.here | apply Ext.there)) | apply Imp.trans Imp.drop))
  · skip
    refine CG.region ?_
    refine OG.yield (Yield.move rfl) rfl ?_
    refine OG.yield (Yield.len_slice Try.underlying22 rfl rfl) rfl ?_
    refine OG.yield (by first | exact Yield.as (Yield.gtr rfl rfl) (bT (by omega)) | exact Yield.as (Yield.gtr rfl rfl) (bF (by omega)) | exact Yield.gtr rfl rfl) rfl ?_
    refine OG.nil ?_
    refine QG.then ?_
    refine CG.cond_f rfl ?_
    refine CG.skip ?_
    refine QG.then ?_
    refine CG.seq ?_
    refine CG.region ?_
    refine OG.yield (Yield.move rfl) rfl ?_
    refine OG.yield (Yield.conv Try.underlying25 rfl rfl rfl) rfl ?_
    refine OG.yield (Yield.rem (c := md 7 latency0) rfl rfl (by decide) (tmod_pos (by omega) (by omega))) rfl ?_
    refine OG.yield (Yield.conv (c := md 7 latency0) Try.underlying3 rfl rfl (w64 (by omega) (by omega))) rfl ?_
    refine OG.yield (Yield.as (Yield.add rfl rfl (w64 (by omega) (by omega))) (v' := .int .i64 lat) (by rw [hlat])) rfl ?_
    refine OG.yield (Yield.assign rfl) rfl ?_
    refine OG.nil ?_
    refine QG.then ?_
    refine CG.seq ?_
    refine CG.region ?_
    refine OG.yield (Yield.move rfl) rfl ?_
    refine OG.yield (Yield.conv Try.underlying25 rfl rfl rfl) rfl ?_
    refine OG.yield (Yield.rem (c := md 20 count0) rfl rfl (by decide) (tmod_pos (by omega) (by omega))) rfl ?_
    refine OG.yield (Yield.conv (c := md 20 count0) Try.underlying3 rfl rfl (w64 (by omega) (by omega))) rfl ?_
    refine OG.yield (Yield.as (Yield.add rfl rfl (w64 (by omega) (by omega))) (v' := .int .i64 cnt) (by rw [hcnt])) rfl ?_
    refine OG.yield (Yield.assign rfl) rfl ?_
    refine OG.nil ?_
    refine QG.then ?_
    refine CG.seq ?_
    refine CG.region ?_
    refine OG.yield (Yield.move rfl) rfl ?_
    refine OG.yield (Yield.move rfl) rfl ?_
    refine OG.callo call10 rfl (Imp.refl _) (new_ok W _ (part := 3) (first := 50) (count := cnt) (latency := lat) hnb) rfl ?_
    rintro d -
    refine OG.yield (Yield.move rfl) rfl ?_
    refine OG.yield (Yield.extract rfl rfl) rfl ?_
    refine OG.yield (Yield.extract rfl rfl) rfl ?_
    refine OG.yield (Yield.assign rfl) rfl ?_
    refine OG.yield (Yield.assign rfl) rfl ?_
    refine OG.nil ?_
    refine QG.then ?_
    refine CG.seq ?_
    refine CG.seq ?_
    refine CG.region ?_
    refine OG.yield (Yield.move rfl) rfl ?_
    refine OG.callo call11 rfl (Imp.refl _) (num_spec W _ 0) rfl ?_
    rintro ⟨⟩ -
    refine OG.yield (by first | exact Yield.as (Yield.neq rfl rfl) (bT (by omega)) | exact Yield.as (Yield.neq rfl rfl) (bF (by omega)) | exact Yield.neq rfl rfl) rfl ?_
    refine OG.yield (Yield.move rfl) rfl ?_
    refine OG.guard_yes rfl rfl rfl (by decide) ?_
    refine OG.yield (Yield.move rfl) rfl ?_
    refine OG.guard_yes rfl rfl rfl (by decide) ?_
    refine OG.yield (by first | exact Yield.ptr_nil Try.underlying26 rfl rfl | exact Yield.nil_nil Try.underlying26 rfl rfl) rfl ?_
    refine OG.yield (by first | exact Yield.pick_t rfl rfl | exact Yield.pick_f rfl rfl | exact Yield.pick rfl (fun _ => rfl) (fun _ => rfl)) rfl ?_
    refine OG.nil ?_
    refine QG.then ?_
    refine CG.cond_f rfl ?_
    refine CG.skip ?_
    refine QG.then ?_
    refine CG.seq ?_
    refine CG.region ?_
    refine OG.effd (Eff.makeMap vu vi) rfl ?_
    rintro r -
    refine OG.yield (Yield.assign rfl) rfl ?_
    refine OG.nil ?_
    refine QG.then ?_
    refine CG.seq ?_
    refine CG.region ?_
    refine OG.yield (Yield.assign rfl) rfl ?_
    refine OG.nil ?_
    refine QG.then ?_
    refine CG.seq ?_
    refine CG.region ?_
    refine OG.yield (Yield.assign rfl) rfl ?_
    refine OG.nil ?_
    refine QG.then ?_
    refine CG.seq ?_
    refine CG.region ?_
    refine OG.yield (Yield.assign rfl) rfl ?_
    refine OG.nil ?_
    refine QG.then ?_
    refine CG.seq ?_
    refine CG.seq ?_
    refine CG.region ?_
    refine OG.yield (Yield.assign rfl) rfl ?_
    refine OG.nil ?_
    refine QG.then ?_
    refine CG.block ?_
    refine CG.loop (fun x : St => x.OK lat cnt) (fun x => [(0, .int .i64 lat), (1, .int .i64 cnt), (2, .slice a2 ops.length c2), (3, .slice a3 late.length c3), (9, .pointer (some ⟨d, 0, none⟩)), (11, .map (some r)), (12, .slice x.fa x.fl.length x.fc), (13, .slice x.wa x.wh.length x.wc), (14, .int .i64 x.k), (15, .int .i64 x.T)]) (fun x => [D d x.s, hmap vu vi r (x.s.asks.map ent), oreqs x.fa x.fc x.fl, pool (x.fl.map CR.m), onum 3 .i64 x.wa x.wc x.wh, old W]) (fun x => 40 - x.T) ⟨0, ⟨3, 50, cnt, lat, 0, [], []⟩, 0, [], none, 0, [], none, 0⟩ ⟨Nat.zero_le _, ⟨⟨List.Pairwise.nil, fun a h => absurd h List.not_mem_nil, fun a h => absurd h List.not_mem_nil, fun a h => absurd h List.not_mem_nil, fun a h => absurd h List.not_mem_nil, List.Pairwise.nil, rfl, fun a h => absurd h List.not_mem_nil, List.Pairwise.nil, fun a h => absurd h List.not_mem_nil, fun a h => absurd h List.not_mem_nil, rfl, rfl, rfl, rfl⟩, ⟨rfl, fun a h => absurd h List.not_mem_nil, fun j q w h => by simp at h⟩, fun a h => absurd h List.not_mem_nil, fun a h => absurd h List.not_mem_nil, fun a h => absurd h List.not_mem_nil⟩, Nat.le_refl _, Nat.le_refl _⟩ (by repeat (first | exact Env.sub_nil _ | refine Env.sub_cons rfl ?_)) (Imp.trans pool_nil (Imp.trans (osl_nil (E := 3) (sz := 1)) (Imp.trans (osl_nil (E := 40) (sz := 5)) (by repeat (first | exact Imp.refl _ | exact Imp.none _ | apply Imp.pull (by repeat (first | exact Ext.here | apply Ext.there)) | apply Imp.trans Imp.drop))))) ?_
    rintro ⟨T, s, k, fl, fa, fc, wh, wa, wc⟩ ⟨hT, hbeg, hk, hfl⟩
    dsimp only at hT hbeg hk hfl ⊢
    refine CG.seq ?_
    refine CG.seq ?_
    refine CG.region ?_
    refine OG.yield (Yield.move rfl) rfl ?_
    refine OG.yield (by first | exact Yield.as (Yield.lss rfl rfl) (bT (by omega)) | exact Yield.as (Yield.lss rfl rfl) (bF (by omega)) | exact Yield.lss rfl rfl) rfl ?_
    refine OG.nil ?_
    refine QG.then ?_
    refine CG.cond rfl (fun hc => ?_) (fun hc => ?_)
    · try replace hc := of_decide_eq_true hc
      have hT1 : T < 40 := by omega
      refine CG.pure (fun w hw => d_facts (d := d) (s := s) (by repeat (first | exact Ext.here | apply Ext.there)) w hw) ?_
      intro hds0
      refine CG.skip ?_
      refine QG.then ?_
      refine CG.seq ?_
      refine CG.block ?_
      refine CG.seq ?_
      refine CG.region ?_
      refine OG.yield (Yield.move rfl) rfl ?_
      refine OG.yield (Yield.move rfl) rfl ?_
      refine OG.callo call12 rfl ((by repeat (first | exact Imp.refl _ | exact Imp.none _ | apply Imp.pull (by repeat (first | exact Ext.here | apply Ext.there)) | apply Imp.trans Imp.drop))) (ready_spec W _ (d := d) (s := s) (T : Int)) rfl ?_
      rintro ⟨l, la, lc⟩ hl
      dsimp only at hl
      obtain ⟨P, R, hs, hrl, hrs, hP, hmid⟩ := hbeg.ready
      rw [hrl] at hl
      have hP4 : P.length ≤ 4 := by have h9 := congrArg List.length hs; rw [List.length_append] at h9; have := hds0.asks; omega
      have hll : l.length = P.length := by have := congrArg List.length hl; simpa using this
      have hbinc := hbeg.ba.inc
      rw [hs] at hbinc ⊢
      dsimp only [Dns.G, Dns.ms, List.cons_append, List.nil_append]
      refine OG.yield (Yield.assign rfl) rfl ?_
      refine OG.nil ?_
      refine QG.then ?_
      refine CG.seq ?_
      refine CG.seq ?_
      refine CG.region ?_
      refine OG.yield (Yield.assign rfl) rfl ?_
      refine OG.nil ?_
      refine QG.then ?_
      refine CG.block ?_
      refine CG.loop (fun i : Nat => i ≤ l.length) (fun i => [(0, .int .i64 lat), (1, .int .i64 cnt), (2, .slice a2 ops.length c2), (3, .slice a3 late.length c3), (9, .pointer (some ⟨d, 0, none⟩)), (11, .map (some r)), (12, .slice fa fl.length fc), (13, .slice wa wh.length wc), (14, .int .i64 k), (15, .int .i64 T), (16, .slice la l.length lc), (17, .int .i64 i)]) (fun i => [odone la lc l, pool (l.map CD.m), D d (rdyS s T), hmap vu vi r ((P.drop i ++ R).map ent), oreqs fa fc fl, pool (fl.map CR.m), onum 3 .i64 wa wc wh, old W]) (fun i => l.length - i) 0 (Nat.zero_le _) (by repeat (first | exact Env.sub_nil _ | refine Env.sub_cons rfl ?_)) (by repeat (first | exact Imp.refl _ | exact Imp.none _ | apply Imp.pull (by repeat (first | exact Ext.here | apply Ext.there)) | apply Imp.trans Imp.drop)) ?_
      intro i hi
      refine CG.seq ?_
      refine CG.seq ?_
      refine CG.region ?_
      refine OG.yield (Yield.move rfl) rfl ?_
      refine OG.yield (Yield.move rfl) rfl ?_
      refine OG.yield (Yield.len_slice Try.underlying33 rfl rfl) rfl ?_
      refine OG.yield (by first | exact Yield.as (Yield.lss rfl rfl) (bT (by omega)) | exact Yield.as (Yield.lss rfl rfl) (bF (by omega)) | exact Yield.lss rfl rfl) rfl ?_
      refine OG.nil ?_
      refine QG.then ?_
      refine CG.cond rfl (fun hc => ?_) (fun hc => ?_)
      · try replace hc := of_decide_eq_true hc
        have hi1 : i < l.length := by omega
        obtain ⟨cd, hg1, hg2⟩ := map_get hl hi1
        obtain ⟨a, hPa, hda⟩ : ∃ a, P[i]? = some a ∧ done a = cd.abs := by
          rw [List.getElem?_map] at hg2
          cases hq : P[i]? with
          | none => rw [hq] at hg2; cases hg2
          | some x => rw [hq] at hg2; exact ⟨x, rfl, by simpa using hg2⟩
        have haP := List.mem_of_getElem? hPa
        have haS : a ∈ s.asks := by rw [hs]; exact List.mem_append.2 (.inl haP)
        obtain ⟨hdu, hst2⟩ := hP a haP
        have hat := hbeg.ba.hi a haS
        have e1 : cd.tag = a.tag := (congrArg Dn.tag hda).symm
        have e2 : cd.write = a.write := (congrArg Dn.write hda).symm
        have e3 : cd.addr = 3 * a.tag := (congrArg Dn.addr hda).symm.trans (hbeg.ba.addr a haS)
        have e4 : cd.m.b = if a.write then [] else a.data := (congrArg Dn.data hda).symm
        have hdat := hbeg.ba.dat a haS hst2
        have hdr : P.drop i ++ R = a :: (P.drop (i + 1) ++ R) := by rw [drop_cons hPa]; rfl
        rw [hdr, List.map_cons, show ent a = (a.tag, (T : Int)) by unfold ent; rw [hdu]]
        have hlk : mget ((a.tag, (T : Int)) :: (P.drop (i + 1) ++ R).map ent) a.tag = some (T : Int) := by rw [mget_cons, if_pos rfl]
        refine CG.pure (fun w hw => SlR.elem_shape (W0 := W) (f := CD.cells) (xs := l) (i := i) (SlR.of_osl (E := 38) (a := la) (c := lc) (by repeat (first | exact Ext.here | apply Ext.there))) CD.len (by decide) hi1 w hw) ?_
        rintro ⟨bx, ox, rfl⟩
        refine CG.skip ?_
        refine QG.then ?_
        refine CG.seq ?_
        refine CG.block ?_
        refine CG.seq ?_
        refine CG.seq ?_
        rcases (show (a.write = false ∧ i = 0) ∨ (a.write = false ∧ 0 < i) ∨ (a.write = true ∧ i = 0) ∨ (a.write = true ∧ 0 < i) by cases a.write <;> simp <;> omega) with ⟨hwr, hi0⟩ | ⟨hwr, hi0⟩ | ⟨hwr, hi0⟩ | ⟨hwr, hi0⟩
        · skip
          have hww : cd.write = false := e2.trans hwr
          have hmb : cd.m.b = wd a.tag := by rw [e4, hwr]; exact hdat hwr
          have hml : cd.m.b.length = 64 := by rw [hmb, wd_len]
          have hm0 : cd.m.b[0]? = some (bt a.tag) := by rw [hmb]; rfl
          refine CG.pure (fun w hw => SlR.shape (W0 := W) (pool_rd (ms := l.map CD.m) (m := cd.m) (by repeat (first | exact Ext.here | apply Ext.there)) (List.mem_map_of_mem (List.mem_of_getElem? hg1))).slR (by intro q; have := congrArg List.length q; rw [bytesV_length] at this; simp only [List.length_nil] at this; omega) w hw) ?_
          rintro ⟨bm, om, hma⟩
          refine CG.draw (.look 0 1 (.look 1 1 (.look 2 1 (.look 3 1 (.look 4 1 (.look 5 1 (.look 6 1 (.look 7 1 (.look 8 1 (.look 9 1 (.look 10 1 (.look 11 1 (.look 12 1 (.look 13 1 (.look 14 1 (.look 15 1 (.look 16 1 (.look 17 1 (.look 18 1 (.look 19 1 (.look 20 1 (.look 21 1 (.look 22 1 (.look 23 1 (.look 24 1 (.look 25 1 (.look 26 1 (.look 27 1 (.look 28 1 (.look 29 1 (.look 30 1 (.look 31 1 (.look 32 1 (.look 33 1 (.look 34 1 (.look 35 1 (.look 36 1 (.look 37 1 (.look 38 1 (.look 39 1 (.look 40 1 (.look 41 1 (.look 42 1 (.look 43 1 (.look 44 1 (.look 45 1 (.look 46 1 (.look 47 1 (.look 48 1 (.look 49 1 (.look 50 1 (.look 51 1 (.look 52 1 (.look 53 1 (.look 54 1 (.look 55 1 (.look 56 1 (.look 57 1 (.look 58 1 (.look 59 1 (.look 60 1 (.look 61 1 (.look 62 1 (.look 63 1 (.look 64 1 (.look 65 1 (.look 66 1 (.look 67 1 (.look 68 1 (.look 69 1 (.look 70 1 (.look 71 1 (.look 72 1 (.look 73 1 (.look 74 1 (.look 75 1 (.look 76 1 (.look 77 1 (.look 78 1 (.look 79 1 (.look 80 1 (.look 81 1 (.look 82 1 (.look 83 1 (.look 84 1 (.look 85 1 (.look 86 1 (.look 87 1 (.look 88 1 (.look 89 1 (.done))))))))))))))))))))))))))))))))))))))))))))))))))))))))))))))))))))))))))))))))))))))))))) [] [] ([]) ([]) mixed (by kernel_rfl) (Imp.none _) (Imp.none _) ?_
          refine DG.look rfl rfl (Yield.move rfl) rfl ?_
          refine DG.look rfl rfl (Yield.move rfl) rfl ?_
          refine DG.look rfl rfl (Yield.move rfl) rfl ?_
          refine DG.look rfl rfl (Yield.index_slice (b := bx) (o := ox) (m := l.length) (c := lc) Try.underlying33 ti38 rfl rfl (by omega) (by omega)) rfl ?_
          refine DG.look rfl rfl (Yield.fieldAddr fa38_0 rfl) rfl ?_
          refine DG.look rfl rfl (Yield.load (v := .int .u32 a.tag) ti35 rfl (by rw [show ox + (i : Int).toNat * 4 = ox + i * 4 by omega]; exact (SlR.elem (f := CD.cells) (xs := l) (i := i) (SlR.of_osl (E := 38) (a := some ⟨bx, ox, none⟩) (c := lc) (by repeat (first | exact Ext.here | apply Ext.there))) CD.len hg1) 0 _ (by rw [← e1]; rfl))) rfl ?_
          refine DG.look rfl rfl (Yield.as (Yield.lookup vu vi (l := (a.tag, (T : Int)) :: (P.drop (i + 1) ++ R).map ent) Try.underlying31 ti3 keyU a.tag rfl rfl (by repeat (first | exact Ext.here | apply Ext.there))) (v' := .int .i64 (T : Int)) (by rw [hlk]; rfl)) rfl ?_
          refine DG.look rfl rfl (Yield.move rfl) rfl ?_
          refine DG.look rfl rfl (Yield.as (Yield.neq rfl rfl) (bF (not_not_intro rfl))) rfl ?_
          refine DG.look rfl rfl (Yield.move rfl) rfl ?_
          refine DG.look rfl rfl (Yield.move rfl) rfl ?_
          refine DG.look rfl rfl (Yield.move rfl) rfl ?_
          refine DG.look rfl rfl (Yield.index_slice (b := bx) (o := ox) (m := l.length) (c := lc) Try.underlying33 ti38 rfl rfl (by omega) (by omega)) rfl ?_
          refine DG.look rfl rfl (Yield.fieldAddr fa38_2 rfl) rfl ?_
          refine DG.look rfl rfl (Yield.load (v := .int .u32 (3 * a.tag)) ti35 rfl (by rw [show ox + (i : Int).toNat * 4 = ox + i * 4 by omega]; exact (SlR.elem (f := CD.cells) (xs := l) (i := i) (SlR.of_osl (E := 38) (a := some ⟨bx, ox, none⟩) (c := lc) (by repeat (first | exact Ext.here | apply Ext.there))) CD.len hg1) 2 _ (by rw [← e3]; rfl))) rfl ?_
          refine DG.look rfl rfl (Yield.move rfl) rfl ?_
          refine DG.look rfl rfl (Yield.move rfl) rfl ?_
          refine DG.look rfl rfl (Yield.index_slice (b := bx) (o := ox) (m := l.length) (c := lc) Try.underlying33 ti38 rfl rfl (by omega) (by omega)) rfl ?_
          refine DG.look rfl rfl (Yield.fieldAddr fa38_0 rfl) rfl ?_
          refine DG.look rfl rfl (Yield.load (v := .int .u32 a.tag) ti35 rfl (by rw [show ox + (i : Int).toNat * 4 = ox + i * 4 by omega]; exact (SlR.elem (f := CD.cells) (xs := l) (i := i) (SlR.of_osl (E := 38) (a := some ⟨bx, ox, none⟩) (c := lc) (by repeat (first | exact Ext.here | apply Ext.there))) CD.len hg1) 0 _ (by rw [← e1]; rfl))) rfl ?_
          refine DG.look rfl rfl (Yield.mul rfl rfl (wu32 (by omega) (by omega))) rfl ?_
          refine DG.look rfl rfl (Yield.as (Yield.neq rfl rfl) (bF (by omega))) rfl ?_
          refine DG.look rfl rfl (by first | exact Yield.pick_t rfl rfl | exact Yield.pick_f rfl rfl | exact Yield.pick rfl (fun _ => rfl) (fun _ => rfl)) rfl ?_
          refine DG.look rfl rfl (Yield.move rfl) rfl ?_
          refine DG.look rfl rfl (Yield.move rfl) rfl ?_
          refine DG.look rfl rfl (Yield.move rfl) rfl ?_
          refine DG.look rfl rfl (Yield.index_slice (b := bx) (o := ox) (m := l.length) (c := lc) Try.underlying33 ti38 rfl rfl (by omega) (by omega)) rfl ?_
          refine DG.look rfl rfl (Yield.fieldAddr fa38_1 rfl) rfl ?_
          refine DG.look rfl rfl (Yield.load (v := .bool false) ti4 rfl (by rw [show ox + (i : Int).toNat * 4 = ox + i * 4 by omega]; exact (SlR.elem (f := CD.cells) (xs := l) (i := i) (SlR.of_osl (E := 38) (a := some ⟨bx, ox, none⟩) (c := lc) (by repeat (first | exact Ext.here | apply Ext.there))) CD.len hg1) 1 _ (by rw [← hww]; rfl))) rfl ?_
          refine DG.look rfl rfl (Yield.not rfl) rfl ?_
          refine DG.look rfl rfl (Yield.move rfl) rfl ?_
          refine DG.look rfl rfl (Yield.move rfl) rfl ?_
          refine DG.look rfl rfl (Yield.move rfl) rfl ?_
          refine DG.look rfl rfl (Yield.index_slice (b := bx) (o := ox) (m := l.length) (c := lc) Try.underlying33 ti38 rfl rfl (by omega) (by omega)) rfl ?_
          refine DG.look rfl rfl (Yield.fieldAddr fa38_3 rfl) rfl ?_
          refine DG.look rfl rfl (Yield.load (v := cd.m.cell) ti36 rfl (by rw [show ox + (i : Int).toNat * 4 = ox + i * 4 by omega]; exact (SlR.elem (f := CD.cells) (xs := l) (i := i) (SlR.of_osl (E := 38) (a := some ⟨bx, ox, none⟩) (c := lc) (by repeat (first | exact Ext.here | apply Ext.there))) CD.len hg1) 3 _ rfl)) rfl ?_
          refine DG.look rfl rfl (Yield.len_slice (a := cd.m.a) (m := cd.m.b.length) (c := cd.m.c) Try.underlying36 rfl rfl) rfl ?_
          refine DG.look rfl rfl (Yield.as (Yield.neq rfl rfl) (bF (by rw [hml]; decide))) rfl ?_
          refine DG.look rfl rfl (Yield.move rfl) rfl ?_
          refine DG.look rfl rfl (Yield.move rfl) rfl ?_
          refine DG.look rfl rfl (Yield.move rfl) rfl ?_
          refine DG.look rfl rfl (Yield.index_slice (b := bx) (o := ox) (m := l.length) (c := lc) Try.underlying33 ti38 rfl rfl (by omega) (by omega)) rfl ?_
          refine DG.look rfl rfl (Yield.fieldAddr fa38_3 rfl) rfl ?_
          refine DG.look rfl rfl (Yield.load (v := cd.m.cell) ti36 rfl (by rw [show ox + (i : Int).toNat * 4 = ox + i * 4 by omega]; exact (SlR.elem (f := CD.cells) (xs := l) (i := i) (SlR.of_osl (E := 38) (a := some ⟨bx, ox, none⟩) (c := lc) (by repeat (first | exact Ext.here | apply Ext.there))) CD.len hg1) 3 _ rfl)) rfl ?_
          refine DG.look rfl rfl (Yield.index_slice (b := bm) (o := om) (m := cd.m.b.length) (c := cd.m.c) (j := 0) Try.underlying36 ti5 (by rw [← hma]; rfl) rfl (by omega) (by omega)) rfl ?_
          refine DG.look rfl rfl (Yield.load (v := byteV (bt a.tag)) ti5 rfl (by exact SlR.cel (sz := 1) (m := cd.m.b.length) (xs := bytesV cd.m.b) (by rw [← hma]; exact (pool_rd (ms := l.map CD.m) (m := cd.m) (by repeat (first | exact Ext.here | apply Ext.there)) (List.mem_map_of_mem (List.mem_of_getElem? hg1))).slR) (bytesV_get hm0))) rfl ?_
          refine DG.look rfl rfl (Yield.move rfl) rfl ?_
          refine DG.look rfl rfl (Yield.move rfl) rfl ?_
          refine DG.look rfl rfl (Yield.index_slice (b := bx) (o := ox) (m := l.length) (c := lc) Try.underlying33 ti38 rfl rfl (by omega) (by omega)) rfl ?_
          refine DG.look rfl rfl (Yield.fieldAddr fa38_0 rfl) rfl ?_
          refine DG.look rfl rfl (Yield.load (v := .int .u32 a.tag) ti35 rfl (by rw [show ox + (i : Int).toNat * 4 = ox + i * 4 by omega]; exact (SlR.elem (f := CD.cells) (xs := l) (i := i) (SlR.of_osl (E := 38) (a := some ⟨bx, ox, none⟩) (c := lc) (by repeat (first | exact Ext.here | apply Ext.there))) CD.len hg1) 0 _ (by rw [← e1]; rfl))) rfl ?_
          refine DG.look rfl rfl (Yield.conv (c := ((bt a.tag).toNat : Int)) Try.underlying5 rfl rfl (u8_bt (by omega))) rfl ?_
          refine DG.look rfl rfl (Yield.as (Yield.neq rfl rfl) (bF (not_not_intro rfl))) rfl ?_
          refine DG.look rfl rfl (by first | exact Yield.pick_t rfl rfl | exact Yield.pick_f rfl rfl | exact Yield.pick rfl (fun _ => rfl) (fun _ => rfl)) rfl ?_
          refine DG.look rfl rfl (by first | exact Yield.pick_t rfl rfl | exact Yield.pick_f rfl rfl | exact Yield.pick rfl (fun _ => rfl) (fun _ => rfl)) rfl ?_
          refine DG.look rfl rfl (by first | exact Yield.pick_t rfl rfl | exact Yield.pick_f rfl rfl | exact Yield.pick rfl (fun _ => rfl) (fun _ => rfl)) rfl ?_
          refine DG.look rfl rfl (Yield.move rfl) rfl ?_
          refine DG.look rfl rfl (Yield.move rfl) rfl ?_
          refine DG.look rfl rfl (Yield.move rfl) rfl ?_
          refine DG.look rfl rfl (Yield.index_slice (b := bx) (o := ox) (m := l.length) (c := lc) Try.underlying33 ti38 rfl rfl (by omega) (by omega)) rfl ?_
          refine DG.look rfl rfl (Yield.fieldAddr fa38_1 rfl) rfl ?_
          refine DG.look rfl rfl (Yield.load (v := .bool false) ti4 rfl (by rw [show ox + (i : Int).toNat * 4 = ox + i * 4 by omega]; exact (SlR.elem (f := CD.cells) (xs := l) (i := i) (SlR.of_osl (E := 38) (a := some ⟨bx, ox, none⟩) (c := lc) (by repeat (first | exact Ext.here | apply Ext.there))) CD.len hg1) 1 _ (by rw [← hww]; rfl))) rfl ?_
          refine DG.look rfl rfl (Yield.move rfl) rfl ?_
          refine DG.pass rfl rfl rfl ?_
          refine DG.pass rfl rfl rfl ?_
          refine DG.pass rfl rfl rfl ?_
          refine DG.pass rfl rfl rfl ?_
          refine DG.pass rfl rfl rfl ?_
          refine DG.pass rfl rfl rfl ?_
          refine DG.pass rfl rfl rfl ?_
          refine DG.look rfl rfl (by first | exact Yield.pick_t rfl rfl | exact Yield.pick_f rfl rfl | exact Yield.pick rfl (fun _ => rfl) (fun _ => rfl)) rfl ?_
          refine DG.look rfl rfl (by first | exact Yield.pick_t rfl rfl | exact Yield.pick_f rfl rfl | exact Yield.pick rfl (fun _ => rfl) (fun _ => rfl)) rfl ?_
          refine DG.look rfl rfl (Yield.move rfl) rfl ?_
          refine DG.look rfl rfl (Yield.move rfl) rfl ?_
          refine DG.look rfl rfl (by first | exact Yield.as (Yield.gtr rfl rfl) (bT (by omega)) | exact Yield.as (Yield.gtr rfl rfl) (bF (by omega)) | exact Yield.gtr rfl rfl) rfl ?_
          refine DG.look rfl rfl (Yield.move rfl) rfl ?_
          refine DG.pass rfl rfl rfl ?_
          refine DG.pass rfl rfl rfl ?_
          refine DG.pass rfl rfl rfl ?_
          refine DG.pass rfl rfl rfl ?_
          refine DG.pass rfl rfl rfl ?_
          refine DG.pass rfl rfl rfl ?_
          refine DG.pass rfl rfl rfl ?_
          refine DG.pass rfl rfl rfl ?_
          refine DG.pass rfl rfl rfl ?_
          refine DG.pass rfl rfl rfl ?_
          refine DG.pass rfl rfl rfl ?_
          refine DG.pass rfl rfl rfl ?_
          refine DG.look rfl rfl (by first | exact Yield.pick_t rfl rfl | exact Yield.pick_f rfl rfl | exact Yield.pick rfl (fun _ => rfl) (fun _ => rfl)) rfl ?_
          refine DG.look rfl rfl (by first | exact Yield.pick_t rfl rfl | exact Yield.pick_f rfl rfl | exact Yield.pick rfl (fun _ => rfl) (fun _ => rfl)) rfl ?_
          refine DG.done ?_
          refine QG.then ?_
          refine CG.cond_f rfl ?_
          refine CG.skip ?_
          refine QG.then ?_
          refine CG.region ?_
          refine OG.yield (Yield.move rfl) rfl ?_
          refine OG.yield (Yield.move rfl) rfl ?_
          refine OG.yield (Yield.move rfl) rfl ?_
          refine OG.yield (Yield.index_slice (b := bx) (o := ox) (m := l.length) (c := lc) Try.underlying33 ti38 rfl rfl (by omega) (by omega)) rfl ?_
          refine OG.yield (Yield.fieldAddr fa38_0 rfl) rfl ?_
          refine OG.yield (Yield.load (v := .int .u32 a.tag) ti35 rfl (by rw [show ox + (i : Int).toNat * 4 = ox + i * 4 by omega]; exact (SlR.elem (f := CD.cells) (xs := l) (i := i) (SlR.of_osl (E := 38) (a := some ⟨bx, ox, none⟩) (c := lc) (by repeat (first | exact Ext.here | apply Ext.there))) CD.len hg1) 0 _ (by rw [← e1]; rfl))) rfl ?_
          refine OG.eff (Eff.mapDelete vu vi rfl Try.underlying31 keyU a.tag rfl rfl (by repeat (first | exact Foc.here | apply Foc.there))) rfl ?_
          rintro ⟨⟩ -
          rw [mdel_cons, if_pos rfl]
          refine OG.nil ?_
          refine QG.block_normal ?_
          refine QG.then ?_
          refine CG.region ?_
          refine OG.yield (Yield.move rfl) rfl ?_
          refine OG.yield (Yield.add rfl rfl (w64 (by omega) (by omega))) rfl ?_
          refine OG.yield (Yield.assign rfl) rfl ?_
          refine OG.nil ?_
          exact QG.next (i + 1) (show i + 1 ≤ l.length by omega) (show l.length - (i + 1) < l.length - i by omega) (by repeat (first | exact Env.sub_nil _ | refine Env.sub_cons rfl ?_)) (by repeat (first | exact Imp.refl _ | exact Imp.none _ | apply Imp.pull (by repeat (first | exact Ext.here | apply Ext.there)) | apply Imp.trans Imp.drop))
        · skip
          have hww : cd.write = false := e2.trans hwr
          have hmb : cd.m.b = wd a.tag := by rw [e4, hwr]; exact hdat hwr
          have hml : cd.m.b.length = 64 := by rw [hmb, wd_len]
          have hm0 : cd.m.b[0]? = some (bt a.tag) := by rw [hmb]; rfl
          refine CG.pure (fun w hw => SlR.shape (W0 := W) (pool_rd (ms := l.map CD.m) (m := cd.m) (by repeat (first | exact Ext.here | apply Ext.there)) (List.mem_map_of_mem (List.mem_of_getElem? hg1))).slR (by intro q; have := congrArg List.length q; rw [bytesV_length] at this; simp only [List.length_nil] at this; omega) w hw) ?_
          rintro ⟨bm, om, hma⟩
          obtain ⟨cp, hgp1, hgp2⟩ := map_get (k := i - 1) hl (by omega)
          obtain ⟨ap, hPp, hdp⟩ : ∃ a, P[i - 1]? = some a ∧ done a = cp.abs := by
            rw [List.getElem?_map] at hgp2
            cases hq : P[i - 1]? with
            | none => rw [hq] at hgp2; cases hgp2
            | some x => rw [hq] at hgp2; exact ⟨x, rfl, by simpa using hgp2⟩
          have ep : cp.tag = ap.tag := (congrArg Dn.tag hdp).symm
          have hlt : ap.tag < a.tag := by
            have h9 := List.pairwise_iff_getElem.1 (List.pairwise_append.1 hbinc).1
            obtain ⟨q1, q2⟩ := List.getElem?_eq_some_iff.1 hPp
            obtain ⟨q3, q4⟩ := List.getElem?_eq_some_iff.1 hPa
            have := h9 (i - 1) i q1 q3 (by omega)
            rw [q2, q4] at this; exact this
          refine CG.draw (.look 0 1 (.look 1 1 (.look 2 1 (.look 3 1 (.look 4 1 (.look 5 1 (.look 6 1 (.look 7 1 (.look 8 1 (.look 9 1 (.look 10 1 (.look 11 1 (.look 12 1 (.look 13 1 (.look 14 1 (.look 15 1 (.look 16 1 (.look 17 1 (.look 18 1 (.look 19 1 (.look 20 1 (.look 21 1 (.look 22 1 (.look 23 1 (.look 24 1 (.look 25 1 (.look 26 1 (.look 27 1 (.look 28 1 (.look 29 1 (.look 30 1 (.look 31 1 (.look 32 1 (.look 33 1 (.look 34 1 (.look 35 1 (.look 36 1 (.look 37 1 (.look 38 1 (.look 39 1 (.look 40 1 (.look 41 1 (.look 42 1 (.look 43 1 (.look 44 1 (.look 45 1 (.look 46 1 (.look 47 1 (.look 48 1 (.look 49 1 (.look 50 1 (.look 51 1 (.look 52 1 (.look 53 1 (.look 54 1 (.look 55 1 (.look 56 1 (.look 57 1 (.look 58 1 (.look 59 1 (.look 60 1 (.look 61 1 (.look 62 1 (.look 63 1 (.look 64 1 (.look 65 1 (.look 66 1 (.look 67 1 (.look 68 1 (.look 69 1 (.look 70 1 (.look 71 1 (.look 72 1 (.look 73 1 (.look 74 1 (.look 75 1 (.look 76 1 (.look 77 1 (.look 78 1 (.look 79 1 (.look 80 1 (.look 81 1 (.look 82 1 (.look 83 1 (.look 84 1 (.look 85 1 (.look 86 1 (.look 87 1 (.look 88 1 (.look 89 1 (.done))))))))))))))))))))))))))))))))))))))))))))))))))))))))))))))))))))))))))))))))))))))))))) [] [] ([]) ([]) mixed (by kernel_rfl) (Imp.none _) (Imp.none _) ?_
          refine DG.look rfl rfl (Yield.move rfl) rfl ?_
          refine DG.look rfl rfl (Yield.move rfl) rfl ?_
          refine DG.look rfl rfl (Yield.move rfl) rfl ?_
          refine DG.look rfl rfl (Yield.index_slice (b := bx) (o := ox) (m := l.length) (c := lc) Try.underlying33 ti38 rfl rfl (by omega) (by omega)) rfl ?_
          refine DG.look rfl rfl (Yield.fieldAddr fa38_0 rfl) rfl ?_
          refine DG.look rfl rfl (Yield.load (v := .int .u32 a.tag) ti35 rfl (by rw [show ox + (i : Int).toNat * 4 = ox + i * 4 by omega]; exact (SlR.elem (f := CD.cells) (xs := l) (i := i) (SlR.of_osl (E := 38) (a := some ⟨bx, ox, none⟩) (c := lc) (by repeat (first | exact Ext.here | apply Ext.there))) CD.len hg1) 0 _ (by rw [← e1]; rfl))) rfl ?_
          refine DG.look rfl rfl (Yield.as (Yield.lookup vu vi (l := (a.tag, (T : Int)) :: (P.drop (i + 1) ++ R).map ent) Try.underlying31 ti3 keyU a.tag rfl rfl (by repeat (first | exact Ext.here | apply Ext.there))) (v' := .int .i64 (T : Int)) (by rw [hlk]; rfl)) rfl ?_
          refine DG.look rfl rfl (Yield.move rfl) rfl ?_
          refine DG.look rfl rfl (Yield.as (Yield.neq rfl rfl) (bF (not_not_intro rfl))) rfl ?_
          refine DG.look rfl rfl (Yield.move rfl) rfl ?_
          refine DG.look rfl rfl (Yield.move rfl) rfl ?_
          refine DG.look rfl rfl (Yield.move rfl) rfl ?_
          refine DG.look rfl rfl (Yield.index_slice (b := bx) (o := ox) (m := l.length) (c := lc) Try.underlying33 ti38 rfl rfl (by omega) (by omega)) rfl ?_
          refine DG.look rfl rfl (Yield.fieldAddr fa38_2 rfl) rfl ?_
          refine DG.look rfl rfl (Yield.load (v := .int .u32 (3 * a.tag)) ti35 rfl (by rw [show ox + (i : Int).toNat * 4 = ox + i * 4 by omega]; exact (SlR.elem (f := CD.cells) (xs := l) (i := i) (SlR.of_osl (E := 38) (a := some ⟨bx, ox, none⟩) (c := lc) (by repeat (first | exact Ext.here | apply Ext.there))) CD.len hg1) 2 _ (by rw [← e3]; rfl))) rfl ?_
          refine DG.look rfl rfl (Yield.move rfl) rfl ?_
          refine DG.look rfl rfl (Yield.move rfl) rfl ?_
          refine DG.look rfl rfl (Yield.index_slice (b := bx) (o := ox) (m := l.length) (c := lc) Try.underlying33 ti38 rfl rfl (by omega) (by omega)) rfl ?_
          refine DG.look rfl rfl (Yield.fieldAddr fa38_0 rfl) rfl ?_
          refine DG.look rfl rfl (Yield.load (v := .int .u32 a.tag) ti35 rfl (by rw [show ox + (i : Int).toNat * 4 = ox + i * 4 by omega]; exact (SlR.elem (f := CD.cells) (xs := l) (i := i) (SlR.of_osl (E := 38) (a := some ⟨bx, ox, none⟩) (c := lc) (by repeat (first | exact Ext.here | apply Ext.there))) CD.len hg1) 0 _ (by rw [← e1]; rfl))) rfl ?_
          refine DG.look rfl rfl (Yield.mul rfl rfl (wu32 (by omega) (by omega))) rfl ?_
          refine DG.look rfl rfl (Yield.as (Yield.neq rfl rfl) (bF (by omega))) rfl ?_
          refine DG.look rfl rfl (by first | exact Yield.pick_t rfl rfl | exact Yield.pick_f rfl rfl | exact Yield.pick rfl (fun _ => rfl) (fun _ => rfl)) rfl ?_
          refine DG.look rfl rfl (Yield.move rfl) rfl ?_
          refine DG.look rfl rfl (Yield.move rfl) rfl ?_
          refine DG.look rfl rfl (Yield.move rfl) rfl ?_
          refine DG.look rfl rfl (Yield.index_slice (b := bx) (o := ox) (m := l.length) (c := lc) Try.underlying33 ti38 rfl rfl (by omega) (by omega)) rfl ?_
          refine DG.look rfl rfl (Yield.fieldAddr fa38_1 rfl) rfl ?_
          refine DG.look rfl rfl (Yield.load (v := .bool false) ti4 rfl (by rw [show ox + (i : Int).toNat * 4 = ox + i * 4 by omega]; exact (SlR.elem (f := CD.cells) (xs := l) (i := i) (SlR.of_osl (E := 38) (a := some ⟨bx, ox, none⟩) (c := lc) (by repeat (first | exact Ext.here | apply Ext.there))) CD.len hg1) 1 _ (by rw [← hww]; rfl))) rfl ?_
          refine DG.look rfl rfl (Yield.not rfl) rfl ?_
          refine DG.look rfl rfl (Yield.move rfl) rfl ?_
          refine DG.look rfl rfl (Yield.move rfl) rfl ?_
          refine DG.look rfl rfl (Yield.move rfl) rfl ?_
          refine DG.look rfl rfl (Yield.index_slice (b := bx) (o := ox) (m := l.length) (c := lc) Try.underlying33 ti38 rfl rfl (by omega) (by omega)) rfl ?_
          refine DG.look rfl rfl (Yield.fieldAddr fa38_3 rfl) rfl ?_
          refine DG.look rfl rfl (Yield.load (v := cd.m.cell) ti36 rfl (by rw [show ox + (i : Int).toNat * 4 = ox + i * 4 by omega]; exact (SlR.elem (f := CD.cells) (xs := l) (i := i) (SlR.of_osl (E := 38) (a := some ⟨bx, ox, none⟩) (c := lc) (by repeat (first | exact Ext.here | apply Ext.there))) CD.len hg1) 3 _ rfl)) rfl ?_
          refine DG.look rfl rfl (Yield.len_slice (a := cd.m.a) (m := cd.m.b.length) (c := cd.m.c) Try.underlying36 rfl rfl) rfl ?_
          refine DG.look rfl rfl (Yield.as (Yield.neq rfl rfl) (bF (by rw [hml]; decide))) rfl ?_
          refine DG.look rfl rfl (Yield.move rfl) rfl ?_
          refine DG.look rfl rfl (Yield.move rfl) rfl ?_
          refine DG.look rfl rfl (Yield.move rfl) rfl ?_
          refine DG.look rfl rfl (Yield.index_slice (b := bx) (o := ox) (m := l.length) (c := lc) Try.underlying33 ti38 rfl rfl (by omega) (by omega)) rfl ?_
          refine DG.look rfl rfl (Yield.fieldAddr fa38_3 rfl) rfl ?_
          refine DG.look rfl rfl (Yield.load (v := cd.m.cell) ti36 rfl (by rw [show ox + (i : Int).toNat * 4 = ox + i * 4 by omega]; exact (SlR.elem (f := CD.cells) (xs := l) (i := i) (SlR.of_osl (E := 38) (a := some ⟨bx, ox, none⟩) (c := lc) (by repeat (first | exact Ext.here | apply Ext.there))) CD.len hg1) 3 _ rfl)) rfl ?_
          refine DG.look rfl rfl (Yield.index_slice (b := bm) (o := om) (m := cd.m.b.length) (c := cd.m.c) (j := 0) Try.underlying36 ti5 (by rw [← hma]; rfl) rfl (by omega) (by omega)) rfl ?_
          refine DG.look rfl rfl (Yield.load (v := byteV (bt a.tag)) ti5 rfl (by exact SlR.cel (sz := 1) (m := cd.m.b.length) (xs := bytesV cd.m.b) (by rw [← hma]; exact (pool_rd (ms := l.map CD.m) (m := cd.m) (by repeat (first | exact Ext.here | apply Ext.there)) (List.mem_map_of_mem (List.mem_of_getElem? hg1))).slR) (bytesV_get hm0))) rfl ?_
          refine DG.look rfl rfl (Yield.move rfl) rfl ?_
          refine DG.look rfl rfl (Yield.move rfl) rfl ?_
          refine DG.look rfl rfl (Yield.index_slice (b := bx) (o := ox) (m := l.length) (c := lc) Try.underlying33 ti38 rfl rfl (by omega) (by omega)) rfl ?_
          refine DG.look rfl rfl (Yield.fieldAddr fa38_0 rfl) rfl ?_
          refine DG.look rfl rfl (Yield.load (v := .int .u32 a.tag) ti35 rfl (by rw [show ox + (i : Int).toNat * 4 = ox + i * 4 by omega]; exact (SlR.elem (f := CD.cells) (xs := l) (i := i) (SlR.of_osl (E := 38) (a := some ⟨bx, ox, none⟩) (c := lc) (by repeat (first | exact Ext.here | apply Ext.there))) CD.len hg1) 0 _ (by rw [← e1]; rfl))) rfl ?_
          refine DG.look rfl rfl (Yield.conv (c := ((bt a.tag).toNat : Int)) Try.underlying5 rfl rfl (u8_bt (by omega))) rfl ?_
          refine DG.look rfl rfl (Yield.as (Yield.neq rfl rfl) (bF (not_not_intro rfl))) rfl ?_
          refine DG.look rfl rfl (by first | exact Yield.pick_t rfl rfl | exact Yield.pick_f rfl rfl | exact Yield.pick rfl (fun _ => rfl) (fun _ => rfl)) rfl ?_
          refine DG.look rfl rfl (by first | exact Yield.pick_t rfl rfl | exact Yield.pick_f rfl rfl | exact Yield.pick rfl (fun _ => rfl) (fun _ => rfl)) rfl ?_
          refine DG.look rfl rfl (by first | exact Yield.pick_t rfl rfl | exact Yield.pick_f rfl rfl | exact Yield.pick rfl (fun _ => rfl) (fun _ => rfl)) rfl ?_
          refine DG.look rfl rfl (Yield.move rfl) rfl ?_
          refine DG.look rfl rfl (Yield.move rfl) rfl ?_
          refine DG.look rfl rfl (Yield.move rfl) rfl ?_
          refine DG.look rfl rfl (Yield.index_slice (b := bx) (o := ox) (m := l.length) (c := lc) Try.underlying33 ti38 rfl rfl (by omega) (by omega)) rfl ?_
          refine DG.look rfl rfl (Yield.fieldAddr fa38_1 rfl) rfl ?_
          refine DG.look rfl rfl (Yield.load (v := .bool false) ti4 rfl (by rw [show ox + (i : Int).toNat * 4 = ox + i * 4 by omega]; exact (SlR.elem (f := CD.cells) (xs := l) (i := i) (SlR.of_osl (E := 38) (a := some ⟨bx, ox, none⟩) (c := lc) (by repeat (first | exact Ext.here | apply Ext.there))) CD.len hg1) 1 _ (by rw [← hww]; rfl))) rfl ?_
          refine DG.look rfl rfl (Yield.move rfl) rfl ?_
          refine DG.pass rfl rfl rfl ?_
          refine DG.pass rfl rfl rfl ?_
          refine DG.pass rfl rfl rfl ?_
          refine DG.pass rfl rfl rfl ?_
          refine DG.pass rfl rfl rfl ?_
          refine DG.pass rfl rfl rfl ?_
          refine DG.pass rfl rfl rfl ?_
          refine DG.look rfl rfl (by first | exact Yield.pick_t rfl rfl | exact Yield.pick_f rfl rfl | exact Yield.pick rfl (fun _ => rfl) (fun _ => rfl)) rfl ?_
          refine DG.look rfl rfl (by first | exact Yield.pick_t rfl rfl | exact Yield.pick_f rfl rfl | exact Yield.pick rfl (fun _ => rfl) (fun _ => rfl)) rfl ?_
          refine DG.look rfl rfl (Yield.move rfl) rfl ?_
          refine DG.look rfl rfl (Yield.move rfl) rfl ?_
          refine DG.look rfl rfl (by first | exact Yield.as (Yield.gtr rfl rfl) (bT (by omega)) | exact Yield.as (Yield.gtr rfl rfl) (bF (by omega)) | exact Yield.gtr rfl rfl) rfl ?_
          refine DG.look rfl rfl (Yield.move rfl) rfl ?_
          refine DG.look rfl rfl (Yield.move rfl) rfl ?_
          refine DG.look rfl rfl (Yield.move rfl) rfl ?_
          refine DG.look rfl rfl (Yield.index_slice (b := bx) (o := ox) (m := l.length) (c := lc) Try.underlying33 ti38 rfl rfl (by omega) (by omega)) rfl ?_
          refine DG.look rfl rfl (Yield.fieldAddr fa38_0 rfl) rfl ?_
          refine DG.look rfl rfl (Yield.load (v := .int .u32 a.tag) ti35 rfl (by rw [show ox + (i : Int).toNat * 4 = ox + i * 4 by omega]; exact (SlR.elem (f := CD.cells) (xs := l) (i := i) (SlR.of_osl (E := 38) (a := some ⟨bx, ox, none⟩) (c := lc) (by repeat (first | exact Ext.here | apply Ext.there))) CD.len hg1) 0 _ (by rw [← e1]; rfl))) rfl ?_
          refine DG.look rfl rfl (Yield.move rfl) rfl ?_
          refine DG.look rfl rfl (Yield.move rfl) rfl ?_
          refine DG.look rfl rfl (Yield.sub rfl rfl (w64 (by omega) (by omega))) rfl ?_
          refine DG.look rfl rfl (Yield.index_slice (b := bx) (o := ox) (m := l.length) (c := lc) (j := (i : Int) - 1) Try.underlying33 ti38 rfl rfl (by omega) (by omega)) rfl ?_
          refine DG.look rfl rfl (Yield.fieldAddr fa38_0 rfl) rfl ?_
          refine DG.look rfl rfl (Yield.load (v := .int .u32 ap.tag) ti35 rfl (by rw [show ox + ((i : Int) - 1).toNat * 4 = ox + (i - 1) * 4 by omega]; exact (SlR.elem (f := CD.cells) (xs := l) (i := i - 1) (SlR.of_osl (E := 38) (a := some ⟨bx, ox, none⟩) (c := lc) (by repeat (first | exact Ext.here | apply Ext.there))) CD.len hgp1) 0 _ (by rw [← ep]; rfl))) rfl ?_
          refine DG.look rfl rfl (Yield.as (Yield.leq rfl rfl) (bF (by omega))) rfl ?_
          refine DG.look rfl rfl (by first | exact Yield.pick_t rfl rfl | exact Yield.pick_f rfl rfl | exact Yield.pick rfl (fun _ => rfl) (fun _ => rfl)) rfl ?_
          refine DG.look rfl rfl (by first | exact Yield.pick_t rfl rfl | exact Yield.pick_f rfl rfl | exact Yield.pick rfl (fun _ => rfl) (fun _ => rfl)) rfl ?_
          refine DG.done ?_
          refine QG.then ?_
          refine CG.cond_f rfl ?_
          refine CG.skip ?_
          refine QG.then ?_
          refine CG.region ?_
          refine OG.yield (Yield.move rfl) rfl ?_
          refine OG.yield (Yield.move rfl) rfl ?_
          refine OG.yield (Yield.move rfl) rfl ?_
          refine OG.yield (Yield.index_slice (b := bx) (o := ox) (m := l.length) (c := lc) Try.underlying33 ti38 rfl rfl (by omega) (by omega)) rfl ?_
          refine OG.yield (Yield.fieldAddr fa38_0 rfl) rfl ?_
          refine OG.yield (Yield.load (v := .int .u32 a.tag) ti35 rfl (by rw [show ox + (i : Int).toNat * 4 = ox + i * 4 by omega]; exact (SlR.elem (f := CD.cells) (xs := l) (i := i) (SlR.of_osl (E := 38) (a := some ⟨bx, ox, none⟩) (c := lc) (by repeat (first | exact Ext.here | apply Ext.there))) CD.len hg1) 0 _ (by rw [← e1]; rfl))) rfl ?_
          refine OG.eff (Eff.mapDelete vu vi rfl Try.underlying31 keyU a.tag rfl rfl (by repeat (first | exact Foc.here | apply Foc.there))) rfl ?_
          rintro ⟨⟩ -
          rw [mdel_cons, if_pos rfl]
          refine OG.nil ?_
          refine QG.block_normal ?_
          refine QG.then ?_
          refine CG.region ?_
          refine OG.yield (Yield.move rfl) rfl ?_
          refine OG.yield (Yield.add rfl rfl (w64 (by omega) (by omega))) rfl ?_
          refine OG.yield (Yield.assign rfl) rfl ?_
          refine OG.nil ?_
          exact QG.next (i + 1) (show i + 1 ≤ l.length by omega) (show l.length - (i + 1) < l.length - i by omega) (by repeat (first | exact Env.sub_nil _ | refine Env.sub_cons rfl ?_)) (by repeat (first | exact Imp.refl _ | exact Imp.none _ | apply Imp.pull (by repeat (first | exact Ext.here | apply Ext.there)) | apply Imp.trans Imp.drop))
        · skip
          have hww : cd.write = true := e2.trans hwr
          have hml : cd.m.b.length = 0 := by rw [e4, hwr]; rfl
          refine CG.draw (.look 0 1 (.look 1 1 (.look 2 1 (.look 3 1 (.look 4 1 (.look 5 1 (.look 6 1 (.look 7 1 (.look 8 1 (.look 9 1 (.look 10 1 (.look 11 1 (.look 12 1 (.look 13 1 (.look 14 1 (.look 15 1 (.look 16 1 (.look 17 1 (.look 18 1 (.look 19 1 (.look 20 1 (.look 21 1 (.look 22 1 (.look 23 1 (.look 24 1 (.look 25 1 (.look 26 1 (.look 27 1 (.look 28 1 (.look 29 1 (.look 30 1 (.look 31 1 (.look 32 1 (.look 33 1 (.look 34 1 (.look 35 1 (.look 36 1 (.look 37 1 (.look 38 1 (.look 39 1 (.look 40 1 (.look 41 1 (.look 42 1 (.look 43 1 (.look 44 1 (.look 45 1 (.look 46 1 (.look 47 1 (.look 48 1 (.look 49 1 (.look 50 1 (.look 51 1 (.look 52 1 (.look 53 1 (.look 54 1 (.look 55 1 (.look 56 1 (.look 57 1 (.look 58 1 (.look 59 1 (.look 60 1 (.look 61 1 (.look 62 1 (.look 63 1 (.look 64 1 (.look 65 1 (.look 66 1 (.look 67 1 (.look 68 1 (.look 69 1 (.look 70 1 (.look 71 1 (.look 72 1 (.look 73 1 (.look 74 1 (.look 75 1 (.look 76 1 (.look 77 1 (.look 78 1 (.look 79 1 (.look 80 1 (.look 81 1 (.look 82 1 (.look 83 1 (.look 84 1 (.look 85 1 (.look 86 1 (.look 87 1 (.look 88 1 (.look 89 1 (.done))))))))))))))))))))))))))))))))))))))))))))))))))))))))))))))))))))))))))))))))))))))))))) [] [] ([]) ([]) mixed (by kernel_rfl) (Imp.none _) (Imp.none _) ?_
          refine DG.look rfl rfl (Yield.move rfl) rfl ?_
          refine DG.look rfl rfl (Yield.move rfl) rfl ?_
          refine DG.look rfl rfl (Yield.move rfl) rfl ?_
          refine DG.look rfl rfl (Yield.index_slice (b := bx) (o := ox) (m := l.length) (c := lc) Try.underlying33 ti38 rfl rfl (by omega) (by omega)) rfl ?_
          refine DG.look rfl rfl (Yield.fieldAddr fa38_0 rfl) rfl ?_
          refine DG.look rfl rfl (Yield.load (v := .int .u32 a.tag) ti35 rfl (by rw [show ox + (i : Int).toNat * 4 = ox + i * 4 by omega]; exact (SlR.elem (f := CD.cells) (xs := l) (i := i) (SlR.of_osl (E := 38) (a := some ⟨bx, ox, none⟩) (c := lc) (by repeat (first | exact Ext.here | apply Ext.there))) CD.len hg1) 0 _ (by rw [← e1]; rfl))) rfl ?_
          refine DG.look rfl rfl (Yield.as (Yield.lookup vu vi (l := (a.tag, (T : Int)) :: (P.drop (i + 1) ++ R).map ent) Try.underlying31 ti3 keyU a.tag rfl rfl (by repeat (first | exact Ext.here | apply Ext.there))) (v' := .int .i64 (T : Int)) (by rw [hlk]; rfl)) rfl ?_
          refine DG.look rfl rfl (Yield.move rfl) rfl ?_
          refine DG.look rfl rfl (Yield.as (Yield.neq rfl rfl) (bF (not_not_intro rfl))) rfl ?_
          refine DG.look rfl rfl (Yield.move rfl) rfl ?_
          refine DG.look rfl rfl (Yield.move rfl) rfl ?_
          refine DG.look rfl rfl (Yield.move rfl) rfl ?_
          refine DG.look rfl rfl (Yield.index_slice (b := bx) (o := ox) (m := l.length) (c := lc) Try.underlying33 ti38 rfl rfl (by omega) (by omega)) rfl ?_
          refine DG.look rfl rfl (Yield.fieldAddr fa38_2 rfl) rfl ?_
          refine DG.look rfl rfl (Yield.load (v := .int .u32 (3 * a.tag)) ti35 rfl (by rw [show ox + (i : Int).toNat * 4 = ox + i * 4 by omega]; exact (SlR.elem (f := CD.cells) (xs := l) (i := i) (SlR.of_osl (E := 38) (a := some ⟨bx, ox, none⟩) (c := lc) (by repeat (first | exact Ext.here | apply Ext.there))) CD.len hg1) 2 _ (by rw [← e3]; rfl))) rfl ?_
          refine DG.look rfl rfl (Yield.move rfl) rfl ?_
          refine DG.look rfl rfl (Yield.move rfl) rfl ?_
          refine DG.look rfl rfl (Yield.index_slice (b := bx) (o := ox) (m := l.length) (c := lc) Try.underlying33 ti38 rfl rfl (by omega) (by omega)) rfl ?_
          refine DG.look rfl rfl (Yield.fieldAddr fa38_0 rfl) rfl ?_
          refine DG.look rfl rfl (Yield.load (v := .int .u32 a.tag) ti35 rfl (by rw [show ox + (i : Int).toNat * 4 = ox + i * 4 by omega]; exact (SlR.elem (f := CD.cells) (xs := l) (i := i) (SlR.of_osl (E := 38) (a := some ⟨bx, ox, none⟩) (c := lc) (by repeat (first | exact Ext.here | apply Ext.there))) CD.len hg1) 0 _ (by rw [← e1]; rfl))) rfl ?_
          refine DG.look rfl rfl (Yield.mul rfl rfl (wu32 (by omega) (by omega))) rfl ?_
          refine DG.look rfl rfl (Yield.as (Yield.neq rfl rfl) (bF (by omega))) rfl ?_
          refine DG.look rfl rfl (by first | exact Yield.pick_t rfl rfl | exact Yield.pick_f rfl rfl | exact Yield.pick rfl (fun _ => rfl) (fun _ => rfl)) rfl ?_
          refine DG.look rfl rfl (Yield.move rfl) rfl ?_
          refine DG.look rfl rfl (Yield.move rfl) rfl ?_
          refine DG.look rfl rfl (Yield.move rfl) rfl ?_
          refine DG.look rfl rfl (Yield.index_slice (b := bx) (o := ox) (m := l.length) (c := lc) Try.underlying33 ti38 rfl rfl (by omega) (by omega)) rfl ?_
          refine DG.look rfl rfl (Yield.fieldAddr fa38_1 rfl) rfl ?_
          refine DG.look rfl rfl (Yield.load (v := .bool true) ti4 rfl (by rw [show ox + (i : Int).toNat * 4 = ox + i * 4 by omega]; exact (SlR.elem (f := CD.cells) (xs := l) (i := i) (SlR.of_osl (E := 38) (a := some ⟨bx, ox, none⟩) (c := lc) (by repeat (first | exact Ext.here | apply Ext.there))) CD.len hg1) 1 _ (by rw [← hww]; rfl))) rfl ?_
          refine DG.look rfl rfl (Yield.not rfl) rfl ?_
          refine DG.look rfl rfl (Yield.move rfl) rfl ?_
          refine DG.pass rfl rfl rfl ?_
          refine DG.pass rfl rfl rfl ?_
          refine DG.pass rfl rfl rfl ?_
          refine DG.pass rfl rfl rfl ?_
          refine DG.pass rfl rfl rfl ?_
          refine DG.pass rfl rfl rfl ?_
          refine DG.pass rfl rfl rfl ?_
          refine DG.pass rfl rfl rfl ?_
          refine DG.pass rfl rfl rfl ?_
          refine DG.pass rfl rfl rfl ?_
          refine DG.pass rfl rfl rfl ?_
          refine DG.pass rfl rfl rfl ?_
          refine DG.pass rfl rfl rfl ?_
          refine DG.pass rfl rfl rfl ?_
          refine DG.pass rfl rfl rfl ?_
          refine DG.pass rfl rfl rfl ?_
          refine DG.pass rfl rfl rfl ?_
          refine DG.pass rfl rfl rfl ?_
          refine DG.pass rfl rfl rfl ?_
          refine DG.pass rfl rfl rfl ?_
          refine DG.pass rfl rfl rfl ?_
          refine DG.pass rfl rfl rfl ?_
          refine DG.pass rfl rfl rfl ?_
          refine DG.look rfl rfl (by first | exact Yield.pick_t rfl rfl | exact Yield.pick_f rfl rfl | exact Yield.pick rfl (fun _ => rfl) (fun _ => rfl)) rfl ?_
          refine DG.look rfl rfl (by first | exact Yield.pick_t rfl rfl | exact Yield.pick_f rfl rfl | exact Yield.pick rfl (fun _ => rfl) (fun _ => rfl)) rfl ?_
          refine DG.look rfl rfl (Yield.move rfl) rfl ?_
          refine DG.look rfl rfl (Yield.move rfl) rfl ?_
          refine DG.look rfl rfl (Yield.move rfl) rfl ?_
          refine DG.look rfl rfl (Yield.index_slice (b := bx) (o := ox) (m := l.length) (c := lc) Try.underlying33 ti38 rfl rfl (by omega) (by omega)) rfl ?_
          refine DG.look rfl rfl (Yield.fieldAddr fa38_1 rfl) rfl ?_
          refine DG.look rfl rfl (Yield.load (v := .bool true) ti4 rfl (by rw [show ox + (i : Int).toNat * 4 = ox + i * 4 by omega]; exact (SlR.elem (f := CD.cells) (xs := l) (i := i) (SlR.of_osl (E := 38) (a := some ⟨bx, ox, none⟩) (c := lc) (by repeat (first | exact Ext.here | apply Ext.there))) CD.len hg1) 1 _ (by rw [← hww]; rfl))) rfl ?_
          refine DG.look rfl rfl (Yield.move rfl) rfl ?_
          refine DG.look rfl rfl (Yield.move rfl) rfl ?_
          refine DG.look rfl rfl (Yield.move rfl) rfl ?_
          refine DG.look rfl rfl (Yield.index_slice (b := bx) (o := ox) (m := l.length) (c := lc) Try.underlying33 ti38 rfl rfl (by omega) (by omega)) rfl ?_
          refine DG.look rfl rfl (Yield.fieldAddr fa38_3 rfl) rfl ?_
          refine DG.look rfl rfl (Yield.load (v := cd.m.cell) ti36 rfl (by rw [show ox + (i : Int).toNat * 4 = ox + i * 4 by omega]; exact (SlR.elem (f := CD.cells) (xs := l) (i := i) (SlR.of_osl (E := 38) (a := some ⟨bx, ox, none⟩) (c := lc) (by repeat (first | exact Ext.here | apply Ext.there))) CD.len hg1) 3 _ rfl)) rfl ?_
          refine DG.look rfl rfl (Yield.len_slice (a := cd.m.a) (m := cd.m.b.length) (c := cd.m.c) Try.underlying36 rfl rfl) rfl ?_
          refine DG.look rfl rfl (Yield.as (Yield.gtr rfl rfl) (bF (by rw [hml]; decide))) rfl ?_
          refine DG.look rfl rfl (by first | exact Yield.pick_t rfl rfl | exact Yield.pick_f rfl rfl | exact Yield.pick rfl (fun _ => rfl) (fun _ => rfl)) rfl ?_
          refine DG.look rfl rfl (by first | exact Yield.pick_t rfl rfl | exact Yield.pick_f rfl rfl | exact Yield.pick rfl (fun _ => rfl) (fun _ => rfl)) rfl ?_
          refine DG.look rfl rfl (Yield.move rfl) rfl ?_
          refine DG.look rfl rfl (Yield.move rfl) rfl ?_
          refine DG.look rfl rfl (by first | exact Yield.as (Yield.gtr rfl rfl) (bT (by omega)) | exact Yield.as (Yield.gtr rfl rfl) (bF (by omega)) | exact Yield.gtr rfl rfl) rfl ?_
          refine DG.look rfl rfl (Yield.move rfl) rfl ?_
          refine DG.pass rfl rfl rfl ?_
          refine DG.pass rfl rfl rfl ?_
          refine DG.pass rfl rfl rfl ?_
          refine DG.pass rfl rfl rfl ?_
          refine DG.pass rfl rfl rfl ?_
          refine DG.pass rfl rfl rfl ?_
          refine DG.pass rfl rfl rfl ?_
          refine DG.pass rfl rfl rfl ?_
          refine DG.pass rfl rfl rfl ?_
          refine DG.pass rfl rfl rfl ?_
          refine DG.pass rfl rfl rfl ?_
          refine DG.pass rfl rfl rfl ?_
          refine DG.look rfl rfl (by first | exact Yield.pick_t rfl rfl | exact Yield.pick_f rfl rfl | exact Yield.pick rfl (fun _ => rfl) (fun _ => rfl)) rfl ?_
          refine DG.look rfl rfl (by first | exact Yield.pick_t rfl rfl | exact Yield.pick_f rfl rfl | exact Yield.pick rfl (fun _ => rfl) (fun _ => rfl)) rfl ?_
          refine DG.done ?_
          refine QG.then ?_
          refine CG.cond_f rfl ?_
          refine CG.skip ?_
          refine QG.then ?_
          refine CG.region ?_
          refine OG.yield (Yield.move rfl) rfl ?_
          refine OG.yield (Yield.move rfl) rfl ?_
          refine OG.yield (Yield.move rfl) rfl ?_
          refine OG.yield (Yield.index_slice (b := bx) (o := ox) (m := l.length) (c := lc) Try.underlying33 ti38 rfl rfl (by omega) (by omega)) rfl ?_
          refine OG.yield (Yield.fieldAddr fa38_0 rfl) rfl ?_
          refine OG.yield (Yield.load (v := .int .u32 a.tag) ti35 rfl (by rw [show ox + (i : Int).toNat * 4 = ox + i * 4 by omega]; exact (SlR.elem (f := CD.cells) (xs := l) (i := i) (SlR.of_osl (E := 38) (a := some ⟨bx, ox, none⟩) (c := lc) (by repeat (first | exact Ext.here | apply Ext.there))) CD.len hg1) 0 _ (by rw [← e1]; rfl))) rfl ?_
          refine OG.eff (Eff.mapDelete vu vi rfl Try.underlying31 keyU a.tag rfl rfl (by repeat (first | exact Foc.here | apply Foc.there))) rfl ?_
          rintro ⟨⟩ -
          rw [mdel_cons, if_pos rfl]
          refine OG.nil ?_
          refine QG.block_normal ?_
          refine QG.then ?_
          refine CG.region ?_
          refine OG.yield (Yield.move rfl) rfl ?_
          refine OG.yield (Yield.add rfl rfl (w64 (by omega) (by omega))) rfl ?_
          refine OG.yield (Yield.assign rfl) rfl ?_
          refine OG.nil ?_
          exact QG.next (i + 1) (show i + 1 ≤ l.length by omega) (show l.length - (i + 1) < l.length - i by omega) (by repeat (first | exact Env.sub_nil _ | refine Env.sub_cons rfl ?_)) (by repeat (first | exact Imp.refl _ | exact Imp.none _ | apply Imp.pull (by repeat (first | exact Ext.here | apply Ext.there)) | apply Imp.trans Imp.drop))
        · skip
          have hww : cd.write = true := e2.trans hwr
          have hml : cd.m.b.length = 0 := by rw [e4, hwr]; rfl
          obtain ⟨cp, hgp1, hgp2⟩ := map_get (k := i - 1) hl (by omega)
          obtain ⟨ap, hPp, hdp⟩ : ∃ a, P[i - 1]? = some a ∧ done a = cp.abs := by
            rw [List.getElem?_map] at hgp2
            cases hq : P[i - 1]? with
            | none => rw [hq] at hgp2; cases hgp2
            | some x => rw [hq] at hgp2; exact ⟨x, rfl, by simpa using hgp2⟩
          have ep : cp.tag = ap.tag := (congrArg Dn.tag hdp).symm
          have hlt : ap.tag < a.tag := by
            have h9 := List.pairwise_iff_getElem.1 (List.pairwise_append.1 hbinc).1
            obtain ⟨q1, q2⟩ := List.getElem?_eq_some_iff.1 hPp
            obtain ⟨q3, q4⟩ := List.getElem?_eq_some_iff.1 hPa
            have := h9 (i - 1) i q1 q3 (by omega)
            rw [q2, q4] at this; exact this
          refine CG.draw (.look 0 1 (.look 1 1 (.look 2 1 (.look 3 1 (.look 4 1 (.look 5 1 (.look 6 1 (.look 7 1 (.look 8 1 (.look 9 1 (.look 10 1 (.look 11 1 (.look 12 1 (.look 13 1 (.look 14 1 (.look 15 1 (.look 16 1 (.look 17 1 (.look 18 1 (.look 19 1 (.look 20 1 (.look 21 1 (.look 22 1 (.look 23 1 (.look 24 1 (.look 25 1 (.look 26 1 (.look 27 1 (.look 28 1 (.look 29 1 (.look 30 1 (.look 31 1 (.look 32 1 (.look 33 1 (.look 34 1 (.look 35 1 (.look 36 1 (.look 37 1 (.look 38 1 (.look 39 1 (.look 40 1 (.look 41 1 (.look 42 1 (.look 43 1 (.look 44 1 (.look 45 1 (.look 46 1 (.look 47 1 (.look 48 1 (.look 49 1 (.look 50 1 (.look 51 1 (.look 52 1 (.look 53 1 (.look 54 1 (.look 55 1 (.look 56 1 (.look 57 1 (.look 58 1 (.look 59 1 (.look 60 1 (.look 61 1 (.look 62 1 (.look 63 1 (.look 64 1 (.look 65 1 (.look 66 1 (.look 67 1 (.look 68 1 (.look 69 1 (.look 70 1 (.look 71 1 (.look 72 1 (.look 73 1 (.look 74 1 (.look 75 1 (.look 76 1 (.look 77 1 (.look 78 1 (.look 79 1 (.look 80 1 (.look 81 1 (.look 82 1 (.look 83 1 (.look 84 1 (.look 85 1 (.look 86 1 (.look 87 1 (.look 88 1 (.look 89 1 (.done))))))))))))))))))))))))))))))))))))))))))))))))))))))))))))))))))))))))))))))))))))))))))) [] [] ([]) ([]) mixed (by kernel_rfl) (Imp.none _) (Imp.none _) ?_
          refine DG.look rfl rfl (Yield.move rfl) rfl ?_
          refine DG.look rfl rfl (Yield.move rfl) rfl ?_
          refine DG.look rfl rfl (Yield.move rfl) rfl ?_
          refine DG.look rfl rfl (Yield.index_slice (b := bx) (o := ox) (m := l.length) (c := lc) Try.underlying33 ti38 rfl rfl (by omega) (by omega)) rfl ?_
          refine DG.look rfl rfl (Yield.fieldAddr fa38_0 rfl) rfl ?_
          refine DG.look rfl rfl (Yield.load (v := .int .u32 a.tag) ti35 rfl (by rw [show ox + (i : Int).toNat * 4 = ox + i * 4 by omega]; exact (SlR.elem (f := CD.cells) (xs := l) (i := i) (SlR.of_osl (E := 38) (a := some ⟨bx, ox, none⟩) (c := lc) (by repeat (first | exact Ext.here | apply Ext.there))) CD.len hg1) 0 _ (by rw [← e1]; rfl))) rfl ?_
          refine DG.look rfl rfl (Yield.as (Yield.lookup vu vi (l := (a.tag, (T : Int)) :: (P.drop (i + 1) ++ R).map ent) Try.underlying31 ti3 keyU a.tag rfl rfl (by repeat (first | exact Ext.here | apply Ext.there))) (v' := .int .i64 (T : Int)) (by rw [hlk]; rfl)) rfl ?_
          refine DG.look rfl rfl (Yield.move rfl) rfl ?_
          refine DG.look rfl rfl (Yield.as (Yield.neq rfl rfl) (bF (not_not_intro rfl))) rfl ?_
          refine DG.look rfl rfl (Yield.move rfl) rfl ?_
          refine DG.look rfl rfl (Yield.move rfl) rfl ?_
          refine DG.look rfl rfl (Yield.move rfl) rfl ?_
          refine DG.look rfl rfl (Yield.index_slice (b := bx) (o := ox) (m := l.length) (c := lc) Try.underlying33 ti38 rfl rfl (by omega) (by omega)) rfl ?_
          refine DG.look rfl rfl (Yield.fieldAddr fa38_2 rfl) rfl ?_
          refine DG.look rfl rfl (Yield.load (v := .int .u32 (3 * a.tag)) ti35 rfl (by rw [show ox + (i : Int).toNat * 4 = ox + i * 4 by omega]; exact (SlR.elem (f := CD.cells) (xs := l) (i := i) (SlR.of_osl (E := 38) (a := some ⟨bx, ox, none⟩) (c := lc) (by repeat (first | exact Ext.here | apply Ext.there))) CD.len hg1) 2 _ (by rw [← e3]; rfl))) rfl ?_
          refine DG.look rfl rfl (Yield.move rfl) rfl ?_
          refine DG.look rfl rfl (Yield.move rfl) rfl ?_
          refine DG.look rfl rfl (Yield.index_slice (b := bx) (o := ox) (m := l.length) (c := lc) Try.underlying33 ti38 rfl rfl (by omega) (by omega)) rfl ?_
          refine DG.look rfl rfl (Yield.fieldAddr fa38_0 rfl) rfl ?_
          refine DG.look rfl rfl (Yield.load (v := .int .u32 a.tag) ti35 rfl (by rw [show ox + (i : Int).toNat * 4 = ox + i * 4 by omega]; exact (SlR.elem (f := CD.cells) (xs := l) (i := i) (SlR.of_osl (E := 38) (a := some ⟨bx, ox, none⟩) (c := lc) (by repeat (first | exact Ext.here | apply Ext.there))) CD.len hg1) 0 _ (by rw [← e1]; rfl))) rfl ?_
          refine DG.look rfl rfl (Yield.mul rfl rfl (wu32 (by omega) (by omega))) rfl ?_
          refine DG.look rfl rfl (Yield.as (Yield.neq rfl rfl) (bF (by omega))) rfl ?_
          refine DG.look rfl rfl (by first | exact Yield.pick_t rfl rfl | exact Yield.pick_f rfl rfl | exact Yield.pick rfl (fun _ => rfl) (fun _ => rfl)) rfl ?_
          refine DG.look rfl rfl (Yield.move rfl) rfl ?_
          refine DG.look rfl rfl (Yield.move rfl) rfl ?_
          refine DG.look rfl rfl (Yield.move rfl) rfl ?_
          refine DG.look rfl rfl (Yield.index_slice (b := bx) (o := ox) (m := l.length) (c := lc) Try.underlying33 ti38 rfl rfl (by omega) (by omega)) rfl ?_
          refine DG.look rfl rfl (Yield.fieldAddr fa38_1 rfl) rfl ?_
          refine DG.look rfl rfl (Yield.load (v := .bool true) ti4 rfl (by rw [show ox + (i : Int).toNat * 4 = ox + i * 4 by omega]; exact (SlR.elem (f := CD.cells) (xs := l) (i := i) (SlR.of_osl (E := 38) (a := some ⟨bx, ox, none⟩) (c := lc) (by repeat (first | exact Ext.here | apply Ext.there))) CD.len hg1) 1 _ (by rw [← hww]; rfl))) rfl ?_
          refine DG.look rfl rfl (Yield.not rfl) rfl ?_
          refine DG.look rfl rfl (Yield.move rfl) rfl ?_
          refine DG.pass rfl rfl rfl ?_
          refine DG.pass rfl rfl rfl ?_
          refine DG.pass rfl rfl rfl ?_
          refine DG.pass rfl rfl rfl ?_
          refine DG.pass rfl rfl rfl ?_
          refine DG.pass rfl rfl rfl ?_
          refine DG.pass rfl rfl rfl ?_
          refine DG.pass rfl rfl rfl ?_
          refine DG.pass rfl rfl rfl ?_
          refine DG.pass rfl rfl rfl ?_
          refine DG.pass rfl rfl rfl ?_
          refine DG.pass rfl rfl rfl ?_
          refine DG.pass rfl rfl rfl ?_
          refine DG.pass rfl rfl rfl ?_
          refine DG.pass rfl rfl rfl ?_
          refine DG.pass rfl rfl rfl ?_
          refine DG.pass rfl rfl rfl ?_
          refine DG.pass rfl rfl rfl ?_
          refine DG.pass rfl rfl rfl ?_
          refine DG.pass rfl rfl rfl ?_
          refine DG.pass rfl rfl rfl ?_
          refine DG.pass rfl rfl rfl ?_
          refine DG.pass rfl rfl rfl ?_
          refine DG.look rfl rfl (by first | exact Yield.pick_t rfl rfl | exact Yield.pick_f rfl rfl | exact Yield.pick rfl (fun _ => rfl) (fun _ => rfl)) rfl ?_
          refine DG.look rfl rfl (by first | exact Yield.pick_t rfl rfl | exact Yield.pick_f rfl rfl | exact Yield.pick rfl (fun _ => rfl) (fun _ => rfl)) rfl ?_
          refine DG.look rfl rfl (Yield.move rfl) rfl ?_
          refine DG.look rfl rfl (Yield.move rfl) rfl ?_
          refine DG.look rfl rfl (Yield.move rfl) rfl ?_
          refine DG.look rfl rfl (Yield.index_slice (b := bx) (o := ox) (m := l.length) (c := lc) Try.underlying33 ti38 rfl rfl (by omega) (by omega)) rfl ?_
          refine DG.look rfl rfl (Yield.fieldAddr fa38_1 rfl) rfl ?_
          refine DG.look rfl rfl (Yield.load (v := .bool true) ti4 rfl (by rw [show ox + (i : Int).toNat * 4 = ox + i * 4 by omega]; exact (SlR.elem (f := CD.cells) (xs := l) (i := i) (SlR.of_osl (E := 38) (a := some ⟨bx, ox, none⟩) (c := lc) (by repeat (first | exact Ext.here | apply Ext.there))) CD.len hg1) 1 _ (by rw [← hww]; rfl))) rfl ?_
          refine DG.look rfl rfl (Yield.move rfl) rfl ?_
          refine DG.look rfl rfl (Yield.move rfl) rfl ?_
          refine DG.look rfl rfl (Yield.move rfl) rfl ?_
          refine DG.look rfl rfl (Yield.index_slice (b := bx) (o := ox) (m := l.length) (c := lc) Try.underlying33 ti38 rfl rfl (by omega) (by omega)) rfl ?_
          refine DG.look rfl rfl (Yield.fieldAddr fa38_3 rfl) rfl ?_
          refine DG.look rfl rfl (Yield.load (v := cd.m.cell) ti36 rfl (by rw [show ox + (i : Int).toNat * 4 = ox + i * 4 by omega]; exact (SlR.elem (f := CD.cells) (xs := l) (i := i) (SlR.of_osl (E := 38) (a := some ⟨bx, ox, none⟩) (c := lc) (by repeat (first | exact Ext.here | apply Ext.there))) CD.len hg1) 3 _ rfl)) rfl ?_
          refine DG.look rfl rfl (Yield.len_slice (a := cd.m.a) (m := cd.m.b.length) (c := cd.m.c) Try.underlying36 rfl rfl) rfl ?_
          refine DG.look rfl rfl (Yield.as (Yield.gtr rfl rfl) (bF (by rw [hml]; decide))) rfl ?_
          refine DG.look rfl rfl (by first | exact Yield.pick_t rfl rfl | exact Yield.pick_f rfl rfl | exact Yield.pick rfl (fun _ => rfl) (fun _ => rfl)) rfl ?_
          refine DG.look rfl rfl (by first | exact Yield.pick_t rfl rfl | exact Yield.pick_f rfl rfl | exact Yield.pick rfl (fun _ => rfl) (fun _ => rfl)) rfl ?_
          refine DG.look rfl rfl (Yield.move rfl) rfl ?_
          refine DG.look rfl rfl (Yield.move rfl) rfl ?_
          refine DG.look rfl rfl (by first | exact Yield.as (Yield.gtr rfl rfl) (bT (by omega)) | exact Yield.as (Yield.gtr rfl rfl) (bF (by omega)) | exact Yield.gtr rfl rfl) rfl ?_
          refine DG.look rfl rfl (Yield.move rfl) rfl ?_
          refine DG.look rfl rfl (Yield.move rfl) rfl ?_
          refine DG.look rfl rfl (Yield.move rfl) rfl ?_
          refine DG.look rfl rfl (Yield.index_slice (b := bx) (o := ox) (m := l.length) (c := lc) Try.underlying33 ti38 rfl rfl (by omega) (by omega)) rfl ?_
          refine DG.look rfl rfl (Yield.fieldAddr fa38_0 rfl) rfl ?_
          refine DG.look rfl rfl (Yield.load (v := .int .u32 a.tag) ti35 rfl (by rw [show ox + (i : Int).toNat * 4 = ox + i * 4 by omega]; exact (SlR.elem (f := CD.cells) (xs := l) (i := i) (SlR.of_osl (E := 38) (a := some ⟨bx, ox, none⟩) (c := lc) (by repeat (first | exact Ext.here | apply Ext.there))) CD.len hg1) 0 _ (by rw [← e1]; rfl))) rfl ?_
          refine DG.look rfl rfl (Yield.move rfl) rfl ?_
          refine DG.look rfl rfl (Yield.move rfl) rfl ?_
          refine DG.look rfl rfl (Yield.sub rfl rfl (w64 (by omega) (by omega))) rfl ?_
          refine DG.look rfl rfl (Yield.index_slice (b := bx) (o := ox) (m := l.length) (c := lc) (j := (i : Int) - 1) Try.underlying33 ti38 rfl rfl (by omega) (by omega)) rfl ?_
          refine DG.look rfl rfl (Yield.fieldAddr fa38_0 rfl) rfl ?_
          refine DG.look rfl rfl (Yield.load (v := .int .u32 ap.tag) ti35 rfl (by rw [show ox + ((i : Int) - 1).toNat * 4 = ox + (i - 1) * 4 by omega]; exact (SlR.elem (f := CD.cells) (xs := l) (i := i - 1) (SlR.of_osl (E := 38) (a := some ⟨bx, ox, none⟩) (c := lc) (by repeat (first | exact Ext.here | apply Ext.there))) CD.len hgp1) 0 _ (by rw [← ep]; rfl))) rfl ?_
          refine DG.look rfl rfl (Yield.as (Yield.leq rfl rfl) (bF (by omega))) rfl ?_
          refine DG.look rfl rfl (by first | exact Yield.pick_t rfl rfl | exact Yield.pick_f rfl rfl | exact Yield.pick rfl (fun _ => rfl) (fun _ => rfl)) rfl ?_
          refine DG.look rfl rfl (by first | exact Yield.pick_t rfl rfl | exact Yield.pick_f rfl rfl | exact Yield.pick rfl (fun _ => rfl) (fun _ => rfl)) rfl ?_
          refine DG.done ?_
          refine QG.then ?_
          refine CG.cond_f rfl ?_
          refine CG.skip ?_
          refine QG.then ?_
          refine CG.region ?_
          refine OG.yield (Yield.move rfl) rfl ?_
          refine OG.yield (Yield.move rfl) rfl ?_
          refine OG.yield (Yield.move rfl) rfl ?_
          refine OG.yield (Yield.index_slice (b := bx) (o := ox) (m := l.length) (c := lc) Try.underlying33 ti38 rfl rfl (by omega) (by omega)) rfl ?_
          refine OG.yield (Yield.fieldAddr fa38_0 rfl) rfl ?_
          refine OG.yield (Yield.load (v := .int .u32 a.tag) ti35 rfl (by rw [show ox + (i : Int).toNat * 4 = ox + i * 4 by omega]; exact (SlR.elem (f := CD.cells) (xs := l) (i := i) (SlR.of_osl (E := 38) (a := some ⟨bx, ox, none⟩) (c := lc) (by repeat (first | exact Ext.here | apply Ext.there))) CD.len hg1) 0 _ (by rw [← e1]; rfl))) rfl ?_
          refine OG.eff (Eff.mapDelete vu vi rfl Try.underlying31 keyU a.tag rfl rfl (by repeat (first | exact Foc.here | apply Foc.there))) rfl ?_
          rintro ⟨⟩ -
          rw [mdel_cons, if_pos rfl]
          refine OG.nil ?_
          refine QG.block_normal ?_
          refine QG.then ?_
          refine CG.region ?_
          refine OG.yield (Yield.move rfl) rfl ?_
          refine OG.yield (Yield.add rfl rfl (w64 (by omega) (by omega))) rfl ?_
          refine OG.yield (Yield.assign rfl) rfl ?_
          refine OG.nil ?_
          exact QG.next (i + 1) (show i + 1 ≤ l.length by omega) (show l.length - (i + 1) < l.length - i by omega) (by repeat (first | exact Env.sub_nil _ | refine Env.sub_cons rfl ?_)) (by repeat (first | exact Imp.refl _ | exact Imp.none _ | apply Imp.pull (by repeat (first | exact Ext.here | apply Ext.there)) | apply Imp.trans Imp.drop))
      · try replace hc := of_decide_eq_false hc
        refine CG.exit ?_
        refine QG.pass_exit ?_
        refine QG.pass_exit ?_
        refine QG.block_exit ?_
        refine QG.then ?_
        refine CG.seq ?_
        refine CG.seq ?_
        have hie : i = P.length := by omega
        subst hie
        rw [List.drop_length, List.nil_append, ← hrs]
        refine CG.region ?_
        refine OG.yield (Yield.assign rfl) rfl ?_
        refine OG.nil ?_
        refine QG.then ?_
        refine CG.block ?_
        refine CG.loop (fun x : Nat × Ds × Nat => x.1 ≤ ops.length ∧ Mid lat cnt x.2.1 x.2.2 fl wh T ∧ x.2.2 ≤ 100 * T + x.1) (fun x => [(0, .int .i64 lat), (1, .int .i64 cnt), (2, .slice a2 ops.length c2), (3, .slice a3 late.length c3), (9, .pointer (some ⟨d, 0, none⟩)), (11, .map (some r)), (12, .slice fa fl.length fc), (13, .slice wa wh.length wc), (14, .int .i64 x.2.2), (15, .int .i64 T), (18, .int .i64 x.1)]) (fun x => [D d x.2.1, hmap vu vi r (x.2.1.asks.map ent), oreqs fa fc fl, pool (fl.map CR.m), onum 3 .i64 wa wc wh, old W]) (fun x => ops.length - x.1) (0, rdyS s T, k) ⟨Nat.zero_le _, hmid, by show k ≤ 100 * T + 0; omega⟩ (by repeat (first | exact Env.sub_nil _ | refine Env.sub_cons rfl ?_)) (by repeat (first | exact Imp.refl _ | exact Imp.none _ | apply Imp.pull (by repeat (first | exact Ext.here | apply Ext.there)) | apply Imp.trans Imp.drop)) ?_
        clear hmid hbeg hk hl hll hi hP hs hrl hrs hbinc
        rintro ⟨n, s', k'⟩ ⟨hn, hmid, hk⟩
        dsimp only at hn hmid hk ⊢
        refine CG.pure (fun w hw => d_facts (d := d) (s := s') (by repeat (first | exact Ext.here | apply Ext.there)) w hw) ?_
        intro hds
        refine CG.seq ?_
        refine CG.seq ?_
        refine CG.region ?_
        refine OG.yield (Yield.move rfl) rfl ?_
        refine OG.yield (Yield.move rfl) rfl ?_
        refine OG.yield (Yield.len_slice Try.underlying22 rfl rfl) rfl ?_
        refine OG.yield (by first | exact Yield.as (Yield.lss rfl rfl) (bT (by omega)) | exact Yield.as (Yield.lss rfl rfl) (bF (by omega)) | exact Yield.lss rfl rfl) rfl ?_
        refine OG.nil ?_
        refine QG.then ?_
        refine CG.cond rfl (fun hc => ?_) (fun hc => ?_)
        · try replace hc := of_decide_eq_true hc
          have hn1 : n < ops.length := by omega
          have hget : ops[n]? = some ops[n] := by simp [hn1]
          generalize ops[n] = op at hget
          refine CG.pure (fun w hw => (hops.old (G := [D d s', hmap vu vi r (s'.asks.map ent), oreqs fa fc fl, pool (fl.map CR.m), onum 3 .i64 wa wc wh, old W]) (by repeat (first | exact Ext.here | apply Ext.there))).elem_shape VAct.len (by decide) hn1 w hw) ?_
          rintro ⟨b2, o2, rfl⟩
          have hrow : ∀ {G R : List HProp}, Ext G (old W) R → Row W G b2 (o2 + n * 11) (VAct.cells op) := fun x => (hops.old x).elem VAct.len hget
          have hmj := md_range (k := 40) (by decide) op.Major
          have hwm := wrap_u64_range op.Major
          have hsc := md_range (k := cnt) (by omega) op.Sector
          have hws := wrap_u64_range op.Sector
          refine CG.skip ?_
          refine QG.then ?_
          refine CG.seq ?_
          refine CG.block ?_
          refine CG.seq ?_
          refine CG.seq ?_
          rcases (show md 40 op.Major ≠ T ∨ md 40 op.Major = T by omega) with hmm | hmm
          · skip
            refine CG.region ?_
            refine OG.yield (Yield.move rfl) rfl ?_
            refine OG.yield (Yield.move rfl) rfl ?_
            refine OG.yield (Yield.index_slice Try.underlying22 ti42 rfl rfl (by omega) (by omega)) rfl ?_
            refine OG.yield (Yield.fieldAddr fa42_5 rfl) rfl ?_
            refine OG.yield (Yield.load (v := .int .i64 op.Major) ti3 rfl (by rw [show o2 + (n : Int).toNat * 11 + 5 = (o2 + n * 11) + 5 by omega]; exact (hrow (by repeat (first | exact Ext.here | apply Ext.there))) 5 _ rfl)) rfl ?_
            refine OG.yield (Yield.conv Try.underlying25 rfl rfl rfl) rfl ?_
            refine OG.yield (Yield.rem (c := md 40 op.Major) rfl rfl (by decide) (tmod_pos (by omega) (by omega))) rfl ?_
            refine OG.yield (Yield.conv (c := md 40 op.Major) Try.underlying3 rfl rfl (w64 (by omega) (by omega))) rfl ?_
            refine OG.yield (Yield.move rfl) rfl ?_
            refine OG.yield (by first | exact Yield.as (Yield.neq rfl rfl) (bT (by omega)) | exact Yield.as (Yield.neq rfl rfl) (bF (by omega)) | exact Yield.neq rfl rfl) rfl ?_
            refine OG.nil ?_
            refine QG.then ?_
            refine CG.cond_t rfl ?_
            refine CG.exit ?_
            refine QG.pass_exit ?_
            refine QG.block_exit ?_
            refine QG.then ?_
            refine CG.region ?_
            refine OG.yield (Yield.move rfl) rfl ?_
            refine OG.yield (Yield.add rfl rfl (w64 (by omega) (by omega))) rfl ?_
            refine OG.yield (Yield.assign rfl) rfl ?_
            refine OG.nil ?_
            exact QG.next (n + 1, s', k') ⟨by simp only; omega, hmid, by show k' ≤ 100 * T + (n + 1); omega⟩ (by simp only; omega) (by repeat (first | exact Env.sub_nil _ | refine Env.sub_cons rfl ?_)) (by repeat (first | exact Imp.refl _ | exact Imp.none _ | apply Imp.pull (by repeat (first | exact Ext.here | apply Ext.there)) | apply Imp.trans Imp.drop))
          · skip
            refine CG.region ?_
            refine OG.yield (Yield.move rfl) rfl ?_
            refine OG.yield (Yield.move rfl) rfl ?_
            refine OG.yield (Yield.index_slice Try.underlying22 ti42 rfl rfl (by omega) (by omega)) rfl ?_
            refine OG.yield (Yield.fieldAddr fa42_5 rfl) rfl ?_
            refine OG.yield (Yield.load (v := .int .i64 op.Major) ti3 rfl (by rw [show o2 + (n : Int).toNat * 11 + 5 = (o2 + n * 11) + 5 by omega]; exact (hrow (by repeat (first | exact Ext.here | apply Ext.there))) 5 _ rfl)) rfl ?_
            refine OG.yield (Yield.conv Try.underlying25 rfl rfl rfl) rfl ?_
            refine OG.yield (Yield.rem (c := md 40 op.Major) rfl rfl (by decide) (tmod_pos (by omega) (by omega))) rfl ?_
            refine OG.yield (Yield.conv (c := md 40 op.Major) Try.underlying3 rfl rfl (w64 (by omega) (by omega))) rfl ?_
            refine OG.yield (Yield.move rfl) rfl ?_
            refine OG.yield (by first | exact Yield.as (Yield.neq rfl rfl) (bT (by omega)) | exact Yield.as (Yield.neq rfl rfl) (bF (by omega)) | exact Yield.neq rfl rfl) rfl ?_
            refine OG.nil ?_
            refine QG.then ?_
            refine CG.cond_f rfl ?_
            refine CG.skip ?_
            refine QG.then ?_
            refine CG.seq ?_
            refine CG.region ?_
            refine OG.yield (Yield.assign rfl) rfl ?_
            refine OG.nil ?_
            refine QG.then ?_
            refine CG.cut (fun m : Msg => m.b = if op.Write then List.replicate 64 0 else []) (fun m => [(0, .int .i64 lat), (1, .int .i64 cnt), (2, .slice (some ⟨b2, o2, none⟩) ops.length c2), (3, .slice a3 late.length c3), (9, .pointer (some ⟨d, 0, none⟩)), (11, .map (some r)), (12, .slice fa fl.length fc), (13, .slice wa wh.length wc), (14, .int .i64 k'), (15, .int .i64 T), (18, .int .i64 n), (19, m.cell)]) (fun m => [m.own, D d s', hmap vu vi r (s'.asks.map ent), oreqs fa fc fl, pool (fl.map CR.m), onum 3 .i64 wa wc wh, old W]) ?_ ?_
            · skip
              refine CG.seq ?_
              refine CG.region ?_
              refine OG.yield (Yield.move rfl) rfl ?_
              refine OG.yield (Yield.move rfl) rfl ?_
              refine OG.yield (Yield.index_slice Try.underlying22 ti42 rfl rfl (by omega) (by omega)) rfl ?_
              refine OG.yield (Yield.fieldAddr fa42_1 rfl) rfl ?_
              refine OG.yield (Yield.load (v := .bool op.Write) ti4 rfl (by rw [show o2 + (n : Int).toNat * 11 + 1 = (o2 + n * 11) + 1 by omega]; exact (hrow (by repeat (first | exact Ext.here | apply Ext.there))) 1 _ rfl)) rfl ?_
              refine OG.nil ?_
              refine QG.then ?_
              refine CG.cond rfl (fun hc => ?_) (fun hc => ?_)
              · try replace hc := of_decide_eq_true hc
                have hwt : op.Write = true := by simpa using hc
                refine CG.region ?_
                refine OG.effd (Eff.makeB 64 Try.underlying36 ti5 rfl rfl (by decide)) rfl ?_
                rintro b189 -
                refine OG.yield (Yield.assign rfl) rfl ?_
                refine OG.nil ?_
                exact QG.mid ⟨some ⟨b189, 0, none⟩, 64, List.replicate 64 0⟩ (by rw [if_pos hwt]) (by repeat (first | exact Env.sub_nil _ | refine Env.sub_cons rfl ?_)) (by repeat (first | exact Imp.refl _ | exact Imp.none _ | apply Imp.pull (by repeat (first | exact Ext.here | apply Ext.there)) | apply Imp.trans Imp.drop))
              · try replace hc := of_decide_eq_false hc
                have hwf : op.Write = false := by simpa using hc
                refine CG.skip ?_
                exact QG.mid Msg.nil (by rw [if_neg (by rw [hwf]; decide)]; rfl) (by repeat (first | exact Env.sub_nil _ | refine Env.sub_cons rfl ?_)) (Imp.trans own_nil (by repeat (first | exact Imp.refl _ | exact Imp.none _ | apply Imp.pull (by repeat (first | exact Ext.here | apply Ext.there)) | apply Imp.trans Imp.drop)))
            rintro m hm
            have hml : m.b.length ≤ 64 := by rw [hm]; split; rw [List.length_replicate]; exact Nat.le_refl _; exact Nat.zero_le _
            have hmw : op.Write = true → m.b.length = 64 := fun q => by rw [hm, if_pos q, List.length_replicate]
            refine CG.seq ?_
            refine CG.region ?_
            refine OG.yield (Yield.move rfl) rfl ?_
            refine OG.callo call13 rfl ((by repeat (first | exact Imp.refl _ | exact Imp.none _ | apply Imp.pull (by repeat (first | exact Ext.here | apply Ext.there)) | apply Imp.trans Imp.drop))) (waiting_spec W _ (d := d) (s := s')) rfl ?_
            rintro ⟨aw, cw⟩ -
            rw [List.length_map]
            refine OG.yield (Yield.len_slice (a := aw) (m := s'.asks.length) (c := cw) Try.underlying43 rfl rfl) rfl ?_
            refine OG.yield (Yield.assign rfl) rfl ?_
            refine OG.nil ?_
            refine QG.then ?_
            refine CG.seq ?_
            rcases (show s'.asks.length < 4 ∨ s'.asks.length = 4 by have := hds.asks; omega) with h4 | h4
            · skip
              have he : subE s' op.Write (md cnt op.Sector) m.b.length T = 0 := by unfold subE; rw [if_neg (by have := hmid.ba.cnt; omega), if_neg (by omega), if_neg (fun q => q.2 (hmw q.1)), if_neg (by omega)]
              obtain ⟨hw1, hen, hmid2⟩ := hmid.submit (write := op.Write) (sector := md cnt op.Sector) (data := m.b) (by omega) (by omega)
              refine CG.draw (.look 0 1 (.look 1 1 (.look 2 1 (.look 3 1 (.look 4 1 (.look 5 1 (.look 6 1 (.look 7 1 (.look 8 1 (.look 9 1 (.look 10 1 (.look 11 1 (.look 12 1 (.look 13 1 (.look 14 1 (.look 15 1 (.look 16 1 (.look 17 1 (.look 18 1 (.look 19 1 (.look 20 1 (.look 21 1 (.eff1 22 false (.look 23 1 (.look 24 1 (.look 25 1 (.look 26 1 (.look 27 1 (.done))))))))))))))))))))))))))))) [22] [] ([]) ([]) mixed (by kernel_rfl) (Imp.none _) (Imp.none _) ?_
              refine DG.look rfl rfl (Yield.move rfl) rfl ?_
              refine DG.look rfl rfl (Yield.move rfl) rfl ?_
              refine DG.look rfl rfl (Yield.move rfl) rfl ?_
              refine DG.look rfl rfl (Yield.index_slice Try.underlying22 ti42 rfl rfl (by omega) (by omega)) rfl ?_
              refine DG.look rfl rfl (Yield.fieldAddr fa42_1 rfl) rfl ?_
              refine DG.look rfl rfl (Yield.load (v := .bool op.Write) ti4 rfl (by rw [show o2 + (n : Int).toNat * 11 + 1 = (o2 + n * 11) + 1 by omega]; exact (hrow (by repeat (first | exact Ext.here | apply Ext.there))) 1 _ rfl)) rfl ?_
              refine DG.look rfl rfl (Yield.move rfl) rfl ?_
              refine DG.look rfl rfl (Yield.move rfl) rfl ?_
              refine DG.look rfl rfl (Yield.index_slice Try.underlying22 ti42 rfl rfl (by omega) (by omega)) rfl ?_
              refine DG.look rfl rfl (Yield.fieldAddr fa42_2 rfl) rfl ?_
              refine DG.look rfl rfl (Yield.load (v := .int .i64 op.Sector) ti3 rfl (by rw [show o2 + (n : Int).toNat * 11 + 2 = (o2 + n * 11) + 2 by omega]; exact (hrow (by repeat (first | exact Ext.here | apply Ext.there))) 2 _ rfl)) rfl ?_
              refine DG.look rfl rfl (Yield.conv Try.underlying25 rfl rfl rfl) rfl ?_
              refine DG.look rfl rfl (Yield.move rfl) rfl ?_
              refine DG.look rfl rfl (Yield.conv (c := cnt) Try.underlying25 rfl rfl (by rw [IntKind.wrap_u64]; omega)) rfl ?_
              refine DG.look rfl rfl (Yield.rem (c := md cnt op.Sector) rfl rfl (by omega) (tmod_pos (by omega) (by omega))) rfl ?_
              refine DG.look rfl rfl (Yield.conv (c := md cnt op.Sector) Try.underlying3 rfl rfl (w64 (by omega) (by omega))) rfl ?_
              refine DG.look rfl rfl (Yield.move rfl) rfl ?_
              refine DG.look rfl rfl (Yield.add rfl rfl (w64 (by omega) (by omega))) rfl ?_
              refine DG.look rfl rfl (Yield.conv (c := ((k' + 1 : Nat) : Int)) Try.underlying35 rfl rfl (wu32 (by omega) (by omega))) rfl ?_
              refine DG.look rfl rfl (Yield.mul (c := 3 * ((k' + 1 : Nat) : Int)) rfl rfl (by rw [show ((k' + 1 : Nat) : Int) * 3 = 3 * ((k' + 1 : Nat) : Int) by omega]; exact wu32 (by omega) (by omega))) rfl ?_
              refine DG.look rfl rfl (Yield.move rfl) rfl ?_
              refine DG.look rfl rfl (Yield.move rfl) rfl ?_
              refine DG.eff1 ?_
              refine Chg.callo rfl rfl call14 rfl ((by repeat (first | exact Imp.refl _ | exact Imp.none _ | apply Imp.pull (by repeat (first | exact Ext.here | apply Ext.there)) | apply Imp.trans Imp.drop))) (submit_ok W _ (d := d) (s := s') (write := op.Write) (sector := md cnt op.Sector) (addr := 3 * ((k' + 1 : Nat) : Int)) (major := (T : Int)) (da := m.a) (dc := m.c) (data := m.b) (RdB.of_osl (E := 5) (a := m.a) (c := m.c) (by repeat (first | exact Ext.here | apply Ext.there)) rfl rfl) (by omega) he) rfl (fun _ => (by repeat (first | exact Imp.refl _ | exact Imp.none _ | apply Imp.pull (by repeat (first | exact Ext.here | apply Ext.there)) | apply Imp.trans Imp.drop))) (fun _ => Imp.refl _) (fun _ => (by repeat (first | exact Imp.refl _ | exact Imp.none _ | apply Imp.pull (by repeat (first | exact Ext.here | apply Ext.there)) | apply Imp.trans Imp.drop))) ?_
              rintro ⟨⟩ -
              rw [hw1]
              refine DG.look rfl rfl (Yield.move rfl) rfl ?_
              refine DG.look rfl rfl (Yield.extract rfl rfl) rfl ?_
              refine DG.look rfl rfl (Yield.extract rfl rfl) rfl ?_
              refine DG.look rfl rfl (Yield.assign rfl) rfl ?_
              refine DG.look rfl rfl (Yield.assign rfl) rfl ?_
              refine DG.done ?_
              refine QG.then ?_
              refine CG.seq ?_
              refine CG.seq ?_
              refine CG.region ?_
              refine OG.yield (Yield.move rfl) rfl ?_
              refine OG.callo call11 rfl (Imp.refl _) (num_spec W _ _) rfl ?_
              rintro ⟨⟩ -
              refine OG.yield (Yield.as (Yield.eql rfl rfl) (bF (by decide))) rfl ?_
              refine OG.yield (Yield.move rfl) rfl ?_
              refine OG.guard_no rfl rfl rfl rfl rfl (by decide) (by decide) ?_
              refine OG.guard_no rfl rfl rfl rfl rfl (by decide) (by decide) ?_
              refine OG.yield (by first | exact Yield.pick_t rfl rfl | exact Yield.pick_f rfl rfl | exact Yield.pick rfl (fun _ => rfl) (fun _ => rfl)) rfl ?_
              refine OG.nil ?_
              refine QG.then ?_
              refine CG.cond_f rfl ?_
              refine CG.skip ?_
              refine QG.then ?_
              refine CG.seq ?_
              refine CG.seq ?_
              refine CG.region ?_
              refine OG.yield (Yield.move rfl) rfl ?_
              refine OG.callo call11 rfl (Imp.refl _) (num_spec W _ _) rfl ?_
              rintro ⟨⟩ -
              refine OG.yield (Yield.as (Yield.neq rfl rfl) (bF (not_not_intro rfl))) rfl ?_
              refine OG.yield (Yield.move rfl) rfl ?_
              refine OG.guard_yes rfl rfl rfl (by decide) ?_
              refine OG.yield (Yield.move rfl) rfl ?_
              refine OG.guard_yes rfl rfl rfl (by decide) ?_
              refine OG.yield (Yield.move rfl) rfl ?_
              refine OG.guard_yes rfl rfl rfl (by decide) ?_
              refine OG.yield (Yield.add rfl rfl (w64 (by omega) (by omega))) rfl ?_
              refine OG.guard_yes rfl rfl rfl (by decide) ?_
              refine OG.yield (Yield.conv (c := ((k' + 1 : Nat) : Int)) Try.underlying35 rfl rfl (wu32 (by omega) (by omega))) rfl ?_
              refine OG.guard_yes rfl rfl rfl (by decide) ?_
              refine OG.yield (Yield.as (Yield.neq rfl rfl) (bF (not_not_intro rfl))) rfl ?_
              refine OG.yield (by first | exact Yield.pick_t rfl rfl | exact Yield.pick_f rfl rfl | exact Yield.pick rfl (fun _ => rfl) (fun _ => rfl)) rfl ?_
              refine OG.nil ?_
              refine QG.then ?_
              refine CG.cond_f rfl ?_
              refine CG.skip ?_
              refine QG.then ?_
              refine CG.seq ?_
              refine CG.region ?_
              refine OG.yield (Yield.move rfl) rfl ?_
              refine OG.yield (Yield.add rfl rfl (w64 (by omega) (by omega))) rfl ?_
              refine OG.yield (Yield.assign rfl) rfl ?_
              refine OG.nil ?_
              refine QG.then ?_
              refine CG.region ?_
              refine OG.yield (Yield.move rfl) rfl ?_
              refine OG.yield (Yield.move rfl) rfl ?_
              refine OG.yield (Yield.move rfl) rfl ?_
              refine OG.yield (Yield.move rfl) rfl ?_
              refine OG.yield (Yield.add rfl rfl (w64 (by omega) (by omega))) rfl ?_
              refine OG.eff (Eff.mapUpdate vu vi Try.underlying31 keyU ((k' + 1 : Nat) : Int) ((T : Int) + lat) rfl rfl rfl (by repeat (first | exact Foc.here | apply Foc.there))) rfl ?_
              rintro ⟨⟩ -
              rw [mset_new (by rw [List.map_map]; intro q; obtain ⟨y, hy, hq⟩ := List.mem_map.1 q; have h9 := (hmid.ba.hi y hy).2; have h8 : y.tag = ((k' + 1 : Nat) : Int) := hq; omega), ← hen]
              refine OG.nil ?_
              refine QG.block_normal ?_
              refine QG.then ?_
              refine CG.region ?_
              refine OG.yield (Yield.move rfl) rfl ?_
              refine OG.yield (Yield.add rfl rfl (w64 (by omega) (by omega))) rfl ?_
              refine OG.yield (Yield.assign rfl) rfl ?_
              refine OG.nil ?_
              exact QG.next (n + 1, subR s' op.Write (md cnt op.Sector) (3 * ((k' + 1 : Nat) : Int)) m.b T, k' + 1) ⟨by simp only; omega, hmid2, by show k' + 1 ≤ 100 * T + (n + 1); omega⟩ (by simp only; omega) (by repeat (first | exact Env.sub_nil _ | refine Env.sub_cons rfl ?_)) (by repeat (first | exact Imp.refl _ | exact Imp.none _ | apply Imp.pull (by repeat (first | exact Ext.here | apply Ext.there)) | apply Imp.trans Imp.drop))
            · skip
              have he : subE s' op.Write (md cnt op.Sector) m.b.length T = 4 := by unfold subE; rw [if_neg (by have := hmid.ba.cnt; omega), if_neg (by omega), if_neg (fun q => q.2 (hmw q.1)), if_pos (by omega)]
              refine CG.draw (.look 0 1 (.look 1 1 (.look 2 1 (.look 3 1 (.look 4 1 (.look 5 1 (.look 6 1 (.look 7 1 (.look 8 1 (.look 9 1 (.look 10 1 (.look 11 1 (.look 12 1 (.look 13 1 (.look 14 1 (.look 15 1 (.look 16 1 (.look 17 1 (.look 18 1 (.look 19 1 (.look 20 1 (.look 21 1 (.eff1 22 false (.look 23 1 (.look 24 1 (.look 25 1 (.look 26 1 (.look 27 1 (.done))))))))))))))))))))))))))))) [22] [] ([]) ([]) mixed (by kernel_rfl) (Imp.none _) (Imp.none _) ?_
              refine DG.look rfl rfl (Yield.move rfl) rfl ?_
              refine DG.look rfl rfl (Yield.move rfl) rfl ?_
              refine DG.look rfl rfl (Yield.move rfl) rfl ?_
              refine DG.look rfl rfl (Yield.index_slice Try.underlying22 ti42 rfl rfl (by omega) (by omega)) rfl ?_
              refine DG.look rfl rfl (Yield.fieldAddr fa42_1 rfl) rfl ?_
              refine DG.look rfl rfl (Yield.load (v := .bool op.Write) ti4 rfl (by rw [show o2 + (n : Int).toNat * 11 + 1 = (o2 + n * 11) + 1 by omega]; exact (hrow (by repeat (first | exact Ext.here | apply Ext.there))) 1 _ rfl)) rfl ?_
              refine DG.look rfl rfl (Yield.move rfl) rfl ?_
              refine DG.look rfl rfl (Yield.move rfl) rfl ?_
              refine DG.look rfl rfl (Yield.index_slice Try.underlying22 ti42 rfl rfl (by omega) (by omega)) rfl ?_
              refine DG.look rfl rfl (Yield.fieldAddr fa42_2 rfl) rfl ?_
              refine DG.look rfl rfl (Yield.load (v := .int .i64 op.Sector) ti3 rfl (by rw [show o2 + (n : Int).toNat * 11 + 2 = (o2 + n * 11) + 2 by omega]; exact (hrow (by repeat (first | exact Ext.here | apply Ext.there))) 2 _ rfl)) rfl ?_
              refine DG.look rfl rfl (Yield.conv Try.underlying25 rfl rfl rfl) rfl ?_
              refine DG.look rfl rfl (Yield.move rfl) rfl ?_
              refine DG.look rfl rfl (Yield.conv (c := cnt) Try.underlying25 rfl rfl (by rw [IntKind.wrap_u64]; omega)) rfl ?_
              refine DG.look rfl rfl (Yield.rem (c := md cnt op.Sector) rfl rfl (by omega) (tmod_pos (by omega) (by omega))) rfl ?_
              refine DG.look rfl rfl (Yield.conv (c := md cnt op.Sector) Try.underlying3 rfl rfl (w64 (by omega) (by omega))) rfl ?_
              refine DG.look rfl rfl (Yield.move rfl) rfl ?_
              refine DG.look rfl rfl (Yield.add rfl rfl (w64 (by omega) (by omega))) rfl ?_
              refine DG.look rfl rfl (Yield.conv (c := ((k' + 1 : Nat) : Int)) Try.underlying35 rfl rfl (wu32 (by omega) (by omega))) rfl ?_
              refine DG.look rfl rfl (Yield.mul (c := 3 * ((k' + 1 : Nat) : Int)) rfl rfl (by rw [show ((k' + 1 : Nat) : Int) * 3 = 3 * ((k' + 1 : Nat) : Int) by omega]; exact wu32 (by omega) (by omega))) rfl ?_
              refine DG.look rfl rfl (Yield.move rfl) rfl ?_
              refine DG.look rfl rfl (Yield.move rfl) rfl ?_
              refine DG.eff1 ?_
              refine Chg.callo rfl rfl call14 rfl ((by repeat (first | exact Imp.refl _ | exact Imp.none _ | apply Imp.pull (by repeat (first | exact Ext.here | apply Ext.there)) | apply Imp.trans Imp.drop))) (submit_bad W _ (d := d) (s := s') (write := op.Write) (sector := md cnt op.Sector) (addr := 3 * ((k' + 1 : Nat) : Int)) (major := (T : Int)) (da := m.a) (dm := m.b.length) (dc := m.c) (by rw [he]; decide)) rfl (fun _ => (by repeat (first | exact Imp.refl _ | exact Imp.none _ | apply Imp.pull (by repeat (first | exact Ext.here | apply Ext.there)) | apply Imp.trans Imp.drop))) (fun _ => Imp.refl _) (fun _ => (by repeat (first | exact Imp.refl _ | exact Imp.none _ | apply Imp.pull (by repeat (first | exact Ext.here | apply Ext.there)) | apply Imp.trans Imp.drop))) ?_
              rintro ⟨⟩ -
              rw [he]
              refine DG.look rfl rfl (Yield.move rfl) rfl ?_
              refine DG.look rfl rfl (Yield.extract rfl rfl) rfl ?_
              refine DG.look rfl rfl (Yield.extract rfl rfl) rfl ?_
              refine DG.look rfl rfl (Yield.assign rfl) rfl ?_
              refine DG.look rfl rfl (Yield.assign rfl) rfl ?_
              refine DG.done ?_
              refine QG.then ?_
              refine CG.seq ?_
              refine CG.seq ?_
              refine CG.region ?_
              refine OG.yield (Yield.move rfl) rfl ?_
              refine OG.callo call11 rfl (Imp.refl _) (num_spec W _ _) rfl ?_
              rintro ⟨⟩ -
              refine OG.yield (Yield.as (Yield.eql rfl rfl) (bT rfl)) rfl ?_
              refine OG.yield (Yield.move rfl) rfl ?_
              refine OG.guard_yes rfl rfl rfl (by decide) ?_
              refine OG.yield (Yield.move rfl) rfl ?_
              refine OG.guard_yes rfl rfl rfl (by decide) ?_
              refine OG.yield (Yield.as (Yield.eql rfl rfl) (bT (by rw [h4]; rfl))) rfl ?_
              refine OG.yield (by first | exact Yield.pick_t rfl rfl | exact Yield.pick_f rfl rfl | exact Yield.pick rfl (fun _ => rfl) (fun _ => rfl)) rfl ?_
              refine OG.nil ?_
              refine QG.then ?_
              refine CG.cond_t rfl ?_
              refine CG.exit ?_
              refine QG.pass_exit ?_
              refine QG.block_exit ?_
              refine QG.then ?_
              refine CG.region ?_
              refine OG.yield (Yield.move rfl) rfl ?_
              refine OG.yield (Yield.add rfl rfl (w64 (by omega) (by omega))) rfl ?_
              refine OG.yield (Yield.assign rfl) rfl ?_
              refine OG.nil ?_
              exact QG.next (n + 1, s', k') ⟨by simp only; omega, hmid, by show k' ≤ 100 * T + (n + 1); omega⟩ (by simp only; omega) (by repeat (first | exact Env.sub_nil _ | refine Env.sub_cons rfl ?_)) (by repeat (first | exact Imp.refl _ | exact Imp.none _ | apply Imp.pull (by repeat (first | exact Ext.here | apply Ext.there)) | apply Imp.trans Imp.drop))
        · try replace hc := of_decide_eq_false hc
          refine CG.exit ?_
          refine QG.pass_exit ?_
          refine QG.pass_exit ?_
          refine QG.block_exit ?_
          refine QG.then ?_
          refine CG.seq ?_
          refine CG.region ?_
          refine OG.yield (Yield.move rfl) rfl ?_
          refine OG.callo call15 rfl ((by repeat (first | exact Imp.refl _ | exact Imp.none _ | apply Imp.pull (by repeat (first | exact Ext.here | apply Ext.there)) | apply Imp.trans Imp.drop))) (issue_spec W _ (d := d) (s := s')) rfl ?_
          rintro ⟨lq, lqa, lqc⟩ hlq
          dsimp only at hlq
          have hlqin : ∀ q ∈ lq, ∃ a ∈ s'.asks, q.abs = req s' a := fun q hq => by
            have h9 : q.abs ∈ issR s' := by rw [← hlq]; exact List.mem_map_of_mem hq
            unfold issR at h9
            obtain ⟨a, ha, he⟩ := List.mem_map.1 h9
            exact ⟨a, (List.mem_filter.1 ha).1, he.symm⟩
          have hlqm : ∀ q ∈ lq, q.m.b.length ≤ 64 := fun q hq => by
            obtain ⟨a, ha, he⟩ := hlqin q hq
            have h9 : q.m.b = a.data := congrArg Rq.data he
            rw [h9]; exact hds.data a ha
          have hlqs : ∀ q ∈ lq, q.part = 3 ∧ (50 ≤ q.sector ∧ q.sector < 50 + cnt) ∧ 1 ≤ q.tag ∧ q.tag ≤ k' := fun q hq => by
            obtain ⟨a, ha, he⟩ := hlqin q hq
            have h1 : q.part = s'.part := congrArg Rq.part he
            have h2 : q.sector = s'.first + a.sector := congrArg Rq.sector he
            have h3 : q.tag = a.tag := congrArg Rq.tag he
            have h4 := hds.sec a ha
            have h5 := hmid.ba.hi a ha
            rw [h1, h2, h3, hmid.ba.part, hmid.ba.first]
            have h6 := hmid.ba.cnt
            omega
          have hlql : lq.length ≤ 4 := by
            have h9 := congrArg List.length hlq
            unfold issR at h9
            rw [List.length_map, List.length_map] at h9
            have := List.length_filter_le (fun a : Ak => a.st == 0) s'.asks
            have := hds.asks; omega
          dsimp only [Rqs.G, Rqs.ms, List.cons_append, List.nil_append]
          refine OG.yield (Yield.assign rfl) rfl ?_
          refine OG.nil ?_
          refine QG.then ?_
          refine CG.seq ?_
          refine CG.seq ?_
          refine CG.region ?_
          refine OG.yield (Yield.assign rfl) rfl ?_
          refine OG.nil ?_
          refine QG.then ?_
          refine CG.block ?_
          refine CG.loop (fun x : I4 => x.i ≤ lq.length ∧ x.ws.length = x.i ∧ ∀ w ∈ x.ws, (T : Int) ≤ w ∧ w < T + lat) (fun x => [(0, .int .i64 lat), (1, .int .i64 cnt), (2, .slice a2 ops.length c2), (3, .slice a3 late.length c3), (9, .pointer (some ⟨d, 0, none⟩)), (11, .map (some r)), (12, .slice x.fa (fl.length + x.i) x.fc), (13, .slice x.wa (wh.length + x.i) x.wc), (14, .int .i64 k'), (15, .int .i64 T), (23, .slice lqa lq.length lqc), (24, .int .i64 x.i)]) (fun x => [oreqs lqa lqc lq, pool (lq.map CR.m), D d (issS s'), hmap vu vi r (s'.asks.map ent), osl 40 5 x.fa x.fc (fl.length + x.i) (((fl ++ lq.take x.i).map CR.cells).flatten), pool (fl.map CR.m), osl 3 1 x.wa x.wc (wh.length + x.i) (intsV .i64 (wh ++ x.ws)), old W]) (fun x => lq.length - x.i) ⟨0, [], fa, fc, wa, wc⟩ ⟨Nat.zero_le _, rfl, fun w h => absurd h List.not_mem_nil⟩ (by repeat (first | exact Env.sub_nil _ | refine Env.sub_cons rfl ?_)) (by dsimp only; rw [List.take_zero, List.append_nil, List.append_nil]; exact (by repeat (first | exact Imp.refl _ | exact Imp.none _ | apply Imp.pull (by repeat (first | exact Ext.here | apply Ext.there)) | apply Imp.trans Imp.drop))) ?_
          rintro ⟨i, ws, fa', fc', wa', wc'⟩ ⟨hi, hwsl, hws⟩
          dsimp only at hi hwsl hws ⊢
          refine CG.seq ?_
          refine CG.seq ?_
          refine CG.region ?_
          refine OG.yield (Yield.move rfl) rfl ?_
          refine OG.yield (Yield.move rfl) rfl ?_
          refine OG.yield (Yield.len_slice Try.underlying32 rfl rfl) rfl ?_
          refine OG.yield (by first | exact Yield.as (Yield.lss rfl rfl) (bT (by omega)) | exact Yield.as (Yield.lss rfl rfl) (bF (by omega)) | exact Yield.lss rfl rfl) rfl ?_
          refine OG.nil ?_
          refine QG.then ?_
          refine CG.cond rfl (fun hc => ?_) (fun hc => ?_)
          · try replace hc := of_decide_eq_true hc
            have hi1 : i < lq.length := by omega
            have hg1 : lq[i]? = some lq[i] := by simp [hi1]
            have hqs := hlqs lq[i] (List.getElem_mem hi1)
            generalize lq[i] = q at hg1 hqs
            obtain ⟨hq1, hq2, hq3⟩ := hqs
            have htk : lq.take (i + 1) = lq.take i ++ [q] := by obtain ⟨hlt, hq⟩ := List.getElem?_eq_some_iff.1 hg1; rw [List.take_succ_eq_append_getElem hlt, hq]
            refine CG.pure (fun w hw => SlR.elem_shape (W0 := W) (f := CR.cells) (xs := lq) (i := i) (SlR.of_osl (E := 40) (a := lqa) (c := lqc) Ext.here) CR.len (by decide) hi1 w hw) ?_
            rintro ⟨bq, oq, rfl⟩
            refine CG.skip ?_
            refine QG.then ?_
            refine CG.seq ?_
            refine CG.block ?_
            refine CG.seq ?_
            refine CG.seq ?_
            refine CG.region ?_
            refine OG.yield (Yield.move rfl) rfl ?_
            refine OG.yield (Yield.move rfl) rfl ?_
            refine OG.yield (Yield.index_slice (b := bq) (o := oq) (m := lq.length) (c := lqc) Try.underlying32 ti40 rfl rfl (by omega) (by omega)) rfl ?_
            refine OG.yield (Yield.fieldAddr fa40_3 rfl) rfl ?_
            refine OG.yield (Yield.load (v := .int .i64 q.sector) ti3 rfl (by rw [show oq + (i : Int).toNat * 5 = oq + i * 5 by omega]; exact (SlR.elem (f := CR.cells) (xs := lq) (i := i) (SlR.of_osl (E := 40) (a := some ⟨bq, oq, none⟩) (c := lqc) Ext.here) CR.len hg1) 3 _ rfl)) rfl ?_
            refine OG.yield (by first | exact Yield.as (Yield.lss rfl rfl) (bT (by omega)) | exact Yield.as (Yield.lss rfl rfl) (bF (by omega)) | exact Yield.lss rfl rfl) rfl ?_
            refine OG.yield (Yield.move rfl) rfl ?_
            refine OG.guard_yes rfl rfl rfl (by decide) ?_
            refine OG.yield (Yield.move rfl) rfl ?_
            refine OG.guard_yes rfl rfl rfl (by decide) ?_
            refine OG.yield (Yield.move rfl) rfl ?_
            refine OG.guard_yes rfl rfl rfl (by decide) ?_
            refine OG.yield (Yield.index_slice (b := bq) (o := oq) (m := lq.length) (c := lqc) Try.underlying32 ti40 rfl rfl (by omega) (by omega)) rfl ?_
            refine OG.guard_yes rfl rfl rfl (by decide) ?_
            refine OG.yield (Yield.fieldAddr fa40_3 rfl) rfl ?_
            refine OG.guard_yes rfl rfl rfl (by decide) ?_
            refine OG.yield (Yield.load (v := .int .i64 q.sector) ti3 rfl (by rw [show oq + (i : Int).toNat * 5 = oq + i * 5 by omega]; exact (SlR.elem (f := CR.cells) (xs := lq) (i := i) (SlR.of_osl (E := 40) (a := some ⟨bq, oq, none⟩) (c := lqc) Ext.here) CR.len hg1) 3 _ rfl)) rfl ?_
            refine OG.guard_yes rfl rfl rfl (by decide) ?_
            refine OG.yield (Yield.move rfl) rfl ?_
            refine OG.guard_yes rfl rfl rfl (by decide) ?_
            refine OG.yield (Yield.add rfl rfl (w64 (by omega) (by omega))) rfl ?_
            refine OG.guard_yes rfl rfl rfl (by decide) ?_
            refine OG.yield (by first | exact Yield.as (Yield.geq rfl rfl) (bT (by omega)) | exact Yield.as (Yield.geq rfl rfl) (bF (by omega)) | exact Yield.geq rfl rfl) rfl ?_
            refine OG.yield (by first | exact Yield.pick_t rfl rfl | exact Yield.pick_f rfl rfl | exact Yield.pick rfl (fun _ => rfl) (fun _ => rfl)) rfl ?_
            refine OG.yield (Yield.move rfl) rfl ?_
            refine OG.guard_yes rfl rfl rfl (by decide) ?_
            refine OG.yield (Yield.move rfl) rfl ?_
            refine OG.guard_yes rfl rfl rfl (by decide) ?_
            refine OG.yield (Yield.move rfl) rfl ?_
            refine OG.guard_yes rfl rfl rfl (by decide) ?_
            refine OG.yield (Yield.index_slice (b := bq) (o := oq) (m := lq.length) (c := lqc) Try.underlying32 ti40 rfl rfl (by omega) (by omega)) rfl ?_
            refine OG.guard_yes rfl rfl rfl (by decide) ?_
            refine OG.yield (Yield.fieldAddr fa40_0 rfl) rfl ?_
            refine OG.guard_yes rfl rfl rfl (by decide) ?_
            refine OG.yield (Yield.load (v := .int .i64 3) ti3 rfl (by rw [show oq + (i : Int).toNat * 5 = oq + i * 5 by omega]; exact (SlR.elem (f := CR.cells) (xs := lq) (i := i) (SlR.of_osl (E := 40) (a := some ⟨bq, oq, none⟩) (c := lqc) Ext.here) CR.len hg1) 0 _ (by rw [← hq1]; rfl))) rfl ?_
            refine OG.guard_yes rfl rfl rfl (by decide) ?_
            refine OG.yield (Yield.as (Yield.neq rfl rfl) (bF (not_not_intro rfl))) rfl ?_
            refine OG.yield (by first | exact Yield.pick_t rfl rfl | exact Yield.pick_f rfl rfl | exact Yield.pick rfl (fun _ => rfl) (fun _ => rfl)) rfl ?_
            refine OG.nil ?_
            refine QG.then ?_
            refine CG.cond_f rfl ?_
            refine CG.skip ?_
            refine QG.then ?_
            refine CG.seq ?_
            refine CG.region ?_
            refine OG.yield (Yield.assign rfl) rfl ?_
            refine OG.nil ?_
            refine QG.then ?_
            refine CG.cut (fun w : Int => 0 ≤ w ∧ w < lat) (fun w => [(0, .int .i64 lat), (1, .int .i64 cnt), (2, .slice a2 ops.length c2), (3, .slice a3 late.length c3), (9, .pointer (some ⟨d, 0, none⟩)), (11, .map (some r)), (12, .slice fa' (fl.length + i) fc'), (13, .slice wa' (wh.length + i) wc'), (14, .int .i64 k'), (15, .int .i64 T), (23, .slice (some ⟨bq, oq, none⟩) lq.length lqc), (24, .int .i64 i), (25, .int .i64 w)]) (fun w => [oreqs (some ⟨bq, oq, none⟩) lqc lq, pool (lq.map CR.m), D d (issS s'), hmap vu vi r (s'.asks.map ent), osl 40 5 fa' fc' (fl.length + i) (((fl ++ lq.take i).map CR.cells).flatten), pool (fl.map CR.m), osl 3 1 wa' wc' (wh.length + i) (intsV .i64 (wh ++ ws)), old W]) ?_ ?_
            · skip
              refine CG.seq ?_
              refine CG.region ?_
              refine OG.yield (Yield.move rfl) rfl ?_
              refine OG.yield (Yield.len_slice Try.underlying23 rfl rfl) rfl ?_
              refine OG.yield (by first | exact Yield.as (Yield.gtr rfl rfl) (bT (by omega)) | exact Yield.as (Yield.gtr rfl rfl) (bF (by omega)) | exact Yield.gtr rfl rfl) rfl ?_
              refine OG.nil ?_
              refine QG.then ?_
              refine CG.cond rfl (fun hc => ?_) (fun hc => ?_)
              · try replace hc := of_decide_eq_true hc
                have hl0 : 0 < late.length := by omega
                have hm1 := Int.emod_nonneg q.tag (show (late.length : Int) ≠ 0 by omega)
                have hm2 := Int.emod_lt_of_pos q.tag (show (0 : Int) < late.length by omega)
                obtain ⟨J, hJ⟩ : ∃ J : Nat, q.tag % (late.length : Int) = J := ⟨(q.tag % (late.length : Int)).toNat, by omega⟩
                have hJl : J < late.length := by omega
                have hgl : late[J]? = some late[J] := by simp [hJl]
                generalize late[J] = lx at hgl
                have hlx := md_range (k := lat) (by omega) lx
                have hwlx := wrap_u64_range lx
                refine CG.pure (fun w hw => SlR.shape (hlt0.old (G := [oreqs (some ⟨bq, oq, none⟩) lqc lq, pool (lq.map CR.m), D d (issS s'), hmap vu vi r (s'.asks.map ent), osl 40 5 fa' fc' (fl.length + i) (((fl ++ lq.take i).map CR.cells).flatten), pool (fl.map CR.m), osl 3 1 wa' wc' (wh.length + i) (intsV .i64 (wh ++ ws)), old W]) (by repeat (first | exact Ext.here | apply Ext.there))) (by intro q; have := congrArg List.length q; rw [intsV_len] at this; simp only [List.length_nil] at this; omega) w hw) ?_
                rintro ⟨bl, ol, rfl⟩
                refine CG.region ?_
                refine OG.yield (Yield.move rfl) rfl ?_
                refine OG.yield (Yield.move rfl) rfl ?_
                refine OG.yield (Yield.move rfl) rfl ?_
                refine OG.yield (Yield.index_slice (b := bq) (o := oq) (m := lq.length) (c := lqc) Try.underlying32 ti40 rfl rfl (by omega) (by omega)) rfl ?_
                refine OG.yield (Yield.fieldAddr fa40_1 rfl) rfl ?_
                refine OG.yield (Yield.load (v := .int .u32 q.tag) ti35 rfl (by rw [show oq + (i : Int).toNat * 5 = oq + i * 5 by omega]; exact (SlR.elem (f := CR.cells) (xs := lq) (i := i) (SlR.of_osl (E := 40) (a := some ⟨bq, oq, none⟩) (c := lqc) Ext.here) CR.len hg1) 1 _ rfl)) rfl ?_
                refine OG.yield (Yield.conv (c := q.tag) Try.underlying3 rfl rfl (w64 (by omega) (by omega))) rfl ?_
                refine OG.yield (Yield.move rfl) rfl ?_
                refine OG.yield (Yield.len_slice Try.underlying23 rfl rfl) rfl ?_
                refine OG.yield (Yield.rem (c := (J : Int)) rfl rfl (by omega) (by rw [tmod_pos (by omega) (by omega), hJ])) rfl ?_
                refine OG.yield (Yield.index_slice (b := bl) (o := ol) (m := late.length) (c := c3) (j := (J : Int)) Try.underlying23 ti3 rfl rfl (by omega) (by omega)) rfl ?_
                refine OG.yield (Yield.load (v := .int .i64 lx) ti3 rfl (by rw [show ol + (J : Int).toNat * 1 = ol + J by omega]; exact (hlt0.old (by repeat (first | exact Ext.here | apply Ext.there))).cel (intsV_get hgl))) rfl ?_
                refine OG.yield (Yield.conv Try.underlying25 rfl rfl rfl) rfl ?_
                refine OG.yield (Yield.move rfl) rfl ?_
                refine OG.yield (Yield.conv (c := lat) Try.underlying25 rfl rfl (by rw [IntKind.wrap_u64]; omega)) rfl ?_
                refine OG.yield (Yield.rem (c := md lat lx) rfl rfl (by omega) (tmod_pos (by omega) (by omega))) rfl ?_
                refine OG.yield (Yield.conv (c := md lat lx) Try.underlying3 rfl rfl (w64 (by omega) (by omega))) rfl ?_
                refine OG.yield (Yield.assign rfl) rfl ?_
                refine OG.nil ?_
                exact QG.mid (md lat lx) hlx (by repeat (first | exact Env.sub_nil _ | refine Env.sub_cons rfl ?_)) (by repeat (first | exact Imp.refl _ | exact Imp.none _ | apply Imp.pull (by repeat (first | exact Ext.here | apply Ext.there)) | apply Imp.trans Imp.drop))
              · try replace hc := of_decide_eq_false hc
                refine CG.skip ?_
                exact QG.mid 0 ⟨Int.le_refl _, by omega⟩ (by repeat (first | exact Env.sub_nil _ | refine Env.sub_cons rfl ?_)) (by repeat (first | exact Imp.refl _ | exact Imp.none _ | apply Imp.pull (by repeat (first | exact Ext.here | apply Ext.there)) | apply Imp.trans Imp.drop))
            rintro w hw
            refine CG.seq ?_
            refine CG.region ?_
            refine OG.yield (Yield.move rfl) rfl ?_
            refine OG.yield (Yield.move rfl) rfl ?_
            refine OG.yield (Yield.move rfl) rfl ?_
            refine OG.yield (Yield.index_slice (b := bq) (o := oq) (m := lq.length) (c := lqc) Try.underlying32 ti40 rfl rfl (by omega) (by omega)) rfl ?_
            refine OG.yield (Yield.load_agg (vs := q.cells) ti40 rfl (CR.len q) (by rw [show oq + (i : Int).toNat * 5 = oq + i * 5 by omega]; exact SlR.elem (f := CR.cells) (xs := lq) (i := i) (SlR.of_osl (E := 40) (a := some ⟨bq, oq, none⟩) (c := lqc) Ext.here) CR.len hg1)) rfl ?_
            refine OG.effd (Eff.lit [.tmp 299] (vs := [.agg q.cells.toArray]) (cells := q.cells) Try.underlying32 ti40 rfl rfl rfl rfl (by decide) (by simp [Value.cells, CR.cells]) (by simp [Value.cells])) rfl ?_
            rintro b300 -
            refine OG.effd (Eff.append (a := fa') (c := fc') (m := fl.length + i) (xs := ((fl ++ lq.take i).map CR.cells).flatten) (k := 1) (ys := q.cells) rfl rfl rfl Try.underlying32 Try.underlying32 ti40 rfl (by decide) (by repeat (first | exact Foc.here | apply Foc.there)) (SlR.of_osl (a := some ⟨b300, 0, none⟩) (by repeat (first | exact Ext.here | apply Ext.there))) (CR.ones _) (by omega)) rfl ?_
            rintro ⟨a301, c301⟩ -
            refine OG.yield (Yield.assign rfl) rfl ?_
            refine OG.nil ?_
            refine QG.then ?_
            refine CG.region ?_
            refine OG.yield (Yield.move rfl) rfl ?_
            refine OG.yield (Yield.move rfl) rfl ?_
            refine OG.yield (Yield.move rfl) rfl ?_
            refine OG.yield (Yield.add rfl rfl (w64 (by omega) (by omega))) rfl ?_
            refine OG.effd (Eff.lit1 Try.underlying23 ti3 rfl rfl rfl) rfl ?_
            rintro b306 -
            refine OG.effd (Eff.append (a := wa') (c := wc') (m := wh.length + i) (xs := intsV .i64 (wh ++ ws)) (k := 1) (ys := intsV .i64 [(T : Int) + w]) rfl rfl rfl Try.underlying23 Try.underlying23 ti3 rfl (by decide) (by repeat (first | exact Foc.here | apply Foc.there)) (SlR.of_osl (a := some ⟨b306, 0, none⟩) (by repeat (first | exact Ext.here | apply Ext.there))) (intsV_ones _ _) (by have := hmid.fly.len; omega)) rfl ?_
            rintro ⟨a307, c307⟩ -
            refine OG.yield (Yield.assign rfl) rfl ?_
            refine OG.nil ?_
            refine QG.block_normal ?_
            refine QG.then ?_
            refine CG.region ?_
            refine OG.yield (Yield.move rfl) rfl ?_
            refine OG.yield (Yield.add rfl rfl (w64 (by omega) (by omega))) rfl ?_
            refine OG.yield (Yield.assign rfl) rfl ?_
            refine OG.nil ?_
            refine QG.next ⟨i + 1, ws ++ [(T : Int) + w], a301, c301, a307, c307⟩ ⟨by show i + 1 ≤ lq.length; omega, by show (ws ++ [(T : Int) + w]).length = i + 1; rw [List.length_append, hwsl]; rfl, fun u hu => ?_⟩ (show lq.length - (i + 1) < lq.length - i by omega) (by repeat (first | exact Env.sub_nil _ | refine Env.sub_cons rfl ?_)) ?_
            · rcases List.mem_append.1 hu with hu | hu
              · exact hws u hu
              · rw [List.mem_singleton] at hu; subst hu; omega
            · dsimp only
              rw [htk, ← List.append_assoc, flat_app, ← List.append_assoc, intsV_app]
              exact (by repeat (first | exact Imp.refl _ | exact Imp.none _ | apply Imp.pull (by repeat (first | exact Ext.here | apply Ext.there)) | apply Imp.trans Imp.drop))
          · try replace hc := of_decide_eq_false hc
            refine CG.exit ?_
            refine QG.pass_exit ?_
            refine QG.pass_exit ?_
            refine QG.block_exit ?_
            refine QG.then ?_
            refine CG.seq ?_
            refine CG.seq ?_
            have hie : i = lq.length := by omega
            subst hie
            have hans0 := hmid.issue hlq hlqm (hwsl) hws
            have hwl2 : wh.length + lq.length = (wh ++ ws).length := by rw [List.length_append, hwsl]
            have hment : s'.asks.map ent = (issS s').asks.map ent := by show _ = (s'.asks.map iss).map ent; rw [List.map_map]; rfl
            rw [List.take_length, hwl2, ← List.length_append, hment]
            refine CG.imp (Imp.trans (Imp.pull (A := pool (fl.map CR.m)) (by repeat (first | exact Ext.here | apply Ext.there)) (Imp.pull (A := pool (lq.map CR.m)) (by repeat (first | exact Ext.here | apply Ext.there)) (Imp.refl _))) pool_join) ?_
            rw [← List.map_append]
            have hfl' : (fl ++ lq).length ≤ 4 * (T + 1) := by rw [List.length_append]; omega
            clear hws hwsl hwl2 hment hlqm hlqs hlqin hlq hmid hds hi
            generalize fl ++ lq = fl' at *
            generalize wh ++ ws = wh' at *
            generalize issS s' = s1 at *
            refine CG.region ?_
            refine OG.yield (Yield.assign rfl) rfl ?_
            refine OG.nil ?_
            refine QG.then ?_
            refine CG.block ?_
            refine CG.loop (fun x : Nat × Ds => x.1 ≤ fl'.length ∧ Ans lat cnt x.2 k' fl' wh' T x.1) (fun x => [(0, .int .i64 lat), (1, .int .i64 cnt), (2, .slice a2 ops.length c2), (3, .slice a3 late.length c3), (9, .pointer (some ⟨d, 0, none⟩)), (11, .map (some r)), (12, .slice fa' fl'.length fc'), (13, .slice wa' wh'.length wc'), (14, .int .i64 k'), (15, .int .i64 T), (26, .int .i64 x.1)]) (fun x => [D d x.2, hmap vu vi r (x.2.asks.map ent), oreqs fa' fc' fl', pool (fl'.map CR.m), onum 3 .i64 wa' wc' wh', old W]) (fun x => fl'.length - x.1) (0, s1) ⟨Nat.zero_le _, hans0⟩ (by repeat (first | exact Env.sub_nil _ | refine Env.sub_cons rfl ?_)) (by repeat (first | exact Imp.refl _ | exact Imp.none _ | apply Imp.pull (by repeat (first | exact Ext.here | apply Ext.there)) | apply Imp.trans Imp.drop)) ?_
            clear hans0
            rintro ⟨f, s2⟩ ⟨hf, hans⟩
            dsimp only at hf hans ⊢
            refine CG.seq ?_
            refine CG.seq ?_
            refine CG.region ?_
            refine OG.yield (Yield.move rfl) rfl ?_
            refine OG.yield (Yield.move rfl) rfl ?_
            refine OG.yield (Yield.len_slice Try.underlying32 rfl rfl) rfl ?_
            refine OG.yield (by first | exact Yield.as (Yield.lss rfl rfl) (bT (by omega)) | exact Yield.as (Yield.lss rfl rfl) (bF (by omega)) | exact Yield.lss rfl rfl) rfl ?_
            refine OG.nil ?_
            refine QG.then ?_
            refine CG.cond rfl (fun hc => ?_) (fun hc => ?_)
            · try replace hc := of_decide_eq_true hc
              have hf1 : f < fl'.length := by omega
              have hwhl := hans.fly.len
              have hq : fl'[f]? = some fl'[f] := by simp [hf1]
              have hwf : wh'[f]? = some wh'[f] := List.getElem?_eq_getElem (by omega)
              generalize fl'[f] = q at hq
              generalize wh'[f] = w at hwf
              have hqm := hans.ba.flm q (List.mem_of_getElem? hq)
              have hqk := hans.ba.flk q (List.mem_of_getElem? hq)
              have hqin : q.m ∈ fl'.map CR.m := List.mem_map_of_mem (List.mem_of_getElem? hq)
              refine CG.pure (fun w hw => SlR.elem_shape (W0 := W) (f := CR.cells) (xs := fl') (i := f) (SlR.of_osl (E := 40) (a := fa') (c := fc') (by repeat (first | exact Ext.here | apply Ext.there))) CR.len (by decide) hf1 w hw) ?_
              rintro ⟨bf, of, rfl⟩
              refine CG.pure (fun w hw => SlR.shape (W0 := W) (SlR.of_osl (E := 3) (a := wa') (c := wc') (by repeat (first | exact Ext.here | apply Ext.there))) (by intro q; have := congrArg List.length q; rw [intsV_len] at this; simp only [List.length_nil] at this; omega) w hw) ?_
              rintro ⟨bw, ow, rfl⟩
              refine CG.skip ?_
              refine QG.then ?_
              refine CG.seq ?_
              refine CG.block ?_
              refine CG.seq ?_
              refine CG.seq ?_
              rcases (show w ≠ T ∨ w = T by omega) with hwT | hwT
              · skip
                refine CG.region ?_
                refine OG.yield (Yield.move rfl) rfl ?_
                refine OG.yield (Yield.move rfl) rfl ?_
                refine OG.yield (Yield.index_slice (b := bw) (o := ow) (m := wh'.length) (c := wc') Try.underlying23 ti3 rfl rfl (by omega) (by omega)) rfl ?_
                refine OG.yield (Yield.load (v := .int .i64 w) ti3 rfl (by rw [show ow + (f : Int).toNat * 1 = ow + f by omega]; exact (SlR.of_osl (E := 3) (a := some ⟨bw, ow, none⟩) (by repeat (first | exact Ext.here | apply Ext.there))).cel (intsV_get hwf))) rfl ?_
                refine OG.yield (Yield.move rfl) rfl ?_
                refine OG.yield (by first | exact Yield.as (Yield.neq rfl rfl) (bT (by omega)) | exact Yield.as (Yield.neq rfl rfl) (bF (by omega)) | exact Yield.neq rfl rfl) rfl ?_
                refine OG.nil ?_
                refine QG.then ?_
                refine CG.cond_t rfl ?_
                refine CG.exit ?_
                refine QG.pass_exit ?_
                refine QG.block_exit ?_
                refine QG.then ?_
                refine CG.region ?_
                refine OG.yield (Yield.move rfl) rfl ?_
                refine OG.yield (Yield.add rfl rfl (w64 (by omega) (by omega))) rfl ?_
                refine OG.yield (Yield.assign rfl) rfl ?_
                refine OG.nil ?_
                exact QG.next (f + 1, s2) ⟨by simp only; omega, hans.skip hwf hwT⟩ (by simp only; omega) (by repeat (first | exact Env.sub_nil _ | refine Env.sub_cons rfl ?_)) (by repeat (first | exact Imp.refl _ | exact Imp.none _ | apply Imp.pull (by repeat (first | exact Ext.here | apply Ext.there)) | apply Imp.trans Imp.drop))
              · skip
                refine CG.region ?_
                refine OG.yield (Yield.move rfl) rfl ?_
                refine OG.yield (Yield.move rfl) rfl ?_
                refine OG.yield (Yield.index_slice (b := bw) (o := ow) (m := wh'.length) (c := wc') Try.underlying23 ti3 rfl rfl (by omega) (by omega)) rfl ?_
                refine OG.yield (Yield.load (v := .int .i64 w) ti3 rfl (by rw [show ow + (f : Int).toNat * 1 = ow + f by omega]; exact (SlR.of_osl (E := 3) (a := some ⟨bw, ow, none⟩) (by repeat (first | exact Ext.here | apply Ext.there))).cel (intsV_get hwf))) rfl ?_
                refine OG.yield (Yield.move rfl) rfl ?_
                refine OG.yield (by first | exact Yield.as (Yield.neq rfl rfl) (bT (by omega)) | exact Yield.as (Yield.neq rfl rfl) (bF (by omega)) | exact Yield.neq rfl rfl) rfl ?_
                refine OG.nil ?_
                refine QG.then ?_
                refine CG.cond_f rfl ?_
                refine CG.skip ?_
                refine QG.then ?_
                refine CG.seq ?_
                refine CG.region ?_
                refine OG.yield (Yield.move rfl) rfl ?_
                refine OG.yield (Yield.move rfl) rfl ?_
                refine OG.yield (Yield.index_slice (b := bf) (o := of) (m := fl'.length) (c := fc') Try.underlying32 ti40 rfl rfl (by omega) (by omega)) rfl ?_
                refine OG.yield (Yield.load_agg (vs := q.cells) ti40 rfl (CR.len q) (by rw [show of + (f : Int).toNat * 5 = of + f * 5 by omega]; exact SlR.elem (f := CR.cells) (xs := fl') (i := f) (SlR.of_osl (E := 40) (a := some ⟨bf, of, none⟩) (c := fc') (by repeat (first | exact Ext.here | apply Ext.there))) CR.len hq)) rfl ?_
                refine OG.effd (Eff.alloc ti40) rfl ?_
                rintro b27 -
                refine OG.eff (Eff.storeAll ti40 rfl rfl (by repeat (first | exact Foc.here | apply Foc.there)) (CR.len q) (CR.ones _) rfl) rfl ?_
                rintro ⟨⟩ -
                refine OG.nil ?_
                refine QG.then ?_
                refine CG.seq ?_
                refine CG.seq ?_
                rcases (show q.write = true ∨ q.write = false by cases q.write <;> simp) with hqw | hqw
                · skip
                  rw [hwT] at hwf
                  obtain ⟨s3, hc1, hc2, hce, hans3⟩ := hans.com hq hwf (data := q.m.b) (fun e => absurd e (by rw [hqw]; decide))
                  refine CG.region ?_
                  refine OG.yield (Yield.fieldAddr fa40_2 rfl) rfl ?_
                  refine OG.yield (Yield.load (v := .bool true) ti4 rfl (Cel.of_blk (b := b27) (by repeat (first | exact Ext.here | apply Ext.there)) (by rw [← hqw]; rfl))) rfl ?_
                  refine OG.yield (Yield.not rfl) rfl ?_
                  refine OG.nil ?_
                  refine QG.then ?_
                  refine CG.cond_f rfl ?_
                  refine CG.skip ?_
                  refine QG.then ?_
                  refine CG.seq ?_
                  refine CG.region ?_
                  refine OG.yield (Yield.move rfl) rfl ?_
                  refine OG.yield (Yield.load_agg (vs := q.cells) ti40 rfl (CR.len q) (Row.of_blk (b := b27) (by repeat (first | exact Ext.here | apply Ext.there)) rfl)) rfl ?_
                  refine OG.callo call16 rfl ((by repeat (first | exact Imp.refl _ | exact Imp.none _ | apply Imp.pull (by repeat (first | exact Ext.here | apply Ext.there)) | apply Imp.trans Imp.drop))) (complete_spec W _ (d := d) (s := s2) (r := q) (by exact pool_rd (ms := fl'.map CR.m) (by repeat (first | exact Ext.here | apply Ext.there)) hqin) (by omega)) rfl ?_
                  rintro ⟨⟩ -
                  rw [hc1]
                  dsimp only
                  refine OG.callo call11 rfl (Imp.refl _) (num_spec W _ 0) rfl ?_
                  rintro ⟨⟩ -
                  refine OG.yield (by first | exact Yield.as (Yield.neq rfl rfl) (bT (by omega)) | exact Yield.as (Yield.neq rfl rfl) (bF (by omega)) | exact Yield.neq rfl rfl) rfl ?_
                  refine OG.yield (Yield.move rfl) rfl ?_
                  refine OG.guard_yes rfl rfl rfl (by decide) ?_
                  refine OG.yield (Yield.move rfl) rfl ?_
                  refine OG.guard_yes rfl rfl rfl (by decide) ?_
                  refine OG.yield (Yield.load_agg (vs := q.cells) ti40 rfl (CR.len q) (Row.of_blk (b := b27) (by repeat (first | exact Ext.here | apply Ext.there)) rfl)) rfl ?_
                  refine OG.guard_yes rfl rfl rfl (by decide) ?_
                  refine OG.callo call16 rfl ((by repeat (first | exact Imp.refl _ | exact Imp.none _ | apply Imp.pull (by repeat (first | exact Ext.here | apply Ext.there)) | apply Imp.trans Imp.drop))) (complete_spec W _ (d := d) (s := s3) (r := q) (by exact pool_rd (ms := fl'.map CR.m) (by repeat (first | exact Ext.here | apply Ext.there)) hqin) (by omega)) rfl ?_
                  rintro ⟨⟩ -
                  rw [hc2]
                  dsimp only
                  refine OG.guard_yes rfl rfl rfl (by decide) ?_
                  refine OG.callo call11 rfl (Imp.refl _) (num_spec W _ 302) rfl ?_
                  rintro ⟨⟩ -
                  refine OG.guard_yes rfl rfl rfl (by decide) ?_
                  refine OG.yield (by first | exact Yield.as (Yield.neq rfl rfl) (bT (by omega)) | exact Yield.as (Yield.neq rfl rfl) (bF (by omega)) | exact Yield.neq rfl rfl) rfl ?_
                  refine OG.yield (by first | exact Yield.pick_t rfl rfl | exact Yield.pick_f rfl rfl | exact Yield.pick rfl (fun _ => rfl) (fun _ => rfl)) rfl ?_
                  refine OG.nil ?_
                  refine QG.then ?_
                  refine CG.cond_f rfl ?_
                  refine CG.skip ?_
                  refine QG.block_normal ?_
                  refine QG.then ?_
                  refine CG.region ?_
                  refine OG.yield (Yield.move rfl) rfl ?_
                  refine OG.yield (Yield.add rfl rfl (w64 (by omega) (by omega))) rfl ?_
                  refine OG.yield (Yield.assign rfl) rfl ?_
                  refine OG.nil ?_
                  exact QG.next (f + 1, s3) ⟨by simp only; omega, hans3⟩ (by simp only; omega) (by repeat (first | exact Env.sub_nil _ | refine Env.sub_cons rfl ?_)) (by dsimp only; rw [hce]; exact (by repeat (first | exact Imp.refl _ | exact Imp.none _ | apply Imp.pull (by repeat (first | exact Ext.here | apply Ext.there)) | apply Imp.trans Imp.drop)))
                · skip
                  rw [hwT] at hwf
                  obtain ⟨s3, hc1, hc2, hce, hans3⟩ := hans.com hq hwf (data := wd q.tag) (fun _ => rfl)
                  refine CG.region ?_
                  refine OG.yield (Yield.fieldAddr fa40_2 rfl) rfl ?_
                  refine OG.yield (Yield.load (v := .bool false) ti4 rfl (Cel.of_blk (b := b27) (by repeat (first | exact Ext.here | apply Ext.there)) (by rw [← hqw]; rfl))) rfl ?_
                  refine OG.yield (Yield.not rfl) rfl ?_
                  refine OG.nil ?_
                  refine QG.then ?_
                  refine CG.cond_t rfl ?_
                  refine CG.seq ?_
                  refine CG.region ?_
                  refine OG.effd (Eff.makeB 64 Try.underlying36 ti5 rfl rfl (by decide)) rfl ?_
                  rintro b327 -
                  refine OG.yield (Yield.fieldAddr fa40_4 rfl) rfl ?_
                  refine OG.eff (Eff.store1 ti36 rfl rfl (by repeat (first | exact Foc.here | apply Foc.there)) rfl (by show 4 < 5; decide)) rfl ?_
                  rintro ⟨⟩ -
                  refine OG.nil ?_
                  refine QG.then ?_
                  refine CG.region ?_
                  refine OG.yield (Yield.fieldAddr fa40_4 rfl) rfl ?_
                  refine OG.yield (Yield.load (v := .slice (some ⟨b327, 0, none⟩) 64 64) ti36 rfl (Cel.of_blk (b := b27) (by repeat (first | exact Ext.here | apply Ext.there)) rfl)) rfl ?_
                  refine OG.yield (Yield.fieldAddr fa40_1 rfl) rfl ?_
                  refine OG.yield (Yield.load (v := .int .u32 q.tag) ti35 rfl (Cel.of_blk (b := b27) (by repeat (first | exact Ext.here | apply Ext.there)) rfl)) rfl ?_
                  refine OG.yield (Yield.conv (c := ((bt q.tag).toNat : Int)) Try.underlying5 rfl rfl (u8_bt (by omega))) rfl ?_
                  refine OG.yield (Yield.index_slice (b := b327) (o := 0) (m := 64) (c := 64) Try.underlying36 ti5 rfl rfl (by omega) (by omega)) rfl ?_
                  refine OG.eff (Eff.storeElem (b := b327) (o := 0) (i := 0) (v := byteV (bt q.tag)) ti5 rfl rfl (by repeat (first | exact Foc.here | apply Foc.there)) rfl (by decide)) rfl ?_
                  rintro ⟨⟩ -
                  rw [bytesV_set]
                  refine OG.nil ?_
                  refine QG.then ?_
                  refine CG.seq ?_
                  refine CG.region ?_
                  refine OG.yield (Yield.move rfl) rfl ?_
                  refine OG.yield (Yield.load_agg (vs := CR.cells { q with m := ⟨some ⟨b327, 0, none⟩, 64, wd q.tag⟩ }) ti40 rfl (CR.len _) (Row.of_blk (b := b27) (by repeat (first | exact Ext.here | apply Ext.there)) (by dsimp only [CR.cells, Msg.cell]; rw [wd_len]; rfl))) rfl ?_
                  refine OG.callo call16 rfl ((by repeat (first | exact Imp.refl _ | exact Imp.none _ | apply Imp.pull (by repeat (first | exact Ext.here | apply Ext.there)) | apply Imp.trans Imp.drop))) (complete_spec W _ (d := d) (s := s2) (r := { q with m := ⟨some ⟨b327, 0, none⟩, 64, wd q.tag⟩ }) (RdB.of_osl (E := 5) (a := some ⟨b327, 0, none⟩) (by repeat (first | exact Ext.here | apply Ext.there)) (wd_len _).symm rfl) (show (wd q.tag).length ≤ 2 ^ 47 by rw [wd_len]; decide)) rfl ?_
                  rintro ⟨⟩ -
                  dsimp only
                  rw [hc1]
                  dsimp only
                  refine OG.callo call11 rfl (Imp.refl _) (num_spec W _ 0) rfl ?_
                  rintro ⟨⟩ -
                  refine OG.yield (by first | exact Yield.as (Yield.neq rfl rfl) (bT (by omega)) | exact Yield.as (Yield.neq rfl rfl) (bF (by omega)) | exact Yield.neq rfl rfl) rfl ?_
                  refine OG.yield (Yield.move rfl) rfl ?_
                  refine OG.guard_yes rfl rfl rfl (by decide) ?_
                  refine OG.yield (Yield.move rfl) rfl ?_
                  refine OG.guard_yes rfl rfl rfl (by decide) ?_
                  refine OG.yield (Yield.load_agg (vs := CR.cells { q with m := ⟨some ⟨b327, 0, none⟩, 64, wd q.tag⟩ }) ti40 rfl (CR.len _) (Row.of_blk (b := b27) (by repeat (first | exact Ext.here | apply Ext.there)) (by dsimp only [CR.cells, Msg.cell]; rw [wd_len]; rfl))) rfl ?_
                  refine OG.guard_yes rfl rfl rfl (by decide) ?_
                  refine OG.callo call16 rfl ((by repeat (first | exact Imp.refl _ | exact Imp.none _ | apply Imp.pull (by repeat (first | exact Ext.here | apply Ext.there)) | apply Imp.trans Imp.drop))) (complete_spec W _ (d := d) (s := s3) (r := { q with m := ⟨some ⟨b327, 0, none⟩, 64, wd q.tag⟩ }) (RdB.of_osl (E := 5) (a := some ⟨b327, 0, none⟩) (by repeat (first | exact Ext.here | apply Ext.there)) (wd_len _).symm rfl) (show (wd q.tag).length ≤ 2 ^ 47 by rw [wd_len]; decide)) rfl ?_
                  rintro ⟨⟩ -
                  dsimp only
                  rw [hc2]
                  dsimp only
                  refine OG.guard_yes rfl rfl rfl (by decide) ?_
                  refine OG.callo call11 rfl (Imp.refl _) (num_spec W _ 302) rfl ?_
                  rintro ⟨⟩ -
                  refine OG.guard_yes rfl rfl rfl (by decide) ?_
                  refine OG.yield (by first | exact Yield.as (Yield.neq rfl rfl) (bT (by omega)) | exact Yield.as (Yield.neq rfl rfl) (bF (by omega)) | exact Yield.neq rfl rfl) rfl ?_
                  refine OG.yield (by first | exact Yield.pick_t rfl rfl | exact Yield.pick_f rfl rfl | exact Yield.pick rfl (fun _ => rfl) (fun _ => rfl)) rfl ?_
                  refine OG.nil ?_
                  refine QG.then ?_
                  refine CG.cond_f rfl ?_
                  refine CG.skip ?_
                  refine QG.block_normal ?_
                  refine QG.then ?_
                  refine CG.region ?_
                  refine OG.yield (Yield.move rfl) rfl ?_
                  refine OG.yield (Yield.add rfl rfl (w64 (by omega) (by omega))) rfl ?_
                  refine OG.yield (Yield.assign rfl) rfl ?_
                  refine OG.nil ?_
                  exact QG.next (f + 1, s3) ⟨by simp only; omega, hans3⟩ (by simp only; omega) (by repeat (first | exact Env.sub_nil _ | refine Env.sub_cons rfl ?_)) (by dsimp only; rw [hce]; exact (by repeat (first | exact Imp.refl _ | exact Imp.none _ | apply Imp.pull (by repeat (first | exact Ext.here | apply Ext.there)) | apply Imp.trans Imp.drop)))
            · try replace hc := of_decide_eq_false hc
              refine CG.exit ?_
              refine QG.pass_exit ?_
              refine QG.pass_exit ?_
              refine QG.block_exit ?_
              refine QG.then ?_
              refine CG.seq ?_
              refine CG.region ?_
              refine OG.yield (Yield.move rfl) rfl ?_
              refine OG.callo call13 rfl ((by repeat (first | exact Imp.refl _ | exact Imp.none _ | apply Imp.pull (by repeat (first | exact Ext.here | apply Ext.there)) | apply Imp.trans Imp.drop))) (waiting_spec W _ (d := d) (s := s2)) rfl ?_
              rintro ⟨aw, cw⟩ -
              refine OG.yield (Yield.assign rfl) rfl ?_
              refine OG.nil ?_
              refine QG.then ?_
              refine CG.seq ?_
              refine CG.seq ?_
              refine CG.region ?_
              refine OG.yield (Yield.move rfl) rfl ?_
              refine OG.yield (Yield.len_map (r := r) (l := s2.asks.map ent) (kf := vu) (vf := vi) Try.underlying31 rfl rfl (by repeat (first | exact Ext.here | apply Ext.there))) rfl ?_
              refine OG.yield (Yield.move rfl) rfl ?_
              refine OG.yield (Yield.len_slice (a := aw) (m := (s2.asks.map Ak.tag).length) (c := cw) Try.underlying43 rfl rfl) rfl ?_
              refine OG.yield (Yield.as (Yield.neq rfl rfl) (bF (by rw [List.length_map, List.length_map]; exact not_not_intro rfl))) rfl ?_
              refine OG.nil ?_
              refine QG.then ?_
              refine CG.cond_f rfl ?_
              refine CG.skip ?_
              refine QG.then ?_
              refine CG.seq ?_
              refine CG.region ?_
              refine OG.yield (Yield.assign rfl) rfl ?_
              refine OG.nil ?_
              refine QG.then ?_
              refine CG.block ?_
              refine CG.loop (fun j : Nat => j ≤ (s2.asks.map Ak.tag).length) (fun j => [(0, .int .i64 lat), (1, .int .i64 cnt), (2, .slice a2 ops.length c2), (3, .slice a3 late.length c3), (9, .pointer (some ⟨d, 0, none⟩)), (11, .map (some r)), (12, .slice fa' fl'.length fc'), (13, .slice wa' wh'.length wc'), (14, .int .i64 k'), (15, .int .i64 T), (28, .slice aw (s2.asks.map Ak.tag).length cw), (29, .int .i64 j)]) (fun j => [onum 35 .u32 aw cw (s2.asks.map Ak.tag), D d s2, hmap vu vi r (s2.asks.map ent), oreqs fa' fc' fl', pool (fl'.map CR.m), onum 3 .i64 wa' wc' wh', old W]) (fun j => (s2.asks.map Ak.tag).length - j) 0 (Nat.zero_le _) (by repeat (first | exact Env.sub_nil _ | refine Env.sub_cons rfl ?_)) (by repeat (first | exact Imp.refl _ | exact Imp.none _ | apply Imp.pull (by repeat (first | exact Ext.here | apply Ext.there)) | apply Imp.trans Imp.drop)) ?_
              intro j hj
              refine CG.pure (fun w hw => d_facts (d := d) (s := s2) (by repeat (first | exact Ext.here | apply Ext.there)) w hw) ?_
              intro hds2
              have htl : (s2.asks.map Ak.tag).length ≤ 4 := by rw [List.length_map]; exact hds2.asks
              refine CG.seq ?_
              refine CG.seq ?_
              refine CG.region ?_
              refine OG.yield (Yield.move rfl) rfl ?_
              refine OG.yield (Yield.move rfl) rfl ?_
              refine OG.yield (Yield.len_slice Try.underlying43 rfl rfl) rfl ?_
              refine OG.yield (by first | exact Yield.as (Yield.lss rfl rfl) (bT (by omega)) | exact Yield.as (Yield.lss rfl rfl) (bF (by omega)) | exact Yield.lss rfl rfl) rfl ?_
              refine OG.nil ?_
              refine QG.then ?_
              refine CG.cond rfl (fun hc => ?_) (fun hc => ?_)
              · try replace hc := of_decide_eq_true hc
                have hj1 : j < s2.asks.length := by have h9 : (s2.asks.map Ak.tag).length = s2.asks.length := List.length_map _; omega
                have hga : s2.asks[j]? = some s2.asks[j] := by simp [hj1]
                generalize s2.asks[j] = a at hga
                have hgt : (s2.asks.map Ak.tag)[j]? = some a.tag := by rw [List.getElem?_map, hga]; rfl
                have ham := List.mem_of_getElem? hga
                have hlo := hans.lo a ham
                have hgm := mget_ent hans.ba.inc ham
                refine CG.pure (fun w hw => SlR.shape (W0 := W) (SlR.of_osl (E := 35) (a := aw) (c := cw) (by repeat (first | exact Ext.here | apply Ext.there))) (by intro q; have := congrArg List.length q; rw [intsV_len, List.length_map] at this; simp only [List.length_nil] at this; omega) w hw) ?_
                rintro ⟨bw, ow, rfl⟩
                refine CG.skip ?_
                refine QG.then ?_
                refine CG.seq ?_
                refine CG.block ?_
                refine CG.seq ?_
                refine CG.region ?_
                refine OG.yield (Yield.move rfl) rfl ?_
                refine OG.yield (Yield.move rfl) rfl ?_
                refine OG.yield (Yield.move rfl) rfl ?_
                refine OG.yield (Yield.index_slice (b := bw) (o := ow) (m := (s2.asks.map Ak.tag).length) (c := cw) Try.underlying43 ti35 rfl rfl (by omega) (by omega)) rfl ?_
                refine OG.yield (Yield.load (v := .int .u32 a.tag) ti35 rfl (by rw [show ow + (j : Int).toNat * 1 = ow + j by omega]; exact (SlR.of_osl (E := 35) (a := some ⟨bw, ow, none⟩) (by repeat (first | exact Ext.here | apply Ext.there))).cel (intsV_get hgt))) rfl ?_
                refine OG.yield (Yield.as (Yield.lookup vu vi (l := s2.asks.map ent) Try.underlying31 ti3 keyU a.tag rfl rfl (by repeat (first | exact Ext.here | apply Ext.there))) (v' := .int .i64 a.due) (by rw [hgm]; rfl)) rfl ?_
                refine OG.yield (Yield.move rfl) rfl ?_
                refine OG.yield (by first | exact Yield.as (Yield.leq rfl rfl) (bT (by omega)) | exact Yield.as (Yield.leq rfl rfl) (bF (by omega)) | exact Yield.leq rfl rfl) rfl ?_
                refine OG.nil ?_
                refine QG.then ?_
                refine CG.cond_f rfl ?_
                refine CG.skip ?_
                refine QG.block_normal ?_
                refine QG.then ?_
                refine CG.region ?_
                refine OG.yield (Yield.move rfl) rfl ?_
                refine OG.yield (Yield.add rfl rfl (w64 (by omega) (by omega))) rfl ?_
                refine OG.yield (Yield.assign rfl) rfl ?_
                refine OG.nil ?_
                exact QG.next (j + 1) (show j + 1 ≤ (s2.asks.map Ak.tag).length by omega) (show (s2.asks.map Ak.tag).length - (j + 1) < (s2.asks.map Ak.tag).length - j by omega) (by repeat (first | exact Env.sub_nil _ | refine Env.sub_cons rfl ?_)) (by repeat (first | exact Imp.refl _ | exact Imp.none _ | apply Imp.pull (by repeat (first | exact Ext.here | apply Ext.there)) | apply Imp.trans Imp.drop))
              · try replace hc := of_decide_eq_false hc
                refine CG.exit ?_
                refine QG.pass_exit ?_
                refine QG.pass_exit ?_
                refine QG.block_exit ?_
                refine QG.block_normal ?_
                refine QG.then ?_
                refine CG.region ?_
                refine OG.yield (Yield.move rfl) rfl ?_
                refine OG.yield (Yield.add rfl rfl (w64 (by omega) (by omega))) rfl ?_
                refine OG.yield (Yield.assign rfl) rfl ?_
                refine OG.nil ?_
                have hfe : f = fl'.length := by omega
                subst hfe
                exact QG.next ⟨T + 1, s2, k', fl', fa', fc', wh', wa', wc'⟩ ⟨by show T + 1 ≤ 40; omega, by show Beg lat cnt s2 k' fl' wh' ((T + 1 : Nat) : Int); rw [show ((T + 1 : Nat) : Int) = (T : Int) + 1 by omega]; exact hans.over, by show k' ≤ 100 * (T + 1); omega, hfl'⟩ (show 40 - (T + 1) < 40 - T by omega) (by repeat (first | exact Env.sub_nil _ | refine Env.sub_cons rfl ?_)) (by repeat (first | exact Imp.refl _ | exact Imp.none _ | apply Imp.pull (by repeat (first | exact Ext.here | apply Ext.there)) | apply Imp.trans Imp.drop))
    · try replace hc := of_decide_eq_false hc
      refine CG.exit ?_
      refine QG.pass_exit ?_
      refine QG.pass_exit ?_
      refine QG.block_exit ?_
      refine QG.then ?_
      refine CG.seq ?_
      refine CG.region ?_
      refine OG.yield (Yield.assign rfl) rfl ?_
      refine OG.nil ?_
      refine QG.then ?_
      refine CG.ret ?_
      exact QG.ret1 rfl rfl () trivial rfl (by repeat (first | exact Imp.refl _ | exact Imp.none _ | apply Imp.pull (by repeat (first | exact Ext.here | apply Ext.there)) | apply Imp.trans Imp.drop))
open Go.ChangeShapes Go.WideShapes Go.ChangeAt
theorem own : ownKnob Try.prog.godebug = none := by kernel_rfl
theorem laid : laidOutB Try.prog = true := by kernel_rfl
set_option maxRecDepth 100000 in
theorem lifted (os : Os) (started : os.Started) (H : Type) (enc : TypeId × Value → H) :
    ReturnsInHanded {} Try.checked os 3 .any (Rows.vdiskLatencySpec.pre6 enc Try.prog Try.f3 Rows.vdiskLatencyRow.domain false) (Rows.vdiskLatencySpec.post enc Try.prog Try.f3 false true false false) := by
  refine returnsInHanded_of_change_sized (C := Try.checked) own started (by kernel_rfl) Try.func3
    (ChangeSpec.witness6 (enc := enc) (C := Try.checked) false ⟨#[], #[.int .i64 0, .int .i64 0, .slice none 0 0, .slice none 0 0], []⟩ 8 (by kernel_rfl) (by kernel_rfl) (by kernel_rfl) (by kernel_rfl)) ?_
  intro W base args ds gs before hval0 hW hcnd hsz0 _
  have hsz : (DataW.weightsEach Try.prog (Try.f3.params.toList ++ Rows.vdiskLatencySpec.plain.varTypes Try.prog) (ds ++ gs)).all (· ≤ reachBytes) = true := hsz0
  have hval : ∀ (j : Nat) t v, Try.f3.params[j]? = some t → args[j]? = some v → Value.okWide Try.prog W .any base t v := hval0
  have hW' := hW
  obtain ⟨p, q, hA0, hV, rfl, hfz, hnd⟩ := hW
  have hA : DataW.TrodAll enc Try.prog W 0 (fun _ => true) true Try.f3.params.toList args.toList ds p := hA0
  rw [Try.params3] at hA hval hsz
  obtain ⟨v0, vs0, d0, ds0, p0, q0, hargs, rfl, rfl, h0, r0⟩ := trodAll_cons hA
  obtain ⟨v1, vs1, d1, ds1, p1, q1, rfl, rfl, rfl, h1, r1⟩ := trodAll_cons r0
  obtain ⟨v2, vs2, d2, ds2, p2, q2, rfl, rfl, rfl, h2, r2⟩ := trodAll_cons r1
  obtain ⟨v3, vs3, d3, ds3, p3, q3, rfl, rfl, rfl, h3, r3⟩ := trodAll_cons r2
  obtain ⟨rfl, rfl, rfl⟩ := trodAll_nil r3
  obtain rfl : args = #[v0, v1, v2, v3] := by cases args; simp_all
  obtain ⟨rfl, rfl⟩ := trodVars_none hV
  obtain ⟨a0, rfl, rfl, rfl, w0⟩ := open_int Try.underlying3 (hval 0 3 v0 rfl rfl) h0
  obtain ⟨a1, rfl, rfl, rfl, w1⟩ := open_int Try.underlying3 (hval 1 3 v1 rfl rfl) h1
  have k2 := weights_le hsz 2 (t := 22) (d := d2) rfl rfl
  have s2 := Opn.param Try.underlying22 (VAct.list W) (hval 2 22 v2 rfl rfl) h2 k2
  obtain ⟨x2, c2, ops, e2, l2, ok2, s2, m2⟩ := s2
  cases e2
  have k3 := weights_le hsz 3 (t := 23) (d := d3) rfl rfl
  have s3 := Opn.param Try.underlying23 (Opn.ints (by' := 8) Try.underlying23 Try.underlying3 (by kernel_rfl) (by kernel_rfl)) (hval 3 23 v3 rfl rfl) h3 k3
  obtain ⟨x3, c3, ds, e3, l3, ok3, s3, m3⟩ := s3
  cases e3
  clear hA0 hval0 hsz0 hsz
  refine ((walk W s2 s3 m3) W (Sat.start W)).mono fun e W' he => ?_
  obtain ⟨_, _, he, hs⟩ := he
  subst he
  exact ⟨_, rfl, law_post laid (params_ok (by kernel_rfl)) rfl Try.underlying4 hW' rfl rfl (Sat.below (by repeat (first | exact Ext.here | apply Ext.there)) hs)⟩
theorem over : Rows.vdiskLatencyRow.holds Try.pinned (OpenSpec.ofChange Rows.vdiskLatencySpec) :=
  OpenClaim.holds_of_wide 3 Try.f3 rfl rfl rfl rfl rfl rfl rfl ⟨rfl, rfl, rfl, rfl, rfl⟩ rfl rfl rfl rfl rfl (by kernel_rfl) Try.func3 (by kernel_rfl)
    (of_decide_eq_true (by kernel_rfl)) (by unfold Func.isWrapper; first | (rw [if_pos (by decide +kernel)]; kernel_rfl) | (rw [if_neg (by decide +kernel)]; exact ⟨rfl, rfl⟩))
    (fun os started H enc _ => lifted os started H enc)
theorem proved : Rows.VdiskLatencySaid := over
#print axioms proved
end Go.Proofs.Ytoejnhfcegchhaa.vdiskLatency
