/- Contracts of the generators, first part. Conditions: told at each. -/
import Derived.Test.YtpkhdnaeaeiidaaDoorXa
import Derived.Test.YtpkhdnaeaeiidaaDoorTc
set_option linter.unusedSimpArgs false
set_option linter.unusedVariables false

/- Contract of dioramaref29.Run. -/
namespace Go.Absw
open Go Go.Proofs
set_option maxRecDepth 100000

/-- Numbers as a row of one cell each. -/
def rowR (r : List Int) : List (List FV) := r.map fun n => [iI n]
@[simp] theorem rowR_len (r : List Int) : (rowR r).length = r.length := by simp [rowR]
theorem rowR_set (r : List Int) (k : Nat) (v : Int) : (rowR r).set k [.int .i64 v] = rowR (r.set k v) := by
  unfold rowR; rw [List.map_set]; rfl
theorem rowR_get (r : List Int) (j : Int) (h : 0 ≤ j ∧ j < r.length) : (rowR r)[j.toNat]? = some [.int .i64 (reg r j)] := by
  have hlt : j.toNat < r.length := by omega
  have : nth r j = some r[j.toNat] := by unfold nth; rw [if_pos h.1]; simp [hlt]
  simp [reg, this, hlt, rowR, iI]

/-- The world has as many kinds as the schema, each record as many values as its kind has fields. -/
def fitW (x : Sch) (w : Wd) : Prop := w.length = x.kinds.length ∧ ∀ (b : Nat) kd k, x.kinds[b]? = some kd → w[b]? = some k → ∀ rec ∈ k, rec.length = kd.fields.length

theorem rrun_ct {G : Env} (hP : G.P = Tryd.prog) (x : Sch) (p : List Ins) (w : Wd) (most : Int) (hl : p.length < 1000000) (hm : In64 most) (hfit : fitW x w) :
    CT G 16 ⟨[.ag ((encX x).map .f), .f (encP p), .f (encW w), .f (iI most)], []⟩ (runOut (runF x p w most)) := by
  refine ct_of_body (N := []) (pc := f16pc) (rs := f16rs) (by rw [hP]; exact f16ok) ?_
  rw [entry_mk]
  have he : (encX x).length = 4 := rfl
  simp [f16pc, f16r0, f16r1, he, encP]
  refine pCall_pure (rvalid_ct hP p hl) rfl rfl rfl ?_
  by_cases hv : validF p = 0
  case neg =>
    have hrun : runF x p w most = (0, 0, validF p) := by unfold runF; rw [if_pos hv]
    simp [f16r2, f16r3, hv, binF, binI, iI, retQ, outSt, f16rs, rvals, RArg.val, ptrFoot, getN, resPV, runOut, hrun]
  simp [f16r2, hv, binF, binI, iI]
  by_cases hm1 : most < 0
  · have hrun : runF x p w most = (0, 0, 4) := by unfold runF; rw [if_neg (by omega), if_pos (.inl hm1)]
    simp [f16r4, f16r5, hm1, binF, binI, iI, retQ, outSt, f16rs, rvals, RArg.val, ptrFoot, getN, resPV, runOut, hrun]
  by_cases hm2 : 1000000 < most
  · have hrun : runF x p w most = (0, 0, 4) := by unfold runF; rw [if_neg (by omega), if_pos (.inr hm2)]
    simp [f16r4, f16r5, hm1, hm2, binF, binI, iI, retQ, outSt, f16rs, rvals, RArg.val, ptrFoot, getN, resPV, runOut, hrun]
  obtain ⟨hlen, hok⟩ := valid_ok hv
  have hb : ∀ i ∈ p, i.op = 4 ∨ i.op = 5 → 0 ≤ i.b := fun i hi h => ((ok_nums (hok i hi)).2.2.2.2.1 h).1
  simp [f16r4, hm1, hm2, binF, binI, iI, f16r6, getN, he, encX]
  refine pCall_pure (rnamed_ct hP x p hl hb) rfl (by simp [encX, iI]) rfl ?_
  by_cases hbad : p.any (badIns x) = true
  · have hrun : runF x p w most = (0, 0, 12) := by unfold runF; rw [if_neg (by omega), if_neg (by omega), if_pos hbad]
    simp [unF, hbad, f16r7, binF, binI, iI, retQ, outSt, f16rs, rvals, RArg.val, ptrFoot, getN, resPV, runOut, hrun]
  have hbad' : p.any (badIns x) = false := Bool.eq_false_iff.2 hbad
  have hgood : ∀ i ∈ p, badIns x i = false := by
    intro i hi
    cases hbi : badIns x i with
    | false => rfl
    | true => exact absurd (List.any_eq_true.2 ⟨i, hi, hbi⟩) hbad
  have hrun : runF x p w most = runS w p most.toNat (List.replicate 8 0) 0 0 := by unfold runF; rw [if_neg (by omega), if_neg (by omega), if_neg hbad]
  simp [unF, hbad', f16r8, f16r9, f16r10, i64max]
  unfold f16l0
  refine pwp_loop (α := Nat × List Int × Nat × Int) (fun s => mkSt [(1, .f (encP p)), (2, .f (encW w)), (3, .f (iI most)), (8, .ptr 108 0 0 0), (11, .ts 134 0 8 0), (12, .f (iI s.2.2.1)), (13, .f (iI s.2.2.2))]
      [(108, ⟨0, .box 47 false [.f (iI 0), .f (iI 0)]⟩), (134, ⟨0, .row 3 1 0 0 (rowR s.2.1)⟩)])
    (fun s => s.2.1.length = 8 ∧ s.2.2.1 ≤ p.length ∧ (s.1 : Int) + s.2.2.2 = most ∧ 0 ≤ s.2.2.2 ∧ runS w p s.1 s.2.1 s.2.2.1 s.2.2.2 = runF x p w most) (fun s => s.1) (most.toNat, List.replicate 8 0, 0, 0)
    ⟨by simp, by simp, by simp; omega, by simp, by rw [hrun]; rfl⟩ (by simp [keepSt, encP, iI, rowR, List.replicate]) ?_
  rintro ⟨rem, r, pc, n⟩ ⟨hr, hpc, hrem, hn0, hres⟩
  simp only at hr hpc hrem hn0 hres
  by_cases hend : pc = p.length
  · have : runF x p w most = (0, n, 0) := by rw [← hres]; subst hend; cases rem <;> simp [runS]
    subst hend
    simp [f16r11, f16r40, binF, binI, iI, encP, retQ, outSt, f16rs, rvals, RArg.val, ptrFoot, getN, resPV, runOut, this]
  have hend' : ¬ (pc : Int) = p.length := by omega
  have hlt : pc < p.length := by omega
  cases rem with
  | zero =>
    have hnm : n = most := by omega
    have : runF x p w most = (0, 0, 23) := by rw [← hres]; simp [runS, hend']
    simp [f16r11, f16r12, f16r13, binF, binI, iI, encP, hlt, hnm, retQ, outSt, f16rs, rvals, RArg.val, ptrFoot, getN, resPV, runOut, this]
  | succ rem =>
  have hnm : ¬ n = most := by omega
  have hn : nth p (pc : Int) = some p[pc] := by simp [nth, hlt]
  have hn' : nth (p.map encI) (pc : Int) = some (encI p[pc]) := by rw [nth_map, hn]; rfl
  have hnums := ok_nums (hok _ (List.getElem_mem hlt))
  have hgq := hgood _ (List.getElem_mem hlt)
  simp only [runS, if_neg hend', hn] at hres
  generalize p[pc] = q at hn hn' hnums hres hgq
  have hw1 : IntKind.i64.wrap ((pc : Int) + 1) = (pc : Int) + 1 := w64 (by omega)
  have hw2 : IntKind.i64.wrap (n + 1) = n + 1 := w64 (by unfold In64 at hm; omega)
  simp [f16r11, f16r12, f16r14, f16r15, f16r16, f16r17, binF, binI, iI, encP, encI, hlt, hnm, hn', getN, hw1, hw2]
  -- the instruction, by its operation
  have hreg : ∀ j : Int, 0 ≤ j ∧ j < 8 → (rowR r)[j.toNat]? = some [.int .i64 (reg r j)] := fun j hj => rowR_get r j (by omega)
  by_cases o0 : q.op = 0
  · have hs : runF x p w most = (q.a, n + 1, 0) := by rw [← hres]; simp [stepF, o0]
    simp [f16r20, f16r21, binF, binI, iI, encP, o0, retQ, outSt, f16rs, rvals, RArg.val, ptrFoot, getN, resPV, runOut, hs]
  by_cases o1 : q.op = 1
  · have ha := hnums.2.1 (by omega)
    have hs : stepF w r q (pc + 1) = .next (r.set q.a.toNat (q.b)) (pc + 1) := by simp [stepF, o1]
    rw [hs] at hres
    simp [f16r20, f16r22, f16r23, f16r39, binF, binI, iI, encP, o1, ha, hreg _ ha, rowR_set, keepSt]
    exact ⟨rem, _, pc + 1, n + 1, ⟨by simp [hr], by omega, by omega, by omega, hres⟩, by omega, rfl⟩
  by_cases o2 : q.op = 2
  · have ha := hnums.2.1 (by omega)
    have hb' := hnums.2.2.1 (by omega)
    have hc' := hnums.2.2.2.1 (by omega)
    have hs : stepF w r q (pc + 1) = .next (r.set q.a.toNat (IntKind.i64.wrap (reg r q.b + reg r q.c))) (pc + 1) := by simp [stepF, o2]
    rw [hs] at hres
    simp [f16r20, f16r22, f16r24, f16r25, f16r39, binF, binI, iI, encP, o2, ha, hreg _ ha, rowR_set, keepSt, hb', hc', hreg _ hb', hreg _ hc']
    exact ⟨rem, _, pc + 1, n + 1, ⟨by simp [hr], by omega, by omega, by omega, hres⟩, by omega, rfl⟩
  by_cases o3 : q.op = 3
  · have ha := hnums.2.1 (by omega)
    have hb' := hnums.2.2.1 (by omega)
    have hc' := hnums.2.2.2.1 (by omega)
    have hs : stepF w r q (pc + 1) = .next (r.set q.a.toNat (IntKind.i64.wrap (reg r q.b - reg r q.c))) (pc + 1) := by simp [stepF, o3]
    rw [hs] at hres
    simp [f16r20, f16r22, f16r24, f16r26, f16r27, f16r39, binF, binI, iI, encP, o3, ha, hreg _ ha, rowR_set, keepSt, hb', hc', hreg _ hb', hreg _ hc']
    exact ⟨rem, _, pc + 1, n + 1, ⟨by simp [hr], by omega, by omega, by omega, hres⟩, by omega, rfl⟩
  have hkind : q.op = 4 ∨ q.op = 5 → ∃ k kd, nth w q.b = some k ∧ nth x.kinds q.b = some kd ∧ (∀ rec ∈ k, rec.length = kd.fields.length) := by
    intro h
    have hb' := hnums.2.2.2.2.1 h
    have hkl : ¬ (x.kinds.length : Int) ≤ q.b := by
      intro hh
      have : badIns x q = true := by rcases h with e | e <;> simp [badIns, e, hh]
      rw [this] at hgq; cases hgq
    obtain ⟨kd, h1, _⟩ := nth_some x.kinds q.b (by omega) hkl
    obtain ⟨k, h2, _⟩ := nth_some w q.b (by omega) (by rw [hfit.1]; exact hkl)
    refine ⟨k, kd, h2, h1, ?_⟩
    unfold nth at h1 h2
    rw [if_pos hb'.1] at h1 h2
    exact hfit.2 _ _ _ h1 h2
  by_cases o4 : q.op = 4
  · have ha := hnums.2.1 (by omega)
    obtain ⟨k, kd, hk, _, _⟩ := hkind (.inl o4)
    have hcount : countF w q.b = k.length := by unfold countF; rw [hk]
    have hs : stepF w r q (pc + 1) = .next (r.set q.a.toNat (countF w q.b)) (pc + 1) := by simp [stepF, o4]
    rw [hs] at hres
    simp [f16r20, f16r22, f16r24, f16r26, f16r28, f16r29, f16r39, binF, binI, iI, encP, o4, ha, hreg _ ha, rowR_set, keepSt, encW, nth_map, hk, encK, hcount]
    exact ⟨rem, _, pc + 1, n + 1, ⟨by simp [hr], by omega, by omega, by omega, hres⟩, by omega, by rw [hcount]; rfl⟩
  by_cases o6 : q.op = 6
  · have ha := hnums.2.2.2.2.2.2.1 (by omega)
    have hs : stepF w r q (pc + 1) = .next r q.a := by simp [stepF, o6]
    rw [hs] at hres
    simp [f16r20, f16r22, f16r24, f16r26, f16r28, f16r30, f16r34, f16r35, f16r39, binF, binI, iI, encP, o6, keepSt]
    exact ⟨rem, r, q.a.toNat, n + 1, ⟨hr, by omega, by omega, by omega, by rw [Int.toNat_of_nonneg ha.1]; exact hres⟩, by omega, by rw [Int.toNat_of_nonneg ha.1]⟩
  by_cases o7 : q.op = 7
  · have ha := hnums.2.1 (by omega)
    have hb' := hnums.2.2.1 (by omega)
    have hc := hnums.2.2.2.2.2.2.2 (by omega)
    have hs : stepF w r q (pc + 1) = .next r (if reg r q.a < reg r q.b then q.c else pc + 1) := by simp [stepF, o7]
    rw [hs] at hres
    by_cases hlt' : reg r q.a < reg r q.b
    · rw [if_pos hlt'] at hres
      simp [f16r20, f16r22, f16r24, f16r26, f16r28, f16r30, f16r34, f16r36, f16r37, f16r38, f16r39, binF, binI, iI, encP, o7, ha, hb', hreg _ ha, hreg _ hb', hlt', keepSt]
      exact ⟨rem, r, q.c.toNat, n + 1, ⟨hr, by omega, by omega, by omega, by rw [Int.toNat_of_nonneg hc.1]; exact hres⟩, by omega, by rw [Int.toNat_of_nonneg hc.1]⟩
    · rw [if_neg hlt'] at hres
      simp [f16r20, f16r22, f16r24, f16r26, f16r28, f16r30, f16r34, f16r36, f16r37, f16r38, f16r39, binF, binI, iI, encP, o7, ha, hb', hreg _ ha, hreg _ hb', hlt', keepSt]
      exact ⟨rem, r, pc + 1, n + 1, ⟨hr, by omega, by omega, by omega, hres⟩, by omega, rfl⟩
  by_cases o8 : q.op = 8
  · have ha := hnums.2.1 (by omega)
    have hb' := hnums.2.2.1 (by omega)
    have hc := hnums.2.2.2.2.2.2.2 (by omega)
    have hs : stepF w r q (pc + 1) = .next r (if reg r q.a = reg r q.b then q.c else pc + 1) := by simp [stepF, o8]
    rw [hs] at hres
    by_cases hlt' : reg r q.a = reg r q.b
    · rw [if_pos hlt'] at hres
      simp [f16r20, f16r22, f16r24, f16r26, f16r28, f16r30, f16r34, f16r36, f16r18, f16r19, f16r39, binF, binI, iI, encP, o8, ha, hb', hreg _ ha, hreg _ hb', hlt', keepSt]
      exact ⟨rem, r, q.c.toNat, n + 1, ⟨hr, by omega, by omega, by omega, by rw [Int.toNat_of_nonneg hc.1]; exact hres⟩, by omega, by rw [Int.toNat_of_nonneg hc.1]⟩
    · rw [if_neg hlt'] at hres
      simp [f16r20, f16r22, f16r24, f16r26, f16r28, f16r30, f16r34, f16r36, f16r18, f16r19, f16r39, binF, binI, iI, encP, o8, ha, hb', hreg _ ha, hreg _ hb', hlt', keepSt]
      exact ⟨rem, r, pc + 1, n + 1, ⟨hr, by omega, by omega, by omega, hres⟩, by omega, rfl⟩
  have o5 : q.op = 5 := by omega
  have ha := hnums.2.1 (by omega)
  obtain ⟨k, kd, hk, hkd, hrecs⟩ := hkind (.inr o5)
  have hcount : countF w q.b = k.length := by unfold countF; rw [hk]
  by_cases hneg : reg r q.a < 0
  · have hs : runF x p w most = (251, n + 1, 0) := by rw [← hres]; simp [stepF, o5, hneg]
    simp [f16r20, f16r22, f16r24, f16r26, f16r28, f16r30, f16r31, f16r32, binF, binI, iI, encP, o5, ha, hreg _ ha, hneg, retQ, outSt, f16rs, rvals, RArg.val, ptrFoot, getN, resPV, runOut, hs]
  by_cases hbig : (k.length : Int) ≤ reg r q.a
  · have hs : runF x p w most = (251, n + 1, 0) := by rw [← hres]; simp [stepF, o5, hcount, hbig]
    simp [f16r20, f16r22, f16r24, f16r26, f16r28, f16r30, f16r31, f16r32, binF, binI, iI, encP, o5, ha, hreg _ ha, hneg, encW, nth_map, hk, encK, hbig, retQ, outSt, f16rs, rvals, RArg.val, ptrFoot, getN, resPV, runOut, hs]
  obtain ⟨rc, hrc, hmem⟩ := nth_some k (reg r q.a) hneg hbig
  have hc := hnums.2.2.2.2.2.1 o5
  have hflen : ¬ (rc.length : Int) ≤ q.c := by
    intro hh
    have hf : fieldsOf x q.b = kd.fields.length := by unfold fieldsOf; rw [hkd]
    have : badIns x q = true := by simp [badIns, o5, hf]; right; rw [← hrecs rc hmem]; exact hh
    rw [this] at hgq; cases hgq
  obtain ⟨v, hv', _⟩ := nth_some rc q.c (by omega) hflen
  have hval : valueF w q.b (reg r q.a) q.c = v := by unfold valueF; rw [hk]; simp only [hrc, hv']
  have hs : stepF w r q (pc + 1) = .next (r.set q.a.toNat v) (pc + 1) := by simp [stepF, o5, hneg, hcount, hbig, hval]
  rw [hs] at hres
  simp [f16r20, f16r22, f16r24, f16r26, f16r28, f16r30, f16r31, f16r33, f16r39, binF, binI, iI, encP, o5, ha, hreg _ ha, hneg, encW, nth_map, hk, encK, hbig, hrc, encL, hv', rowR_set, keepSt]
  exact ⟨rem, _, pc + 1, n + 1, ⟨by simp [hr], by omega, by omega, by omega, hres⟩, by omega, rfl⟩
end Go.Absw

/- Contracts of Maker.Take, Copied, dioramaref10's Field, Kind, Has, Up. -/
namespace Go.Absw
open Go Go.Proofs
set_option maxRecDepth 100000

/-- The index of the first element that is right; -1: none is. -/
def idxF {α : Type} (p : α → Bool) : List α → Nat → Int
  | [], _ => -1
  | a :: r, i => if p a = true then i else idxF p r (i + 1)
theorem idxF_drop {α : Type} (p : α → Bool) (l : List α) (i : Nat) (h : i < l.length) : idxF p (l.drop i) i = if p l[i] = true then (i : Int) else idxF p (l.drop (i + 1)) (i + 1) := by
  rw [List.drop_eq_getElem_cons h, idxF]
theorem idxF_end {α : Type} (p : α → Bool) (l : List α) (i : Nat) (h : l.length ≤ i) : idxF p (l.drop i) i = -1 := by
  rw [List.drop_eq_nil_of_le h, idxF]
theorem idxF_spec {α : Type} (p : α → Bool) : ∀ (l : List α) (i : Nat), (idxF p l i = -1 ∧ ∀ a ∈ l, p a = false) ∨ ∃ j, ∃ h : j < l.length, idxF p l i = (i + j : Nat) ∧ p l[j] = true
  | [], i => .inl ⟨rfl, fun a h => by simp at h⟩
  | a :: r, i => by
    rw [idxF]
    by_cases h : p a = true
    · rw [if_pos h]; exact .inr ⟨0, by simp, by simp, h⟩
    · rw [if_neg h]
      rcases idxF_spec p r (i + 1) with ⟨h1, h2⟩ | ⟨j, h1, h2, h3⟩
      · refine .inl ⟨h1, fun b hb => ?_⟩
        rcases List.mem_cons.1 hb with rfl | hb
        · exact Bool.eq_false_iff.2 h
        · exact h2 b hb
      · exact .inr ⟨j + 1, by simpa using h1, by rw [h2]; congr 1; omega, by simpa using h3⟩
theorem idxF_lt {α : Type} (p : α → Bool) (l : List α) : -1 ≤ idxF p l 0 ∧ idxF p l 0 < l.length := by
  rcases idxF_spec p l 0 with ⟨h, _⟩ | ⟨j, h, h', _⟩ <;> omega

theorem take_ct {G : Env} (hP : G.P = Tryd.prog) {t : TypeId} {l : List Int} (hl : ∀ n ∈ l, In64 n) {i n : Int} (hi : 0 ≤ i ∧ i < 1000000000) (hn : In64 n) :
    CT G 32 ⟨[.ptr 0 0 0 0, .f (.int .i64 n)], [.box t false [.f (encL l), .f (.int .i64 i)]]⟩ ⟨.f (.int .i64 (atF l i n)), [⟨0, .box t false [.f (encL l), .f (.int .i64 (i + 1))]⟩], []⟩ := by
  refine ct_of_body (N := []) (pc := f32pc) (rs := f32rs) (by rw [hP]; exact f32ok) ?_
  rw [entry_mk]
  have e1 : IntKind.i64.wrap (i + 1) = i + 1 := w64 (by omega)
  have e2 : IntKind.i64.wrap i = i := w64 (by omega)
  simp [f32pc, f32r0, f32r1, f32r2, binF, binI, e1, e2]
  refine pCall_pure (at_ct hP l hl i n (by unfold In64; omega) hn) (by simp [encL, iI]) rfl rfl ?_
  simp [retQ, outSt, f32rs, rvals, RArg.val, resPV, iI, List.range_succ]

def fieldIx (name : List UInt8) (l : List FieldD) : Int := idxF (fun f => decide (f.name = name)) l 0
def kindIx (name : List UInt8) (l : List KindD) : Int := idxF (fun f => decide (f.name = name)) l 0
theorem hasIx_field (name : List UInt8) : ∀ (l : List FieldD) (i : Nat), hasIx name (l.map encF) i = idxF (fun f => decide (f.name = name)) l i
  | [], i => rfl
  | f :: r, i => by
    have : (f :: r).map encF = (.str f.name :: (encF f).drop 1) :: r.map encF := rfl
    rw [this, hasIx, idxF, hasIx_field name r (i + 1)]
    simp only [decide_eq_true_eq]
theorem hasF_ct {G : Env} (hP : G.P = Tryd.prog) {fs : List FieldD} {name : List UInt8} (hl : fs.length < 1000000) :
    CT G 65 ⟨[.f (.sl 8 (fs.map encF)), .f (.str name)], []⟩ ⟨.f (.int .i64 (fieldIx name fs)), [], []⟩ := by
  have := has_ct hP (fs.map encF) name (fun c hc => by obtain ⟨f, _, rfl⟩ := List.mem_map.1 hc; exact ⟨_, _, rfl⟩) (by simp; omega)
  rw [hasIx_field] at this
  exact this

def copiable (f : FieldD) : Bool := decide (f.kind ≠ 0) && decide (f.kind ≠ 1) && decide (f.kind ≠ 6) && decide (f.kind ≠ 7)
theorem copied_ct {G : Env} (hP : G.P = Tryd.prog) {k : KindD} (hl : k.fields.length < 1000000) :
    CT G 64 ⟨[.ag ((encKd k).map .f)], []⟩ ⟨.f (.int .i64 (idxF copiable k.fields 0)), [], []⟩ := by
  refine ct_of_body (N := []) (pc := f64pc) (rs := f64rs) (by rw [hP]; exact f64ok) ?_
  rw [entry_mk]
  have he : (encKd k).length = 4 := rfl
  simp [f64pc, f64r0, f64r1, he]
  unfold f64l0
  refine pwp_loop (α := Nat) (fun i => mkSt [(1, .ptr 101 0 0 0), (3, .f (iI i))] [(101, ⟨0, .box 56 false ((encKd k).map .f)⟩)]) (fun i => i ≤ k.fields.length ∧ idxF copiable (k.fields.drop i) i = idxF copiable k.fields 0) (fun i => k.fields.length - i) 0
    (by simp) (by simp [keepSt, iI]) ?_
  rintro i ⟨hi, hix⟩
  simp [f64r2, binF, binI, iI, encKd]
  refine ccase_i (fun h => ?_) (fun h => ?_)
  · simp at h
    have hw : IntKind.i64.wrap ((i : Int) + 1) = (i : Int) + 1 := w64 (by omega)
    have hn : nth (k.fields.map encF) (i : Int) = some (encF k.fields[i]) := by simp [nth, h]
    rw [idxF_drop copiable _ i h] at hix
    generalize k.fields[i] = f at hn hix
    have next : copiable f = false → ∃ b, (b ≤ k.fields.length ∧ idxF copiable (k.fields.drop b) b = idxF copiable k.fields 0) ∧ k.fields.length - b < k.fields.length - i ∧ (b : Int) = (i : Int) + 1 := by
      intro hq
      rw [hq, if_neg (by simp)] at hix
      exact ⟨i + 1, ⟨by omega, hix⟩, by omega, by simp⟩
    have fin : copiable f = true → idxF copiable k.fields 0 = i := by
      intro hq
      rw [hq, if_pos rfl] at hix
      exact hix.symm
    by_cases h0 : f.kind = 0
    · obtain ⟨b, h1, h2, h3⟩ := next (by simp [copiable, h0])
      simp [f64r4, f64r5, f64r3, binF, binI, iI, encKd, hn, encF, h0, hw, keepSt]
      exact ⟨b, by simpa using h1, h2, by rw [h3]⟩
    by_cases h1 : f.kind = 1
    · obtain ⟨b, h1', h2, h3⟩ := next (by simp [copiable, h1])
      simp [f64r4, f64r5, f64r3, binF, binI, iI, encKd, hn, encF, h0, h1, hw, keepSt]
      exact ⟨b, by simpa using h1', h2, by rw [h3]⟩
    by_cases h6 : f.kind = 6
    · obtain ⟨b, h1', h2, h3⟩ := next (by simp [copiable, h6])
      simp [f64r4, f64r5, f64r3, binF, binI, iI, encKd, hn, encF, h0, h1, h6, hw, keepSt]
      exact ⟨b, by simpa using h1', h2, by rw [h3]⟩
    by_cases h7 : f.kind = 7
    · obtain ⟨b, h1', h2, h3⟩ := next (by simp [copiable, h7])
      simp [f64r4, f64r5, f64r3, binF, binI, iI, encKd, hn, encF, h0, h1, h6, h7, hw, keepSt]
      exact ⟨b, by simpa using h1', h2, by rw [h3]⟩
    · have := fin (by simp [copiable, h0, h1, h6, h7])
      simp [f64r4, f64r5, f64r6, binF, binI, iI, encKd, hn, encF, h0, h1, h6, h7, retQ, outSt, f64rs, rvals, RArg.val, resPV, this]
  · simp at h
    rw [idxF_end copiable _ i h] at hix
    simp [f64r7, retQ, outSt, f64rs, rvals, RArg.val, resPV, ← hix]

theorem field_ct {G : Env} (hP : G.P = Tryd.prog) {k : KindD} {name : List UInt8} (hl : k.fields.length < 1000000) :
    CT G 68 ⟨[.ag ((encKd k).map .f), .f (.str name)], []⟩ ⟨.f (.int .i64 (fieldIx name k.fields)), [], []⟩ := by
  refine ct_of_body (N := []) (pc := f68pc) (rs := f68rs) (by rw [hP]; exact f68ok) ?_
  rw [entry_mk]
  have he : (encKd k).length = 4 := rfl
  simp [f68pc, f68r0, f68r1, he]
  unfold f68l0
  refine pwp_loop (α := Nat) (fun i => mkSt [(1, .f (.str name)), (2, .ptr 102 0 0 0), (5, .f (iI i))] [(102, ⟨0, .box 56 false ((encKd k).map .f)⟩)]) (fun i => i ≤ k.fields.length ∧ idxF (fun f => decide (f.name = name)) (k.fields.drop i) i = fieldIx name k.fields) (fun i => k.fields.length - i) 0
    (by simp [fieldIx]) (by simp [keepSt, iI]) ?_
  rintro i ⟨hi, hix⟩
  simp [f68r2, binF, binI, iI, encKd]
  refine ccase_i (fun h => ?_) (fun h => ?_)
  · simp at h
    have hw : IntKind.i64.wrap ((i : Int) + 1) = (i : Int) + 1 := w64 (by omega)
    have hn : nth (k.fields.map encF) (i : Int) = some (encF k.fields[i]) := by simp [nth, h]
    rw [idxF_drop _ _ i h] at hix
    generalize k.fields[i] = f at hn hix
    by_cases e : f.name = name
    · simp [e] at hix
      simp [f68r4, f68r5, binF, binI, binS, iI, encKd, hn, encF, e, retQ, outSt, f68rs, rvals, RArg.val, resPV, ← hix]
    · simp [e] at hix
      simp [f68r4, f68r5, f68r3, binF, binI, binS, iI, encKd, hn, encF, e, hw, keepSt]
      exact ⟨i + 1, ⟨by omega, hix⟩, by omega, rfl⟩
  · simp at h
    rw [idxF_end _ _ i h] at hix
    simp [f68r6, retQ, outSt, f68rs, rvals, RArg.val, resPV, ← hix]

theorem kind_ct {G : Env} (hP : G.P = Tryd.prog) {x : Sch} {name : List UInt8} (hl : x.kinds.length < 1000000) :
    CT G 69 ⟨[.ag ((encX x).map .f), .f (.str name)], []⟩ ⟨.f (.int .i64 (kindIx name x.kinds)), [], []⟩ := by
  refine ct_of_body (N := []) (pc := f69pc) (rs := f69rs) (by rw [hP]; exact f69ok) ?_
  rw [entry_mk]
  have he : (encX x).length = 4 := rfl
  simp [f69pc, f69r0, f69r1, he]
  unfold f69l0
  refine pwp_loop (α := Nat) (fun i => mkSt [(1, .f (.str name)), (2, .ptr 102 0 0 0), (5, .f (iI i))] [(102, ⟨0, .box 27 false ((encX x).map .f)⟩)]) (fun i => i ≤ x.kinds.length ∧ idxF (fun f => decide (f.name = name)) (x.kinds.drop i) i = kindIx name x.kinds) (fun i => x.kinds.length - i) 0
    (by simp [kindIx]) (by simp [keepSt, iI]) ?_
  rintro i ⟨hi, hix⟩
  simp [f69r2, binF, binI, iI, encX]
  refine ccase_i (fun h => ?_) (fun h => ?_)
  · simp at h
    have hw : IntKind.i64.wrap ((i : Int) + 1) = (i : Int) + 1 := w64 (by omega)
    have hn : nth (x.kinds.map encKd) (i : Int) = some (encKd x.kinds[i]) := by simp [nth, h]
    rw [idxF_drop _ _ i h] at hix
    generalize x.kinds[i] = f at hn hix
    by_cases e : f.name = name
    · simp [e] at hix
      simp [f69r4, f69r5, binF, binI, binS, iI, encX, hn, encKd, e, retQ, outSt, f69rs, rvals, RArg.val, resPV, ← hix]
    · simp [e] at hix
      simp [f69r4, f69r5, f69r3, binF, binI, binS, iI, encX, hn, encKd, e, hw, keepSt]
      exact ⟨i + 1, ⟨by omega, hix⟩, by omega, rfl⟩
  · simp at h
    rw [idxF_end _ _ i h] at hix
    simp [f69r6, retQ, outSt, f69rs, rvals, RArg.val, resPV, ← hix]

def hasF (x : Sch) (kind field : Int) : Bool := decide (0 ≤ kind ∧ kind < x.kinds.length ∧ 0 ≤ field ∧ field < fieldsOf x kind)
theorem hasX_ct {G : Env} (hP : G.P = Tryd.prog) {x : Sch} {kind field : Int} :
    CT G 67 ⟨[.ag ((encX x).map .f), .f (.int .i64 kind), .f (.int .i64 field)], []⟩ ⟨.f (.bool (hasF x kind field)), [], []⟩ := by
  refine ct_of_body (N := []) (pc := f67pc) (rs := f67rs) (by rw [hP]; exact f67ok) ?_
  rw [entry_mk]
  have he : (encX x).length = 4 := rfl
  by_cases h : kind < 0
  · have : hasF x kind field = false := by simp [hasF]; omega
    simp [f67pc, f67r0, f67r1, f67r2, he, binF, binI, h, retQ, outSt, f67rs, rvals, RArg.val, resPV, this]
  by_cases h2 : (x.kinds.length : Int) ≤ kind
  · have : hasF x kind field = false := by simp [hasF]; omega
    simp [f67pc, f67r0, f67r1, f67r2, he, encX, binF, binI, h, h2, retQ, outSt, f67rs, rvals, RArg.val, resPV, this]
  by_cases h3 : field < 0
  · have : hasF x kind field = false := by simp [hasF]; omega
    simp [f67pc, f67r0, f67r1, f67r2, he, encX, binF, binI, h, h2, h3, retQ, outSt, f67rs, rvals, RArg.val, resPV, this]
  obtain ⟨k, hk, _⟩ := nth_some x.kinds kind h h2
  have hk' : nth (x.kinds.map encKd) kind = some (encKd k) := by rw [nth_map, hk]; rfl
  have hf : fieldsOf x kind = k.fields.length := by unfold fieldsOf; rw [hk]
  have : hasF x kind field = decide (field < k.fields.length) := by
    simp only [hasF, hf]
    rw [decide_eq_decide]
    omega
  simp [f67pc, f67r0, f67r1, f67r3, he, encX, binF, binI, h, h2, h3, hk', encKd, retQ, outSt, f67rs, rvals, RArg.val, resPV, this]

/-- The kind up to which a field refers; -1: none. -/
def upF (x : Sch) (kind field : Int) : Int :=
  if hasF x kind field = false then -1 else match nth x.kinds kind with
  | none => -1
  | some k => match nth k.fields field with
    | none => -1
    | some f =>
      let up := fieldIx f.up k.fields
      if (f.kind = 7 ∨ f.kind = 8) ∧ (up < 0 ∨ field ≤ up) then -1 else
      match (if f.kind = 7 ∨ f.kind = 8 then nth k.fields up else some f) with
      | none => -1
      | some g => if g.kind ≠ 1 then -1 else if kind ≤ kindIx g.of x.kinds then -1 else kindIx g.of x.kinds
theorem upX_ct {G : Env} (hP : G.P = Tryd.prog) {x : Sch} {kind field : Int} (hl : x.kinds.length < 1000000) (hl' : ∀ k ∈ x.kinds, k.fields.length < 1000000) :
    CT G 36 ⟨[.ag ((encX x).map .f), .f (.int .i64 kind), .f (.int .i64 field)], []⟩ ⟨.f (.int .i64 (upF x kind field)), [], []⟩ := by
  refine ct_of_body (N := []) (pc := f36pc) (rs := f36rs) (by rw [hP]; exact f36ok) ?_
  rw [entry_mk]
  have he : (encX x).length = 4 := rfl
  have hx : getN ((encX x).map .f) 0 4 = some (.ag ((encX x).map .f)) := rfl
  simp [f36pc, f36r0, f36r1, he, hx]
  refine pCall_pure (hasX_ct hP (x := x) (kind := kind) (field := field)) rfl (by simp) rfl ?_
  by_cases hh : hasF x kind field = true
  case neg =>
    have hh' := Bool.eq_false_iff.2 hh
    have : upF x kind field = -1 := by unfold upF; rw [if_pos hh']
    simp [f36r2, unF, hh', retQ, outSt, f36rs, rvals, RArg.val, resPV, this]
  have h0 : 0 ≤ kind ∧ kind < x.kinds.length ∧ 0 ≤ field ∧ field < fieldsOf x kind := by simpa [hasF] using hh
  obtain ⟨k, hk, hkm⟩ := nth_some x.kinds kind (by omega) (by omega)
  have hk' : nth (x.kinds.map encKd) kind = some (encKd k) := by rw [nth_map, hk]; rfl
  have hf : fieldsOf x kind = k.fields.length := by unfold fieldsOf; rw [hk]
  obtain ⟨f, hf1, hfm⟩ := nth_some k.fields field (by omega) (by omega)
  have hf' : nth (k.fields.map encF) field = some (encF f) := by rw [nth_map, hf1]; rfl
  have hgf : getN ((encF f).map .f) 0 8 = some (.ag ((encF f).map .f)) := rfl
  have hlf : (encF f).length = 8 := rfl
  -- the last part, from the field that refers
  have tail : ∀ g : FieldD, upF x kind field = (if g.kind ≠ 1 then -1 else if kind ≤ kindIx g.of x.kinds then -1 else kindIx g.of x.kinds) →
      ∀ a b, lkS a 1 = .f (.int .i64 kind) → lkS a 3 = .ptr 103 0 0 1 → lkS a 7 = .ptr 107 0 0 1 → lkK b 103 = ⟨1, .box 27 false ((encX x).map .f)⟩ → lkK b 107 = ⟨1, .box 96 false ((encF g).map .f)⟩ →
      pwp G (.seq (.seq (.region f36r9 []) (.cond (.s 58) (.seq (.region f36r10 []) (.ret)) (.skip))) (.seq (.region f36r11 []) (.seq (.seq (.region f36r12 []) (.cond (.s 65) (.seq (.region f36r13 []) (.ret)) (.skip))) (.seq (.region f36r14 []) (.ret)))))
        (retQ 0 [] f36rs (· = ⟨.f (.int .i64 (upF x kind field)), [], []⟩)) (mkSt a b) := by
    intro g hu a b h1 h3 h7 k3 k7
    by_cases hg : g.kind = 1
    case neg =>
      rw [if_pos hg] at hu
      simp [f36r9, f36r10, h1, h3, h7, k3, k7, encF, iI, binF, binI, hg, retQ, outSt, f36rs, rvals, RArg.val, resPV, hu]
    rw [if_neg (by simpa using hg)] at hu
    simp [f36r9, f36r11, h1, h3, h7, k3, k7, encF, iI, binF, binI, hg, getN, he]
    simp [encX, encS, encL]
    refine pCall_pure (kind_ct hP (x := x) (name := g.of) hl) (by simp [encX, iI]) (by simp) rfl ?_
    by_cases hk9 : kind ≤ kindIx g.of x.kinds
    · rw [if_pos hk9] at hu
      simp [f36r12, f36r13, h1, binF, binI, hk9, retQ, outSt, f36rs, rvals, RArg.val, resPV, hu]
    · rw [if_neg hk9] at hu
      simp [f36r12, f36r14, h1, binF, binI, hk9, retQ, outSt, f36rs, rvals, RArg.val, resPV, hu]
  have hup : upF x kind field = (if (f.kind = 7 ∨ f.kind = 8) ∧ (fieldIx f.up k.fields < 0 ∨ field ≤ fieldIx f.up k.fields) then -1 else
      match (if f.kind = 7 ∨ f.kind = 8 then nth k.fields (fieldIx f.up k.fields) else some f) with
      | none => -1
      | some g => if g.kind ≠ 1 then -1 else if kind ≤ kindIx g.of x.kinds then -1 else kindIx g.of x.kinds) := by
    unfold upF
    rw [if_neg (by simp [hh]), hk]
    simp only [hf1]
  by_cases h78 : f.kind = 7 ∨ f.kind = 8
  case neg =>
    have h7 : f.kind ≠ 7 := fun e => h78 (.inl e)
    have h8 : f.kind ≠ 8 := fun e => h78 (.inr e)
    rw [if_neg (fun e => h78 e.1), if_neg h78] at hup
    simp [f36r3, unF, hh, encX, encKd, hk', hf', hgf, hlf, iI]
    simp [f36r4, encF, iI, h7, h8, encS, encL, binF, binI]
    refine tail f hup _ _ rfl rfl rfl rfl rfl
  have h7' : f.kind = 8 → f.kind ≠ 7 := by omega
  have fin : ∀ a b, lkS a 1 = .f (.int .i64 kind) → lkS a 2 = .f (.int .i64 field) → lkS a 3 = .ptr 103 0 0 1 → lkS a 7 = .ptr 107 0 0 1 → lkK b 103 = ⟨1, .box 27 false ((encX x).map .f)⟩ → lkK b 107 = ⟨1, .box 96 false ((encF f).map .f)⟩ →
      pwp G (.seq (.region f36r5 [[], [0], [], [0, 1, 2], [0, 1, 2, 3], [], [5], [0, 1, 2, 3, 4, 5, 6], [0, 1, 2, 3, 4, 5, 6, 7]]) (.seq (.seq (.region f36r6 []) (.cond (.s 46) (.seq (.region f36r7 []) (.ret)) (.skip))) (.region f36r8 [])))
        (PX.then (pwp G (.seq (.seq (.region f36r9 []) (.cond (.s 58) (.seq (.region f36r10 []) (.ret)) (.skip))) (.seq (.region f36r11 []) (.seq (.seq (.region f36r12 []) (.cond (.s 65) (.seq (.region f36r13 []) (.ret)) (.skip))) (.seq (.region f36r14 []) (.ret)))))
        (retQ 0 [] f36rs (· = ⟨.f (.int .i64 (upF x kind field)), [], []⟩))) (retQ 0 [] f36rs (· = ⟨.f (.int .i64 (upF x kind field)), [], []⟩))) (mkSt a b) := by
    intro a b h1 h2 h3 h7 k3 k7
    simp [f36r5, h1, h2, h3, h7, k3, k7, encX, encKd, encF, iI, hk', encS, encL, getN]
    refine pCall_pure (field_ct hP (k := k) (name := f.up) (hl' k hkm)) rfl (by simp) rfl ?_
    by_cases hn : fieldIx f.up k.fields < 0
    · rw [if_pos ⟨h78, .inl hn⟩] at hup
      simp [f36r6, f36r7, h1, h2, h3, h7, binF, binI, hn, retQ, outSt, f36rs, rvals, RArg.val, resPV, hup]
    by_cases hn2 : field ≤ fieldIx f.up k.fields
    · rw [if_pos ⟨h78, .inr hn2⟩] at hup
      simp [f36r6, f36r7, h1, h2, h3, h7, binF, binI, hn, hn2, retQ, outSt, f36rs, rvals, RArg.val, resPV, hup]
    rw [if_neg (by simp; omega), if_pos h78] at hup
    obtain ⟨g, hg, hgm⟩ := nth_some k.fields (fieldIx f.up k.fields) hn (by have := idxF_lt (fun g => decide (g.name = f.up)) k.fields; unfold fieldIx; omega)
    rw [hg] at hup
    have hg' : nth (k.fields.map encF) (fieldIx f.up k.fields) = some (encF g) := by rw [nth_map, hg]; rfl
    have hgg : getN ((encF g).map .f) 0 8 = some (.ag ((encF g).map .f)) := rfl
    have hlg : (encF g).length = 8 := rfl
    simp [f36r6, f36r8, h1, h2, h3, h7, k3, k7, binF, binI, hn, hn2, encX, encKd, iI, hk', hg']
    simp [encF, iI, encS, encL, getN, h7, k7]
    exact tail g hup _ _ h1 h3 h7 (by simpa [encX, encF, encKd, iI, encS, encL] using k3) rfl
  rcases h78 with e | e
  · simp [f36r3, unF, hh, encX, encKd, hk', hf', hgf, hlf, iI]
    simp [f36r4, encF, iI, e, encS, encL, binF, binI]
    exact fin _ _ rfl rfl rfl rfl rfl (by simp [encF, e, iI, encS, encL])
  · simp [f36r3, unF, hh, encX, encKd, hk', hf', hgf, hlf, iI]
    simp [f36r4, encF, iI, e, encS, encL, binF, binI]
    exact fin _ _ rfl rfl rfl rfl rfl (by simp [encF, e, iI, encS, encL])
end Go.Absw

/- Contract of Maker.plain. -/
namespace Go.Absw
open Go Go.Proofs
set_option maxRecDepth 100000

theorem i64c {n : Int} (h : -9223372036854775808 ≤ n ∧ n ≤ 9223372036854775807) : In64 n := h
/-- A call of Take. -/
theorem pTake {G : Env} (hP : G.P = Tryd.prog) {l : List Int} (hl : ∀ n ∈ l, In64 n) {a : List (Nat × PV)} {b : List (Nat × Tok)} {K : St → Prop} {d T s : Nat} {t : TypeId} {i n : Int} (hk : lkK b T = ⟨s, .box t false [.f (encL l), .f (.int .i64 i)]⟩)
    (hi : 0 ≤ i ∧ i < 1000000000) (hn : In64 n) (hK : K (mkSt ((d, .f (.int .i64 (atF l i n))) :: a) ((T, ⟨s, .box t false [.f (encL l), .f (.int .i64 (i + 1))]⟩) :: b))) :
    pCall G .f [T] [] (some d) [.f (.fn (.func 32)), .ptr T 0 0 s, .f (.int .i64 n)] (mkSt a b) K := by
  refine pCall_tok (take_ct hP (t := t) hl hi hn) rfl ?_ ⟨rfl, rfl⟩ ?_
  · simp [callInp, mDn, pos, encL, hk]
  · simpa [newT, pos, mUp, upC, encL, hk] using hK
theorem at_b (l : List Int) (i : Int) {n : Int} (h : 1 ≤ n) : 0 ≤ atF l i n ∧ atF l i n < n := by
  unfold atF
  split
  · exact ⟨aroundF_nonneg _ _, aroundF_lt _ h⟩
  · omega

def fd0 : FieldD := ⟨[], [], [], 0, 0, 0, [], []⟩
def bSize : List UInt8 := [115, 105, 122, 101]
def bTag : List UInt8 := [116, 97, 103]
def bBorn : List UInt8 := [98, 111, 114, 110]
def bLeft : List UInt8 := [108, 101, 102, 116]
def bState : List UInt8 := [115, 116, 97, 116, 101]
def bLife : List UInt8 := [108, 105, 102, 101]
def bLow : List UInt8 := [108, 111, 119]
def bHigh : List UInt8 := [104, 105, 103, 104]
def rgb : List (List UInt8) := [[114, 101, 100], [103, 114, 101, 101, 110], [98, 108, 117, 101]]
def plainF (l : List Int) (i : Int) : List FieldD × Int :=
  if atF l i 6 = 0 then
    ([{ fd0 with name := bSize, kind := 2, lo := atF l (i + 1) 11 - 5, hi := atF l (i + 1) 11 - 5 + atF l (i + 2) 20 }], i + 3)
  else if atF l i 6 = 1 then
    let n := (1 + atF l (i + 1) 3).toNat
    ([{ fd0 with name := bTag, kind := 3, words := rgb.take n, weights := ((List.range n).map fun j : Nat => atF l (i + 2 + (j : Int)) 5).set (atF l (i + 2 + n) n).toNat (1 + atF l (i + 3 + n) 3) }], i + 4 + n)
  else if atF l i 6 = 2 then
    ([{ fd0 with name := bBorn, kind := 4, lo := atF l (i + 1) 400 - 200, hi := atF l (i + 1) 400 - 200 + atF l (i + 2) 60 }, { fd0 with name := bLeft, kind := 4, of := bBorn, lo := atF l (i + 3) 3, hi := 3 + atF l (i + 4) 30 }], i + 5)
  else if atF l i 6 = 3 then
    ([{ fd0 with name := bState, kind := 5, of := bLife, lo := atF l (i + 1) 3, hi := atF l (i + 1) 3 + atF l (i + 2) 4 }], i + 3)
  else if atF l i 6 = 4 then
    ([{ fd0 with name := bLow, kind := 2, lo := atF l (i + 1) 5, hi := 5 + atF l (i + 2) 10 }, { fd0 with name := bHigh, kind := 2, lo := atF l (i + 3) 5, hi := 10 + atF l (i + 4) 10 }], i + 5)
  else ([], i + 1)

theorem plain_ct {G : Env} (hP : G.P = Tryd.prog) {t : TypeId} {l : List Int} (hl : ∀ n ∈ l, In64 n) {i : Int} (hi : 0 ≤ i ∧ i < 900000000) :
    CT G 66 ⟨[.ptr 0 0 0 0], [.box t false [.f (encL l), .f (.int .i64 i)]]⟩ ⟨.f (.sl 8 ((plainF l i).1.map encF)), [⟨0, .box t false [.f (encL l), .f (.int .i64 (plainF l i).2)]⟩], []⟩ := by
  refine ct_of_body (N := []) (pc := f66pc) (rs := f66rs) (by rw [hP]; exact f66ok) ?_
  rw [entry_mk]
  simp [f66pc, f66r0, f66r1]
  refine pTake hP hl (i := i) rfl (by omega) (i64c (by omega)) ?_
  by_cases h0 : atF l i 6 = 0
  · have b1 := at_b l (i + 1) (n := 11) (by omega)
    have b2 := at_b l (i + 2) (n := 20) (by omega)
    have w1 : IntKind.i64.wrap (atF l (i + 1) 11 - 5) = atF l (i + 1) 11 - 5 := w64 (by omega)
    have w2 : IntKind.i64.wrap (atF l (i + 1) 11 - 5 + atF l (i + 2) 20) = atF l (i + 1) 11 - 5 + atF l (i + 2) 20 := w64 (by omega)
    simp [f66r2, f66r3, binF, binI, h0]
    refine pTake hP hl (i := i + 1) rfl (by omega) (i64c (by omega)) ?_
    simp [f66r4, binF, binI, w1]
    refine pTake hP hl (i := i + 1 + 1) rfl (by omega) (i64c (by omega)) ?_
    simp only [show i + 1 + 1 = i + 2 by omega]
    simp [binF, binI, w2]
    simp [retQ, outSt, f66rs, rvals, RArg.val, resPV, ghSt, plainF, h0, List.range_succ, encF, fd0, encS, encL, bSize, iI]
    omega
  by_cases h1 : atF l i 6 = 1
  · have b1 := at_b l (i + 1) (n := 3) (by omega)
    have w1 : IntKind.i64.wrap (1 + atF l (i + 1) 3) = 1 + atF l (i + 1) 3 := w64 (by omega)
    obtain ⟨n, hn⟩ : ∃ n : Nat, 1 + atF l (i + 1) 3 = n := ⟨(1 + atF l (i + 1) 3).toNat, by omega⟩
    have hn3 : 1 ≤ n ∧ n ≤ 3 := by omega
    simp [f66r2, f66r5, f66r6, binF, binI, h0, h1, List.replicate]
    refine pTake hP hl (i := i + 1) rfl (by omega) (i64c (by omega)) ?_
    simp only [show i + 1 + 1 = i + 2 by omega]
    have wn : IntKind.i64.wrap (n : Int) = n := w64 (by omega)
    have hm : min n 3 = n := by omega
    have hb : (n : Int) ≤ 3 := by omega
    simp [f66r7, f66r8, binF, binI, w1, hn, bnds, wn, hb, hn3.2, ghSt]
    unfold f66l0
    refine pwp_loop (α := Nat) (fun j => mkSt [(0, .ptr 0 0 0 0), (4, .ts 125 0 n 0), (5, .ptr 105 0 0 0), (6, .f (iI j))]
      [(0, ⟨0, .box t false [.f (encL l), .f (iI (i + 2 + j))]⟩), (105, ⟨0, .box 96 false [.f (.str bTag), .f (.str []), .f (.str []), .f (iI 3), .f (iI 0), .f (iI 0), .f (encS (rgb.take n)), .ts 143 0 j 0]⟩),
       (125, ⟨0, .row 9 1 3 3 (rgb.map fun s => [.str s])⟩), (143, ⟨0, .row 3 1 0 0 ((List.range j).map fun k : Nat => [iI (atF l (i + 2 + (k : Int)) 5)])⟩)])
      (fun j => j ≤ n) (fun j => n - j) 0 (by omega) (by simp [keepSt, iI, bTag, encS, encL, rgb, List.map_take]) ?_
    intro j hj
    simp [f66r9, binF, binI, iI]
    refine ccase_i (fun h => ?_) (fun h => ?_)
    · simp at h
      have hw : IntKind.i64.wrap ((j : Int) + 1) = (j : Int) + 1 := w64 (by omega)
      simp [f66r11, binF, binI, iI]
      refine pTake hP hl (i := i + 2 + j) rfl (by omega) (i64c (by omega)) ?_
      simp
      rw [if_pos (by simp [i64max]; omega)]
      have ht : List.take j ((List.range j).map fun k : Nat => [FV.int .i64 (atF l (i + 2 + (k : Int)) 5)]) = (List.range j).map fun k : Nat => [FV.int .i64 (atF l (i + 2 + (k : Int)) 5)] := List.take_of_length_le (by simp)
      simp [f66r10, binF, binI, hw, ht, keepSt]
      refine ⟨j + 1, by omega, by omega, ?_⟩
      simp [List.range_succ, Int.add_assoc]
    · simp at h
      obtain rfl : j = n := by omega
      have b2 := at_b l (i + 2 + (j : Int)) (n := (j : Int)) (by omega)
      have b3 := at_b l (i + 3 + (j : Int)) (n := 3) (by omega)
      have w3 : IntKind.i64.wrap (1 + atF l (i + 3 + (j : Int)) 3) = 1 + atF l (i + 3 + (j : Int)) 3 := w64 (by omega)
      simp [f66r12, binF, binI, iI]
      refine pTake hP hl (i := i + 2 + j) rfl (by omega) (i64c (by omega)) ?_
      simp
      refine pTake hP hl (i := i + 2 + j + 1) rfl (by omega) (i64c (by omega)) ?_
      simp only [show i + 2 + (j : Int) + 1 = i + 3 + j by omega]
      simp [binF, binI, w3, b2]
      have ht : List.take j (((List.range j).map fun k : Nat => [FV.int .i64 (atF l (i + 2 + (k : Int)) 5)]).set (atF l (i + 2 + (j : Int)) j).toNat [FV.int .i64 (1 + atF l (i + 3 + (j : Int)) 3)]) =
          ((List.range j).map fun k : Nat => [FV.int .i64 (atF l (i + 2 + (k : Int)) 5)]).set (atF l (i + 2 + (j : Int)) j).toNat [FV.int .i64 (1 + atF l (i + 3 + (j : Int)) 3)] := List.take_of_length_le (by simp)
      simp [f66r13, getN, encS, encL, ht]
      simp [retQ, outSt, f66rs, rvals, RArg.val, resPV, ghSt, plainF, h1, List.range_succ, encF, fd0, iI, hn, encS, encL, List.map_set, Function.comp_def]
      omega
  by_cases h2 : atF l i 6 = 2
  · have b1 := at_b l (i + 1) (n := 400) (by omega)
    have b2 := at_b l (i + 2) (n := 60) (by omega)
    have b3 := at_b l (i + 3) (n := 3) (by omega)
    have b4 := at_b l (i + 4) (n := 30) (by omega)
    have w1 : IntKind.i64.wrap (atF l (i + 1) 400 - 200) = atF l (i + 1) 400 - 200 := w64 (by omega)
    have w2 : IntKind.i64.wrap (atF l (i + 1) 400 - 200 + atF l (i + 2) 60) = atF l (i + 1) 400 - 200 + atF l (i + 2) 60 := w64 (by omega)
    have w3 : IntKind.i64.wrap (3 + atF l (i + 4) 30) = 3 + atF l (i + 4) 30 := w64 (by omega)
    simp [f66r2, f66r5, f66r14, f66r15, binF, binI, h0, h1, h2]
    refine pTake hP hl (i := i + 1) rfl (by omega) (i64c (by omega)) ?_
    simp [f66r16, binF, binI, w1]
    refine pTake hP hl (i := i + 1 + 1) rfl (by omega) (i64c (by omega)) ?_
    simp only [show i + 1 + 1 = i + 2 by omega]
    simp [f66r17, binF, binI, w2, getN]
    refine pTake hP hl (i := i + 2 + 1) rfl (by omega) (i64c (by omega)) ?_
    simp only [show i + 2 + 1 = i + 3 by omega]
    simp
    refine pTake hP hl (i := i + 3 + 1) rfl (by omega) (i64c (by omega)) ?_
    simp only [show i + 3 + 1 = i + 4 by omega]
    simp [binF, binI, w3]
    simp [retQ, outSt, f66rs, rvals, RArg.val, resPV, ghSt, plainF, h2, List.range_succ, encF, fd0, encS, encL, bBorn, bLeft, iI, List.replicate]
    omega
  by_cases h3 : atF l i 6 = 3
  · have b1 := at_b l (i + 1) (n := 3) (by omega)
    have b2 := at_b l (i + 2) (n := 4) (by omega)
    have w2 : IntKind.i64.wrap (atF l (i + 1) 3 + atF l (i + 2) 4) = atF l (i + 1) 3 + atF l (i + 2) 4 := w64 (by omega)
    simp [f66r2, f66r5, f66r14, f66r18, f66r19, binF, binI, h0, h1, h2, h3]
    refine pTake hP hl (i := i + 1) rfl (by omega) (i64c (by omega)) ?_
    simp [f66r20, binF, binI]
    refine pTake hP hl (i := i + 1 + 1) rfl (by omega) (i64c (by omega)) ?_
    simp only [show i + 1 + 1 = i + 2 by omega]
    simp [binF, binI, w2]
    simp [retQ, outSt, f66rs, rvals, RArg.val, resPV, ghSt, plainF, h3, List.range_succ, encF, fd0, encS, encL, bState, bLife, iI]
    omega
  by_cases h4 : atF l i 6 = 4
  · have b1 := at_b l (i + 1) (n := 5) (by omega)
    have b2 := at_b l (i + 2) (n := 10) (by omega)
    have b3 := at_b l (i + 3) (n := 5) (by omega)
    have b4 := at_b l (i + 4) (n := 10) (by omega)
    have w2 : IntKind.i64.wrap (5 + atF l (i + 2) 10) = 5 + atF l (i + 2) 10 := w64 (by omega)
    have w4 : IntKind.i64.wrap (10 + atF l (i + 4) 10) = 10 + atF l (i + 4) 10 := w64 (by omega)
    simp [f66r2, f66r5, f66r14, f66r18, f66r21, f66r22, binF, binI, h0, h1, h2, h3, h4]
    refine pTake hP hl (i := i + 1) rfl (by omega) (i64c (by omega)) ?_
    simp
    refine pTake hP hl (i := i + 1 + 1) rfl (by omega) (i64c (by omega)) ?_
    simp only [show i + 1 + 1 = i + 2 by omega]
    simp [binF, binI, w2]
    refine pTake hP hl (i := i + 2 + 1) rfl (by omega) (i64c (by omega)) ?_
    simp only [show i + 2 + 1 = i + 3 by omega]
    simp
    refine pTake hP hl (i := i + 3 + 1) rfl (by omega) (i64c (by omega)) ?_
    simp only [show i + 3 + 1 = i + 4 by omega]
    simp [binF, binI, w4]
    simp [retQ, outSt, f66rs, rvals, RArg.val, resPV, ghSt, plainF, h4, List.range_succ, encF, fd0, encS, encL, bLow, bHigh, iI, List.replicate]
    omega
  · simp [f66r2, f66r5, f66r14, f66r18, f66r21, f66r23, binF, binI, h0, h1, h2, h3, h4]
    simp [retQ, outSt, f66rs, rvals, RArg.val, resPV, ghSt, plainF, h0, h1, h2, h3, h4, List.range_succ, encL, iI]
end Go.Absw

/- Contract of Maker.kind. -/
namespace Go.Absw
open Go Go.Proofs
set_option maxRecDepth 100000

/-- Two ways meet: a row is frozen, the state is brought to a common form. -/
theorem pwp_joinF {G : Env} {X rest : PCode} {sl tk : List Nat} {t : Nat} {Q : PX → St → Prop} {σ : St} (S : St)
    (hX : pwp G X (PX.then (fun σ' => ∃ σ'', ghSt (.fz t) σ' = some σ'' ∧ keepSt σ'' sl tk = S) (fun _ _ => False)) σ) (h : pwp G rest Q S) : pwp G (.seq X (.gh (.fz t) (.gh (.keep sl tk) rest))) Q σ := by
  show pwp G X (PX.then (pwp G (.gh (.fz t) (.gh (.keep sl tk) rest)) Q) Q) σ
  refine pwp_mono hX fun e σ' hh => ?_
  cases e with
  | normal =>
    obtain ⟨σ'', h1, h2⟩ := hh
    refine ⟨σ'', h1, _, rfl, ?_⟩
    rw [h2]; exact h
  | exit i => exact hh.elim
  | ret => exact hh.elim

/-- The same, as the walk comes to it. -/
theorem join_rc {G : Env} {r : List POp} {c : PArg} {A B rest : PCode} {sl tk : List Nat} {t : Nat} {Q Q' : PX → St → Prop} {σ : St} (S : St)
    (hX : pOps G r (pwp G (.cond c A B) (PX.then (fun σ' => ∃ σ'', ghSt (.fz t) σ' = some σ'' ∧ keepSt σ'' sl tk = S) (fun _ _ => False))) σ) (h : pwp G rest Q S) :
    pOps G r (pwp G (.cond c A B) (PX.then (pwp G (.gh (.fz t) (.gh (.keep sl tk) rest)) Q) Q')) σ := by
  refine pOps_mono hX fun σ1 h1 => pwp_mono h1 fun e σ' hh => ?_
  cases e with
  | normal =>
    obtain ⟨σ'', h1, h2⟩ := hh
    refine ⟨σ'', h1, _, rfl, ?_⟩
    rw [h2]; exact h
  | exit i => exact hh.elim
  | ret => exact hh.elim
def nth0 {α : Type} [Inhabited α] (c : List α) (j : Int) : α := (nth c j).getD default
theorem pickI {α β : Type} [Inhabited α] (g : α → β) (c : List α) (j : Int) (h : 0 ≤ j ∧ j < c.length) : (c.map g)[j.toNat]? = some (g (nth0 c j)) := by
  have hlt : j.toNat < c.length := by omega
  have : nth c j = some c[j.toNat] := by unfold nth; rw [if_pos h.1]; simp [hlt]
  simp [nth0, this, hlt]
theorem pickG {α β : Type} [Inhabited α] (g : α → β) (c : List α) (j : Int) (h : 0 ≤ j ∧ j < c.length) (h' : j.toNat < (c.map g).length) : (c.map g)[j.toNat]'h' = g (nth0 c j) := by
  have := pickI g c j h
  rw [List.getElem?_eq_getElem h'] at this
  exact Option.some.inj this
theorem getL {α : Type} [Inhabited α] (c : List α) (j : Int) (h : 0 ≤ j ∧ j < c.length) (h' : j.toNat < c.length) : c[j.toNat]'h' = nth0 c j := by
  have : nth c j = some c[j.toNat] := by unfold nth; rw [if_pos h.1]; simp [h']
  simp [nth0, this]
theorem nth0_mem {α : Type} [Inhabited α] (c : List α) (j : Int) (h : 0 ≤ j ∧ j < c.length) : nth0 c j ∈ c := by
  have hlt : j.toNat < c.length := by omega
  have : nth c j = some c[j.toNat] := by unfold nth; rw [if_pos h.1]; simp [hlt]
  simp [nth0, this]
def cLo : List Int := [0, 1, 2, 4, 1, 2]
def cKey : List Int := [0, 1, 100, -3]
def cTo : List Int := [4, 3, 8, 2]
def bId : List UInt8 := [105, 100]
def bOf : List UInt8 := [111, 102]
def bSame : List UInt8 := [115, 97, 109, 101]
def bPart : List UInt8 := [112, 97, 114, 116]
def bTotal : List UInt8 := [116, 111, 116, 97, 108]
def bBy : List UInt8 := [98, 121]
def kNames : List (List UInt8) := [[112, 101, 114, 115, 111, 110], [111, 114, 100, 101, 114], [105, 116, 101, 109]]

theorem plainF_b (l : List Int) (i : Int) : (plainF l i).1.length ≤ 2 ∧ i + 1 ≤ (plainF l i).2 ∧ (plainF l i).2 ≤ i + 7 := by
  have := at_b l (i + 1) (n := 3) (by omega)
  unfold plainF
  repeat' split
  all_goals (simp; try omega)
/-- What is under way in Maker.kind: the kind, those before it, the number of the next choice. -/
structure KS where
  k : KindD
  ks : List KindD
  i : Int
def KS.add (s : KS) (fs : List FieldD) (n : Int) : KS := { s with k := { s.k with fields := s.k.fields ++ fs }, i := s.i + n }
def kS0 (l : List Int) (ks : List KindD) (i : Int) : KS :=
  ⟨⟨nth0 kNames ks.length, nth0 cLo (atF l i 6), nth0 cLo (atF l i 6) + atF l (i + 1) 5, [{ fd0 with name := bId, kind := 0, lo := nth0 cKey (atF l (i + 2) 4) }]⟩, ks, i + 3⟩
def kToOf (l : List Int) (s : KS) : Int := atF l s.i s.ks.length
/-- The field that refers. -/
def kS1 (l : List Int) (s : KS) : KS :=
  s.add [{ fd0 with name := bOf, kind := 1, of := (nth0 s.ks (kToOf l s)).name, lo := if atF l (s.i + 2) 5 = 0 then 1 else 0, hi := nth0 cTo (atF l (s.i + 1) 4) }] 3
def kS2 (l : List Int) (to : Int) (s : KS) : KS :=
  let c := idxF copiable (nth0 s.ks to).fields 0
  if 0 ≤ c then
    if atF l s.i 2 = 0 then s.add [{ fd0 with name := bSame, kind := 8, up := bOf, of := (nth0 (nth0 s.ks to).fields c).name }] 1 else s.add [] 1
  else s
def kS3 (l : List Int) (to : Int) (s : KS) : KS :=
  let k := nth0 s.ks to
  if fieldIx bTotal k.fields < 0 then
    if atF l s.i 3 = 0 then
      { s.add [{ fd0 with name := bPart, kind := 7, up := bOf, of := bTotal, lo := atF l (s.i + 1) 3, hi := atF l (s.i + 1) 3 + atF l (s.i + 2) 8 }] 3 with
        ks := s.ks.set to.toNat { k with fields := k.fields ++ [{ fd0 with name := bTotal, kind := 6, of := s.k.name }] } }
    else s.add [] 1
  else s
def kS4 (l : List Int) (s : KS) : KS := if s.ks.length = 0 then s else kS3 l (kToOf l s) (kS2 l (kToOf l s) (kS1 l s))
def kS5 (l : List Int) (s : KS) : KS :=
  if 1 < s.ks.length then (if atF l s.i 3 = 0 then s.add [{ fd0 with name := bBy, kind := 1, of := (nth0 s.ks 0).name, hi := 8 }] 1 else s.add [] 1) else s
def kS6 (l : List Int) (s : KS) : KS := { s.add (plainF l s.i).1 0 with i := (plainF l s.i).2 }
def kS7 (l : List Int) (s : KS) : KS :=
  if atF l s.i 2 = 0 then
    let p := plainF l (s.i + 1)
    if 0 < p.1.length ∧ fieldIx (nth0 p.1 0).name s.k.fields < 0 then { s.add p.1 0 with i := p.2 } else { s with i := p.2 }
  else s.add [] 1
def kindF (l : List Int) (ks : List KindD) (i : Int) : KS := kS7 l (kS6 l (kS5 l (kS4 l (kS0 l ks i))))

/-- A step adds at most n fields, and takes at most 4 n choices. -/
def Ext (n : Nat) (s s' : KS) : Prop := s'.ks.length = s.ks.length ∧ s.k.fields.length ≤ s'.k.fields.length ∧ s'.k.fields.length ≤ s.k.fields.length + n ∧ s.i ≤ s'.i ∧ s'.i ≤ s.i + 4 * n
theorem Ext.trans {n m : Nat} {a b c : KS} (h : Ext n a b) (h' : Ext m b c) : Ext (n + m) a c := by
  obtain ⟨a1, a2, a3, a4, a5⟩ := h
  obtain ⟨b1, b2, b3, b4, b5⟩ := h'
  exact ⟨by omega, by omega, by omega, by omega, by omega⟩
theorem Ext.mono {n m : Nat} {a b : KS} (h : Ext n a b) (hm : n ≤ m) : Ext m a b := by
  obtain ⟨a1, a2, a3, a4, a5⟩ := h
  exact ⟨by omega, by omega, by omega, by omega, by omega⟩
theorem kS1_ext (l : List Int) (s : KS) : Ext 1 s (kS1 l s) := by
  refine ⟨rfl, ?_, ?_, ?_, ?_⟩ <;> simp [kS1, KS.add] <;> omega
theorem kS2_ext (l : List Int) (to : Int) (s : KS) : Ext 1 s (kS2 l to s) := by
  by_cases hc : 0 ≤ idxF copiable (nth0 s.ks to).fields 0
  · by_cases ht : atF l s.i 2 = 0
    · refine ⟨?_, ?_, ?_, ?_, ?_⟩ <;> simp [kS2, hc, ht, KS.add] <;> omega
    · refine ⟨?_, ?_, ?_, ?_, ?_⟩ <;> simp [kS2, hc, ht, KS.add] <;> omega
  · refine ⟨?_, ?_, ?_, ?_, ?_⟩ <;> simp [kS2, hc, KS.add] <;> omega
theorem kS3_ext (l : List Int) (to : Int) (s : KS) : Ext 1 s (kS3 l to s) := by
  by_cases hc : fieldIx bTotal (nth0 s.ks to).fields < 0
  · by_cases ht : atF l s.i 3 = 0
    · refine ⟨?_, ?_, ?_, ?_, ?_⟩ <;> simp [kS3, hc, ht, KS.add] <;> omega
    · refine ⟨?_, ?_, ?_, ?_, ?_⟩ <;> simp [kS3, hc, ht, KS.add] <;> omega
  · refine ⟨?_, ?_, ?_, ?_, ?_⟩ <;> simp [kS3, hc, KS.add] <;> omega
theorem kS4_ext (l : List Int) (s : KS) : Ext 4 s (kS4 l s) := by
  unfold kS4
  split
  · exact ⟨rfl, Nat.le_refl _, by omega, Int.le_refl _, by omega⟩
  · exact ((kS1_ext l s).trans ((kS2_ext l _ _).trans (kS3_ext l _ _))).mono (by omega)
theorem kS5_ext (l : List Int) (s : KS) : Ext 1 s (kS5 l s) := by
  by_cases hc : 1 < s.ks.length
  · by_cases ht : atF l s.i 3 = 0
    · refine ⟨?_, ?_, ?_, ?_, ?_⟩ <;> simp [kS5, hc, ht, KS.add] <;> omega
    · refine ⟨?_, ?_, ?_, ?_, ?_⟩ <;> simp [kS5, hc, ht, KS.add] <;> omega
  · refine ⟨?_, ?_, ?_, ?_, ?_⟩ <;> simp [kS5, hc, KS.add] <;> omega
theorem kS6_ext (l : List Int) (s : KS) : Ext 2 s (kS6 l s) := by
  have := plainF_b l s.i
  refine ⟨?_, ?_, ?_, ?_, ?_⟩ <;> simp [kS6, KS.add] <;> omega
theorem kS7_ext (l : List Int) (s : KS) : Ext 2 s (kS7 l s) := by
  have := plainF_b l (s.i + 1)
  by_cases hc : atF l s.i 2 = 0
  · by_cases ht : 0 < (plainF l (s.i + 1)).1.length ∧ fieldIx (nth0 (plainF l (s.i + 1)).1 0).name s.k.fields < 0
    · refine ⟨?_, ?_, ?_, ?_, ?_⟩ <;> simp only [kS7, hc, ht, KS.add, and_self, if_true, List.length_append] <;> omega
    · refine ⟨?_, ?_, ?_, ?_, ?_⟩ <;> simp only [kS7, hc, ht, KS.add, if_true, if_false] <;> omega
  · refine ⟨?_, ?_, ?_, ?_, ?_⟩ <;> simp [kS7, hc, KS.add] <;> omega
theorem kindF_eq (l : List Int) (ks : List KindD) (i : Int) : kindF l ks i = kS7 l (kS6 l (kS5 l (kS4 l (kS0 l ks i)))) := rfl

def tM (t : TypeId) (l : List Int) (i : Int) : Tok := ⟨0, .box t false [.f (encL l), .f (.int .i64 i)]⟩
def tKs (e : TypeId) (ks : List KindD) : Tok := ⟨0, .row e 4 0 0 (ks.map encKd)⟩
def tZ : Tok := ⟨0, .box 56 false [.f (.str []), .f (.int .i64 0), .f (.int .i64 0), .f .nils]⟩
def tB (k : KindD) : Tok := ⟨0, .box 56 false [.f (.str k.name), .f (.int .i64 k.lo), .f (.int .i64 k.hi), .ts 140 0 k.fields.length 0]⟩
def tF (fs : List FieldD) : Tok := ⟨0, .row 96 8 fs.length fs.length (fs.map encF)⟩
def kTk (t e : TypeId) (l : List Int) (s : KS) : List (Nat × Tok) := [(0, tM t l s.i), (1, tKs e s.ks), (104, tZ), (107, tB s.k), (140, tF s.k.fields)]
def kSl (n : Nat) : List (Nat × PV) := [(0, .ptr 0 0 0 0), (1, .ts 1 0 n 0), (4, .ptr 104 0 0 0), (5, .f (.int .i64 n)), (7, .ptr 107 0 0 0)]

def kSm : List (Nat × PV) := [(0, .ptr 0 0 0 0), (4, .ptr 104 0 0 0), (7, .ptr 107 0 0 0)]
section
variable {G : Env} (hP : G.P = Tryd.prog) {t e : TypeId} {l : List Int} (hl : ∀ n ∈ l, In64 n)
include hP hl

theorem k5 (s : KS) {n : Nat} (hn : s.ks.length = n) (hi : 0 ≤ s.i ∧ s.i < 1000000) (hf : s.k.fields.length < 1000) {pre : List (List Nat)} :
    pOps G f33r18 (pwp G (.cond (.s 142) (.region f33r19 pre) .skip) (PX.then (fun σ' => ∃ σ'', ghSt (.fz 140) σ' = some σ'' ∧ keepSt σ'' [0, 4, 7] [0, 1, 104, 107, 140] = mkSt kSm (kTk t e l (kS5 l s))) (fun _ _ => False)))
      (mkSt (kSl n) (kTk t e l s)) := by
  subst hn
  by_cases h1 : 1 < s.ks.length
  · have h1' : (1 : Int) < s.ks.length := by omega
    simp [f33r18, kSl, kTk, binF, binI, h1', h1]
    refine pTake hP hl (i := s.i) rfl (by omega) (i64c (by omega)) ?_
    by_cases ht : atF l s.i 3 = 0
    · have p0 : (s.ks.map encKd)[0]? = some (encKd (nth0 s.ks 0)) := pickI encKd s.ks 0 ⟨by omega, by omega⟩
      have q0 : ∀ h, (s.ks.map encKd)[0]'h = encKd (nth0 s.ks 0) := fun h => pickG encKd s.ks 0 ⟨by omega, by omega⟩ h
      have r0 : ∀ h, s.ks[0]'h = nth0 s.ks 0 := fun h => getL s.ks 0 ⟨by omega, by omega⟩ h
      have hp : 0 < s.ks.length := by omega
      have hsz : (s.k.fields.length + 1) * 120 ≤ 140737488355328 ∧ s.k.fields.length + 1 ≤ i64max := by simp [i64max]; omega
      have htk : List.take s.k.fields.length (s.k.fields.map encF) = s.k.fields.map encF := List.take_of_length_le (by simp)
      simp [f33r19, ht, binF, binI, tB, tKs, tF, tM, tZ, hp, p0, q0, r0, encKd, iI, hsz, htk]
      simp [ghSt, keepSt, kSm, kTk, kS5, h1, ht, KS.add, encF, fd0, bBy, encS, encL, iI]
    · simp [ht, binF, binI, ghSt, keepSt, kSm, kTk, kS5, h1, tKs, tM, tZ, tB, tF, KS.add]
  · have h1' : ¬ (1 : Int) < s.ks.length := by omega
    simp [f33r18, kSl, kTk, binF, binI, h1', h1, ghSt, keepSt, kSm, kS5, tKs, tM, tZ, tB, tF]

theorem pPlain {a : List (Nat × PV)} {b : List (Nat × Tok)} {K : St → Prop} {d T st : Nat} {i : Int} (hk : lkK b T = ⟨st, .box t false [.f (encL l), .f (.int .i64 i)]⟩)
    (hi : 0 ≤ i ∧ i < 900000000) (hK : K (mkSt ((d, .f (.sl 8 ((plainF l i).1.map encF))) :: a) ((T, ⟨st, .box t false [.f (encL l), .f (.int .i64 (plainF l i).2)]⟩) :: b))) :
    pCall G .f [T] [] (some d) [.f (.fn (.func 66)), .ptr T 0 0 st] (mkSt a b) K := by
  refine pCall_tok (plain_ct hP (t := t) hl hi) rfl ?_ ⟨rfl, rfl⟩ ?_
  · simp [callInp, mDn, pos, encL, hk]
  · simpa [newT, pos, mUp, upC, encL, hk] using hK

theorem kEnd (s : KS) (hi : 0 ≤ s.i ∧ s.i < 1000000) (hf : s.k.fields.length < 1000) (hne : s.k.fields ≠ []) {pre : List (List Nat)} :
    pwp G (.seq (.region f33r20 []) (.seq (.region f33r21 []) (.seq (.seq (.region f33r22 []) (.cond (.s 162) (.seq (.region f33r23 []) (.seq (.gh (.fz 140) (.region f33r24 pre)) (.cond (.s 177) (.region f33r25 []) (.skip)))) (.skip)))
      (.gh (.fz 140) (.gh (.keep [4, 7] [0, 1, 104, 107, 140]) (.seq (.region f33r26 []) (.gh (.fz 140) (.ret))))))))
      (retQ 2 [] f33rs (· = ⟨.ag ((encKd (kS7 l (kS6 l s)).k).map .f), [tM t l (kS7 l (kS6 l s)).i, tKs e (kS7 l (kS6 l s)).ks], []⟩)) (mkSt kSm (kTk t e l s)) := by
  simp [f33r20, f33r21, kSm, kTk, tM]
  refine pPlain hP hl (i := s.i) rfl (by omega) ?_
  have hp := plainF_b l s.i
  generalize hpl : plainF l s.i = p at hp
  have hsz : (s.k.fields.length + p.1.length) * 120 ≤ 140737488355328 ∧ s.k.fields.length + p.1.length ≤ i64max := by simp [i64max]; omega
  have htk : List.take s.k.fields.length (s.k.fields.map encF) = s.k.fields.map encF := List.take_of_length_le (by simp)
  simp [tM, tKs, tZ, tB, tF, hsz, htk, hne]
  refine join_rc (mkSt [(4, .ptr 104 0 0 0), (7, .ptr 107 0 0 0)] (kTk t e l (kS7 l (kS6 l s)))) ?_ ?_
  · simp [f33r22]
    refine pTake hP hl (i := p.2) rfl (by omega) (i64c (by omega)) ?_
    by_cases h2 : atF l p.2 2 = 0
    · simp [f33r23, binF, binI, h2]
      refine pPlain hP hl (i := p.2 + 1) rfl (by omega) ?_
      have hq := plainF_b l (p.2 + 1)
      generalize hql : plainF l (p.2 + 1) = q at hq
      have htk2 : List.take (s.k.fields.length + p.1.length) (s.k.fields.map encF ++ p.1.map encF) = s.k.fields.map encF ++ p.1.map encF := List.take_of_length_le (by simp)
      by_cases hq0 : 0 < q.1.length
      · have hq0' : (0 : Int) < q.1.length := by omega
        have n0 : nth (q.1.map encF) 0 = some (encF (nth0 q.1 0)) := by
          have := pickI encF q.1 0 ⟨by omega, by omega⟩
          unfold nth; rw [if_pos (by omega)]; exact this
        simp [ghSt, f33r24, binF, binI, hq0, hq0', n0, encF, htk2]
        refine pCall_pure (hasF_ct hP (fs := s.k.fields ++ p.1) (name := (nth0 q.1 0).name) (by simp; omega)) (by simp) (by simp) rfl ?_
        by_cases hx : fieldIx (nth0 q.1 0).name (s.k.fields ++ p.1) < 0
        · have hsz2 : (s.k.fields.length + p.1.length + q.1.length) * 120 ≤ 140737488355328 ∧ s.k.fields.length + p.1.length + q.1.length ≤ i64max := by simp [i64max]; omega
          simp [f33r25, binF, binI, hx, hsz2, htk2, hne]
          simp [keepSt, kTk, kS7, kS6, hpl, hql, h2, hq0, hx, KS.add, tM, tKs, tZ, tB, tF, Nat.add_assoc]
        · simp [binF, binI, hx]
          simp [keepSt, kTk, kS7, kS6, hpl, hql, h2, hq0, hx, KS.add, tM, tKs, tZ, tB, tF, Nat.add_assoc]
      · have hq0' : ¬ (0 : Int) < q.1.length := by omega
        simp [ghSt, f33r24, binF, binI, hq0, hq0']
        simp [keepSt, kTk, kS7, kS6, hpl, hql, h2, hq0, KS.add, tM, tKs, tZ, tB, tF, Nat.add_assoc]
    · simp [binF, binI, h2, ghSt, keepSt, kTk, kS7, kS6, hpl, KS.add, tM, tKs, tZ, tB, tF]
  · simp [f33r26, kTk, tM, tKs, tZ, tB, tF, getN, ghSt]
    have htk3 : List.take (kS7 l (kS6 l s)).k.fields.length ((kS7 l (kS6 l s)).k.fields.map encF) = (kS7 l (kS6 l s)).k.fields.map encF := List.take_of_length_le (by simp)
    simp [retQ, outSt, f33rs, rvals, RArg.val, resPV, getN, ptrFoot, htk3, encKd, iI, List.range_succ, encL]

def kS8 (n : Nat) (to : Int) : List (Nat × PV) := [(0, .ptr 0 0 0 0), (1, .ts 1 0 n 0), (4, .ptr 104 0 0 0), (5, .f (.int .i64 n)), (7, .ptr 107 0 0 0), (8, .f (.int .i64 to))]
def jO (n : Nat) (t e : TypeId) (l : List Int) (s : KS) (σ' : St) : Prop := ∃ σ'', ghSt (.fz 140) σ' = some σ'' ∧ keepSt σ'' [0, 1, 4, 5, 7] [0, 1, 104, 107, 140] = mkSt (kSl n) (kTk t e l s)

theorem k3 (s : KS) {n : Nat} {to : Int} (hn : s.ks.length = n) (hto : 0 ≤ to ∧ to < n) (hi : 0 ≤ s.i ∧ s.i < 1000000) (hf : s.k.fields.length < 1000) (hk : ∀ k ∈ s.ks, k.fields.length < 1000) {p16 p17 : List (List Nat)} :
    pwp G (.seq (.region f33r14 []) (.cond (.s 106) (.seq (.region f33r15 []) (.seq (.region f33r16 p16) (.region f33r17 p17))) (.skip))) (PX.then (jO n t e l (kS3 l to s)) (fun _ _ => False)) (mkSt (kS8 n to) (kTk t e l s)) := by
  subst hn
  have hto' : to.toNat < s.ks.length := by omega
  have p0 : (s.ks.map encKd)[to.toNat]? = some (encKd (nth0 s.ks to)) := pickI encKd s.ks to hto
  have r0 : ∀ h, s.ks[to.toNat]'h = nth0 s.ks to := fun h => getL s.ks to hto h
  have hkm := hk _ (nth0_mem s.ks to hto)
  generalize hk0 : nth0 s.ks to = k0 at *
  simp [f33r14, kS8, kTk, tKs, tM, tB, tF, tZ, hto, hto', p0, r0, encKd, iI]
  refine pCall_pure (hasF_ct hP (fs := k0.fields) (name := bTotal) (by omega)) rfl (by simp) rfl ?_
  by_cases hx : fieldIx bTotal k0.fields < 0
  case neg => simp [binF, binI, hx, jO, ghSt, keepSt, kSl, kTk, kS3, hk0, tM, tKs, tB, tF, tZ]
  simp [binF, binI, hx]
  refine pTake hP hl (i := s.i) rfl (by omega) (i64c (by omega)) ?_
  by_cases ht : atF l s.i 3 = 0
  case neg => simp [binF, binI, ht, jO, ghSt, keepSt, kSl, kTk, kS3, hk0, hx, tM, tKs, tB, tF, tZ, KS.add]
  have b1 := at_b l (s.i + 1) (n := 3) (by omega)
  have b2 := at_b l (s.i + 2) (n := 8) (by omega)
  have w2 : IntKind.i64.wrap (atF l (s.i + 1) 3 + atF l (s.i + 2) 8) = atF l (s.i + 1) 3 + atF l (s.i + 2) 8 := w64 (by omega)
  have hsz : (s.k.fields.length + 1) * 120 ≤ 140737488355328 ∧ s.k.fields.length + 1 ≤ i64max := by simp [i64max]; omega
  have htk : List.take s.k.fields.length (s.k.fields.map encF) = s.k.fields.map encF := List.take_of_length_le (by simp)
  simp [binF, binI, ht, f33r15]
  refine pTake hP hl (i := s.i + 1) rfl (by omega) (i64c (by omega)) ?_
  simp only [show s.i + 1 + 1 = s.i + 2 by omega]
  simp [f33r16]
  refine pTake hP hl (i := s.i + 2) rfl (by omega) (i64c (by omega)) ?_
  simp only [show s.i + 2 + 1 = s.i + 3 by omega]
  simp [binF, binI, w2, hsz, htk]
  have hsz2 : k0.fields.length * 120 ≤ 140737488355328 ∧ k0.fields.length ≤ i64max := by simp [i64max]; omega
  have hsz3 : (k0.fields.length + 1) * 120 ≤ 140737488355328 ∧ k0.fields.length + 1 ≤ i64max := by simp [i64max]; omega
  have htk2 : List.take k0.fields.length (k0.fields.map encF) = k0.fields.map encF := List.take_of_length_le (by simp)
  simp [f33r17, hto, hto', p0, r0, encKd, iI, hsz2, hsz3, htk2]
  simp [jO, ghSt, keepSt, kSl, kTk, kS3, hk0, hx, ht, KS.add, tM, tKs, tB, tF, tZ, List.map_set]
  simp [encKd, encF, fd0, encS, encL, iI, bPart, bOf, bTotal]

theorem kMid (s : KS) {n : Nat} {to : Int} (f : FieldD) (hn : s.ks.length = n) (hto : 0 ≤ to ∧ to < n) (hi : 0 ≤ s.i ∧ s.i < 999990) (hf : s.k.fields.length < 990) (hk : ∀ k ∈ s.ks, k.fields.length < 1000) {p13 p16 p17 : List (List Nat)} :
    pwp G (.seq (.region f33r10 []) (.seq (.region f33r11 []) (.seq (.seq (.region f33r12 []) (.cond (.s 79) (.region f33r13 p13) (.skip))) (.gh (.fz 140) (.gh (.keep [0, 1, 4, 5, 7, 8] [0, 1, 104, 107, 140])
      (.seq (.region f33r14 []) (.cond (.s 106) (.seq (.region f33r15 []) (.seq (.region f33r16 p16) (.region f33r17 p17))) (.skip))))))))
      (PX.then (jO n t e l (kS3 l to (kS2 l to (s.add [f] 0)))) (fun _ _ => False))
      (mkSt (kS8 n to ++ [(9, .ptr 109 0 0 0)]) [(0, tM t l s.i), (1, tKs e s.ks), (104, tZ), (107, tB s.k), (109, ⟨0, .box 96 false ((encF f).map .f)⟩), (140, tF s.k.fields)]) := by
  subst hn
  have hto' : to.toNat < s.ks.length := by omega
  have p0 : (s.ks.map encKd)[to.toNat]? = some (encKd (nth0 s.ks to)) := pickI encKd s.ks to hto
  have r0 : ∀ h, s.ks[to.toNat]'h = nth0 s.ks to := fun h => getL s.ks to hto h
  have hkm := hk _ (nth0_mem s.ks to hto)
  have hsz : (s.k.fields.length + 1) * 120 ≤ 140737488355328 ∧ s.k.fields.length + 1 ≤ i64max := by simp [i64max]; omega
  have hsz' : (s.k.fields.length + 2) * 120 ≤ 140737488355328 ∧ s.k.fields.length + 2 ≤ i64max := by simp [i64max]; omega
  have htk : List.take s.k.fields.length (s.k.fields.map encF) = s.k.fields.map encF := List.take_of_length_le (by simp)
  generalize hk0 : nth0 s.ks to = k0 at *
  simp [f33r10, f33r11, kS8, tKs, tM, tB, tF, tZ, getN, encF, encS, encL, iI, hsz, htk, hto, hto', p0, r0, encKd]
  refine pCall_pure (copied_ct hP (k := k0) (by omega)) rfl (by simp) rfl ?_
  simp
  refine join_rc (mkSt (kS8 s.ks.length to) (kTk t e l (kS2 l to (s.add [f] 0)))) ?_ ?_
  · by_cases hc : 0 ≤ idxF copiable k0.fields 0
    case neg =>
      simp [f33r12, binF, binI, hc]
      simp [keepSt, ghSt, kS8, kTk, kS2, hk0, hc, tM, tKs, tB, tF, tZ, KS.add, encF, encS, encL, iI, encKd]
    simp [f33r12, binF, binI, hc]
    refine pTake hP hl (i := s.i) rfl (by omega) (i64c (by omega)) ?_
    by_cases ht : atF l s.i 2 = 0
    case neg =>
      simp [binF, binI, ht]
      simp [keepSt, ghSt, kS8, kTk, kS2, hk0, hc, ht, tM, tKs, tB, tF, tZ, KS.add, encF, encS, encL, iI, encKd]
    have n0 : nth (k0.fields.map encF) (idxF copiable k0.fields 0) = some (encF (nth0 k0.fields (idxF copiable k0.fields 0))) := by
      have := pickI encF k0.fields (idxF copiable k0.fields 0) ⟨hc, (idxF_lt copiable k0.fields).2⟩
      unfold nth; rw [if_pos hc]; exact this
    simp [f33r13, binF, binI, ht, hto, hto', p0, r0, encKd, n0, encF, hsz', iI, List.take_of_length_le]
    simp [keepSt, ghSt, kS8, kTk, kS2, hk0, hc, ht, tM, tKs, tB, tF, tZ, KS.add, encKd]
    simp [encF, fd0, encS, encL, iI, bSame, bOf]
  · have h2 : (kS2 l to (s.add [f] 0)).ks = s.ks ∧ (kS2 l to (s.add [f] 0)).k.fields.length ≤ s.k.fields.length + 2 ∧ s.i ≤ (kS2 l to (s.add [f] 0)).i ∧ (kS2 l to (s.add [f] 0)).i ≤ s.i + 1 := by
      by_cases hc : 0 ≤ idxF copiable k0.fields 0
      · by_cases ht : atF l s.i 2 = 0
        · simp [kS2, hk0, hc, ht, KS.add]; omega
        · simp [kS2, hk0, hc, ht, KS.add]; omega
      · simp [kS2, hk0, hc, KS.add]; omega
    exact k3 hP hl (kS2 l to (s.add [f] 0)) (by rw [h2.1]) (by simpa using hto) (by omega) (by omega) (by rw [h2.1]; exact hk)
end

theorem kindM_ct {G : Env} (hP : G.P = Tryd.prog) {t e : TypeId} {l : List Int} (hl : ∀ n ∈ l, In64 n) {ks : List KindD} (hks : ks.length ≤ 2) {i : Int} (hi : 0 ≤ i ∧ i < 900000) (hn : ∀ k ∈ ks, k.fields.length < 1000) :
    CT G 33 ⟨[.ptr 0 0 0 0, .ts 1 0 ks.length 0], [(tM t l i).c, (tKs e ks).c]⟩ ⟨.ag ((encKd (kindF l ks i).k).map .f), [tM t l (kindF l ks i).i, tKs e (kindF l ks i).ks], []⟩ := by
  refine ct_of_body (N := []) (pc := f33pc) (rs := f33rs) (by rw [hP]; exact f33ok) ?_
  rw [entry_mk]
  have b1 := at_b l i (n := 6) (by omega)
  have b2 := at_b l (i + 1) (n := 5) (by omega)
  have b3 := at_b l (i + 2) (n := 4) (by omega)
  have p1 : [[FV.int .i64 0], [.int .i64 1], [.int .i64 2], [.int .i64 4], [.int .i64 1], [.int .i64 2]][(atF l i 6).toNat]? = some [.int .i64 (nth0 cLo (atF l i 6))] := pickI (fun n => [FV.int .i64 n]) cLo _ b1
  have p2 : [[FV.str [112, 101, 114, 115, 111, 110]], [.str [111, 114, 100, 101, 114]], [.str [105, 116, 101, 109]]][ks.length]? = some [.str (nth0 kNames ks.length)] := pickI (fun n => [FV.str n]) kNames (ks.length : Int) ⟨by omega, by simp [kNames]; omega⟩
  have p3 : [[FV.int .i64 0], [.int .i64 1], [.int .i64 100], [.int .i64 (-3)]][(atF l (i + 2) 4).toNat]? = some [.int .i64 (nth0 cKey (atF l (i + 2) 4))] := pickI (fun n => [FV.int .i64 n]) cKey _ b3
  have q1 : ∀ h, [[FV.int .i64 0], [.int .i64 1], [.int .i64 2], [.int .i64 4], [.int .i64 1], [.int .i64 2]][(atF l i 6).toNat]'h = [.int .i64 (nth0 cLo (atF l i 6))] := fun h => pickG (fun n => [FV.int .i64 n]) cLo _ b1 h
  have q2 : ∀ h, [[FV.str [112, 101, 114, 115, 111, 110]], [.str [111, 114, 100, 101, 114]], [.str [105, 116, 101, 109]]][ks.length]'h = [.str (nth0 kNames ks.length)] := fun h => pickG (fun n => [FV.str n]) kNames (ks.length : Int) ⟨by omega, by simp [kNames]; omega⟩ h
  have q3 : ∀ h, [[FV.int .i64 0], [.int .i64 1], [.int .i64 100], [.int .i64 (-3)]][(atF l (i + 2) 4).toNat]'h = [.int .i64 (nth0 cKey (atF l (i + 2) 4))] := fun h => pickG (fun n => [FV.int .i64 n]) cKey _ b3 h
  have hlo : 0 ≤ nth0 cLo (atF l i 6) ∧ nth0 cLo (atF l i 6) ≤ 4 := (by decide : ∀ x ∈ cLo, 0 ≤ x ∧ x ≤ 4) _ (nth0_mem cLo _ b1)
  have w1 : IntKind.i64.wrap (nth0 cLo (atF l i 6) + atF l (i + 1) 5) = nth0 cLo (atF l i 6) + atF l (i + 1) 5 := w64 (by omega)
  have hk3 : ks.length < 3 := by omega
  have hk3' : (ks.length : Int) < 3 := by omega
  simp [f33pc, f33r0, f33r1, f33r2, tM, tKs, List.replicate]
  refine pTake hP hl (i := i) rfl (by omega) (i64c (by omega)) ?_
  simp [f33r3, b1, p1, p2, q1, q2, hk3, hk3', List.replicate]
  refine pTake hP hl (i := i + 1) rfl (by omega) (i64c (by omega)) ?_
  simp only [show i + 1 + 1 = i + 2 by omega]
  simp [binF, binI, w1, ghSt, f33r4, List.replicate]
  refine pTake hP hl (i := i + 2) rfl (by omega) (i64c (by omega)) ?_
  simp only [show i + 2 + 1 = i + 3 by omega]
  simp [b3, p3, q3, i64max]
  refine join_rc (mkSt (kSl ks.length) (kTk t e l (kS4 l (kS0 l ks i)))) ?_ ?_
  · by_cases h0 : ks.length = 0
    · have hks0 : ks = [] := List.eq_nil_of_length_eq_zero h0
      simp [f33r5, h0, binF, binI, ghSt, keepSt, kSl, kTk, kS4, kS0, tM, tKs, tZ, tB, tF, fd0, encF, encS, encL, iI, bId]
    · have h0' : 0 < ks.length := by omega
      have hT : kToOf l (kS0 l ks i) = atF l (i + 3) ks.length := rfl
      have hto := at_b l (i + 3) (n := ks.length) (by omega)
      generalize hto' : atF l (i + 3) ks.length = to at hto hT
      have b4 := at_b l (i + 4) (n := 4) (by omega)
      have p0 : (ks.map encKd)[to.toNat]? = some (encKd (nth0 ks to)) := pickI encKd ks to hto
      have r0 : ∀ h, ks[to.toNat]'h = nth0 ks to := fun h => getL ks to hto h
      have q4 : ∀ h, [[FV.int .i64 4], [.int .i64 3], [.int .i64 8], [.int .i64 2]][(atF l (i + 4) 4).toNat]'h = [.int .i64 (nth0 cTo (atF l (i + 4) 4))] := fun h => pickG (fun n => [FV.int .i64 n]) cTo _ b4 h
      have hlt : to.toNat < ks.length := by omega
      simp [f33r5, f33r6, binF, binI, h0']
      refine pTake hP hl (i := i + 3) rfl (by omega) (i64c (by omega)) ?_
      simp only [show i + 3 + 1 = i + 4 by omega]
      simp [f33r7, hto', hto, hlt, p0, r0, encKd, iI, List.replicate]
      refine pTake hP hl (i := i + 4) rfl (by omega) (i64c (by omega)) ?_
      simp only [show i + 4 + 1 = i + 5 by omega]
      simp [b4, q4]
      let f : FieldD := { fd0 with name := bOf, kind := 1, of := (nth0 ks to).name, lo := if atF l (i + 5) 5 = 0 then 1 else 0, hi := nth0 cTo (atF l (i + 4) 4) }
      refine join_rc (mkSt (kS8 ks.length to ++ [(9, .ptr 109 0 0 0)]) [(0, tM t l (i + 6)), (1, tKs e ks), (104, tZ), (107, tB (kS0 l ks i).k), (109, ⟨0, .box 96 false ((encF f).map .f)⟩), (140, tF (kS0 l ks i).k.fields)]) ?_ ?_
      · simp [f33r8]
        refine pTake hP hl (i := i + 5) rfl (by omega) (i64c (by omega)) ?_
        simp only [show i + 5 + 1 = i + 6 by omega]
        by_cases ht : atF l (i + 5) 5 = 0
        · simp [f33r9, binF, binI, ht, ghSt, keepSt, kS8, tM, tKs, tZ, tB, tF, kS0, f, encF, fd0, encS, encL, iI, bId, bOf]
        · simp [binF, binI, ht, ghSt, keepSt, kS8, tM, tKs, tZ, tB, tF, kS0, f, encF, fd0, encS, encL, iI, bId, bOf]
      · have h1 : kS1 l (kS0 l ks i) = (⟨(kS0 l ks i).k, ks, i + 6⟩ : KS).add [f] 0 := by
          unfold kS1
          rw [hT]
          simp [KS.add, kS0, f, Int.add_assoc]
        have hS : kS4 l (kS0 l ks i) = kS3 l to (kS2 l to ((⟨(kS0 l ks i).k, ks, i + 6⟩ : KS).add [f] 0)) := by
          unfold kS4
          rw [if_neg (show ¬ (kS0 l ks i).ks.length = 0 from h0), hT, h1]
        rw [hS]
        exact kMid hP hl (t := t) (e := e) ⟨(kS0 l ks i).k, ks, i + 6⟩ (n := ks.length) (to := to) f rfl hto (by simp; omega) (by simp [kS0]) (fun k hk => hn k hk)
  · have h4 : Ext 4 (kS0 l ks i) (kS4 l (kS0 l ks i)) := kS4_ext l _
    have h0 : (kS0 l ks i).ks = ks ∧ (kS0 l ks i).k.fields.length = 1 ∧ (kS0 l ks i).i = i + 3 := ⟨rfl, rfl, rfl⟩
    rw [kindF_eq]
    generalize kS4 l (kS0 l ks i) = s4 at h4
    obtain ⟨e1, e2, e3, e4, e5⟩ := h4
    rw [h0.1] at e1
    refine join_rc (mkSt kSm (kTk t e l (kS5 l s4))) (k5 hP hl s4 e1 (by omega) (by omega)) ?_
    have h5 := kS5_ext l s4
    refine kEnd hP hl (kS5 l s4) (by obtain ⟨f1, f2, f3, f4, f5⟩ := h5; omega) (by obtain ⟨f1, f2, f3, f4, f5⟩ := h5; omega) (fun hnil => ?_)
    obtain ⟨f1, f2, f3, f4, f5⟩ := h5
    have hz : (kS5 l s4).k.fields.length = 0 := by rw [hnil]; rfl
    omega
end Go.Absw

/- Contract of Maker.rule. -/
namespace Go.Absw
open Go Go.Proofs
set_option maxRecDepth 100000

def bOrder : List UInt8 := [111, 114, 100, 101, 114]
def bMost : List UInt8 := [109, 111, 115, 116]
def bLeast : List UInt8 := [108, 101, 97, 115, 116]
def ruleI (k : KindD) (i : Int) : Int := if 0 ≤ fieldIx bLow k.fields then i + 1 else i
def ruleF (l : List Int) (k : KindD) (i : Int) : RuleD × Bool × Int :=
  if 0 ≤ fieldIx bLow k.fields ∧ 0 < atF l i 3 then (⟨bOrder ++ k.name.take 1, k.name, bLow, bHigh, atF l (i + 1) 8 - 2⟩, true, i + 2)
  else if fieldIx bSize k.fields < 0 then (⟨[], [], [], [], 0⟩, false, ruleI k i)
  else if atF l (ruleI k i) 2 = 0 then (⟨bMost ++ k.name.take 1, k.name, bSize, [], IntKind.i64.wrap ((nth0 k.fields (fieldIx bSize k.fields)).lo + atF l (ruleI k i + 1) 12)⟩, true, ruleI k i + 2)
  else (⟨bLeast ++ k.name.take 1, k.name, [], bSize, IntKind.i64.wrap (atF l (ruleI k i + 1) 12 - (nth0 k.fields (fieldIx bSize k.fields)).hi)⟩, true, ruleI k i + 2)

theorem rule_ct {G : Env} (hP : G.P = Tryd.prog) {t : TypeId} {l : List Int} (hl : ∀ n ∈ l, In64 n) {k : KindD} {i : Int} (hi : 0 ≤ i ∧ i < 900000) (hf : k.fields.length < 1000) (hn : k.name ≠ []) :
    CT G 34 ⟨[.ptr 0 0 0 0, .ag ((encKd k).map .f)], [(tM t l i).c]⟩ ⟨.tup [.ag ((encRu (ruleF l k i).1).map .f), .f (.bool (ruleF l k i).2.1)], [tM t l (ruleF l k i).2.2], []⟩ := by
  refine ct_of_body (N := []) (pc := f34pc) (rs := f34rs) (by rw [hP]; exact f34ok) ?_
  rw [entry_mk]
  have he : (encKd k).length = 4 := rfl
  obtain ⟨c, nm, hc⟩ : ∃ c nm, k.name = c :: nm := by
    cases h : k.name with
    | nil => exact absurd h hn
    | cons c nm => exact ⟨c, nm, rfl⟩
  have hlen : (1 : Int) ≤ (nm.length : Int) + 1 := by omega
  simp [f34pc, f34r0, f34r1, he, tM]
  simp [encKd]
  refine pCall_pure (hasF_ct hP (fs := k.fields) (name := bLow) (by omega)) rfl (by simp) rfl ?_
  simp [f34r2]
  refine pCall_pure (hasF_ct hP (fs := k.fields) (name := bSize) (by omega)) rfl (by simp) rfl ?_
  -- the part behind the first test
  have tail : ∀ (j : Int) (a b) (hj : 0 ≤ j ∧ j < 900001), ruleI k i = j → ¬ (0 ≤ fieldIx bLow k.fields ∧ 0 < atF l i 3) → lkS a 0 = .ptr 0 0 0 0 → lkS a 3 = .ptr 103 0 0 1 → lkS a 4 = .ptr 104 0 0 1 → lkS a 7 = .f (.int .i64 (fieldIx bSize k.fields)) →
      lkK b 0 = tM t l j → lkK b 103 = ⟨1, .box 56 false [.f (.str k.name), .f (.int .i64 k.lo), .f (.int .i64 k.hi), .f (.sl 8 (k.fields.map encF))]⟩ → lkK b 104 = ⟨1, .box 91 false [.f (.str []), .f (.str []), .f (.str []), .f (.str []), .f (.int .i64 0)]⟩ → lkK b 108 = ⟨0, .gone⟩ →
      pwp G (.seq (.seq (.region f34r5 []) (.cond (.s 33) (.seq (.region f34r6 []) (.ret)) (.skip))) (.seq (.region f34r7 []) (.seq (.seq (.region f34r8 []) (.cond (.s 42) (.seq (.region f34r9 [[], [0], [0, 1], [0, 1, 2], [], [4], [], [6], [], [8], [6, 7, 8, 9], [0, 1, 2, 3, 4, 5, 6, 7, 8, 9, 10], [0, 1, 2, 3, 4, 5, 6, 7, 8, 9, 10, 11], [0, 1, 2, 3, 4, 5, 6, 7, 8, 9, 10, 11, 12]]) (.ret)) (.skip)))
        (.seq (.region f34r10 [[], [0], [0, 1], [0, 1, 2], [], [4], [], [6], [], [8], [6, 7, 8, 9], [0, 1, 2, 3, 4, 5, 6, 7, 8, 9, 10], [0, 1, 2, 3, 4, 5, 6, 7, 8, 9, 10, 11], [0, 1, 2, 3, 4, 5, 6, 7, 8, 9, 10, 11, 12]]) (.ret)))))
        (retQ 1 [] f34rs (· = ⟨.tup [.ag ((encRu (ruleF l k i).1).map .f), .f (.bool (ruleF l k i).2.1)], [tM t l (ruleF l k i).2.2], []⟩)) (mkSt a b) := by
    intro j a b hj hrj hno h0 h3 h4 h7 k0 k3 k4 k8
    by_cases hs : fieldIx bSize k.fields < 0
    · have hr : ruleF l k i = (⟨[], [], [], [], 0⟩, false, j) := by unfold ruleF; rw [if_neg hno, if_pos hs, hrj]
      simp [f34r5, f34r6, h0, h3, h4, h7, k0, k3, k4, k8, binF, binI, hs]
      simp [retQ, outSt, f34rs, rvals, RArg.val, resPV, h0, h3, h4, h7, k0, k3, k4, k8, hr, encRu, iI, ptrFoot, getN, tM, encL]
    have hlt := idxF_lt (fun f => decide (f.name = bSize)) k.fields
    have n0 : nth (k.fields.map encF) (fieldIx bSize k.fields) = some (encF (nth0 k.fields (fieldIx bSize k.fields))) := by
      have := pickI encF k.fields (fieldIx bSize k.fields) ⟨by omega, hlt.2⟩
      unfold nth; rw [if_pos (by omega)]; exact this
    generalize hg : nth0 k.fields (fieldIx bSize k.fields) = g at n0
    have hgf : getN ((encF g).map .f) 0 8 = some (.ag ((encF g).map .f)) := rfl
    simp [f34r5, f34r7, f34r8, h0, h3, h4, h7, k0, k3, k4, k8, binF, binI, hs, n0, hgf]
    simp [encF, iI, encS, encL, h0, k8]
    refine pTake hP hl (t := t) (i := j) (by simp [k0, tM, encL, iI]) (by omega) (i64c (by omega)) ?_
    by_cases ht : atF l j 2 = 0
    · have hr : ruleF l k i = (⟨bMost ++ k.name.take 1, k.name, bSize, [], IntKind.i64.wrap (g.lo + atF l (j + 1) 12)⟩, true, j + 2) := by
        unfold ruleF; rw [if_neg hno, if_neg hs, hrj, if_pos ht, hg]
      simp [f34r9, h0, h3, h4, h7, k0, k3, k4, k8, binF, binI, binS, ht, hc, bnds, loHi, hlen, i64max]
      refine pTake hP hl (t := t) (i := j + 1) (by simp [k0, tM, encL, iI]) (by omega) (i64c (by omega)) ?_
      simp only [show j + 1 + 1 = j + 2 by omega]
      simp [h0, h3, h4, h7, k0, k3, k4, k8, binF, binI, retQ, outSt, f34rs, rvals, RArg.val, resPV, hr, encRu, iI, ptrFoot, getN, tM, encL, hc, bMost, bSize]
    · have hr : ruleF l k i = (⟨bLeast ++ k.name.take 1, k.name, [], bSize, IntKind.i64.wrap (atF l (j + 1) 12 - g.hi)⟩, true, j + 2) := by
        unfold ruleF; rw [if_neg hno, if_neg hs, hrj, if_neg ht, hg]
      simp [f34r10, h0, h3, h4, h7, k0, k3, k4, k8, binF, binI, binS, ht, hc, bnds, loHi, hlen, i64max]
      refine pTake hP hl (t := t) (i := j + 1) (by simp [k0, tM, encL, iI]) (by omega) (i64c (by omega)) ?_
      simp only [show j + 1 + 1 = j + 2 by omega]
      simp [h0, h3, h4, h7, k0, k3, k4, k8, binF, binI, retQ, outSt, f34rs, rvals, RArg.val, resPV, hr, encRu, iI, ptrFoot, getN, tM, encL, hc, bLeast, bSize]
  by_cases hw : 0 ≤ fieldIx bLow k.fields
  case neg =>
    simp [f34r3, binF, binI, hw]
    exact tail i _ _ (by omega) (by simp [ruleI, hw]) (fun h => hw h.1) rfl rfl rfl rfl rfl rfl rfl rfl
  simp [f34r3, binF, binI, hw]
  refine pTake hP hl (i := i) rfl (by omega) (i64c (by omega)) ?_
  by_cases ht : 0 < atF l i 3
  case neg =>
    simp [binF, binI, ht]
    exact tail (i + 1) _ _ (by omega) (by simp [ruleI, hw]) (fun h => ht h.2) rfl rfl rfl rfl rfl rfl rfl rfl
  have hr : ruleF l k i = (⟨bOrder ++ k.name.take 1, k.name, bLow, bHigh, atF l (i + 1) 8 - 2⟩, true, i + 2) := by unfold ruleF; rw [if_pos ⟨hw, ht⟩]
  have b1 := at_b l (i + 1) (n := 8) (by omega)
  have w1 : IntKind.i64.wrap (atF l (i + 1) 8 - 2) = atF l (i + 1) 8 - 2 := w64 (by omega)
  simp [f34r4, binF, binI, binS, ht, hc, bnds, loHi, hlen, i64max]
  refine pTake hP hl (t := t) (i := i + 1) rfl (by omega) (i64c (by omega)) ?_
  simp only [show i + 1 + 1 = i + 2 by omega]
  simp [binF, binI, w1, retQ, outSt, f34rs, rvals, RArg.val, resPV, hr, encRu, iI, ptrFoot, getN, tM, encL, hc, bOrder, bLow, bHigh]
end Go.Absw

/- What Maker.kind makes: the form of kinds. -/
namespace Go.Absw
open Go Go.Proofs

def KOk (k : KindD) : Prop := k.name ≠ [] ∧ k.fields ≠ [] ∧ (k.fields.length ≤ 9 ∨ (k.fields.length ≤ 10 ∧ 0 ≤ fieldIx bTotal k.fields))

theorem kS2_ks (l : List Int) (to : Int) (s : KS) : (kS2 l to s).ks = s.ks ∧ (kS2 l to s).k.name = s.k.name := by
  by_cases hc : 0 ≤ idxF copiable (nth0 s.ks to).fields 0
  · by_cases ht : atF l s.i 2 = 0 <;> simp [kS2, hc, ht, KS.add]
  · simp [kS2, hc]
theorem kS5_ks (l : List Int) (s : KS) : (kS5 l s).ks = s.ks ∧ (kS5 l s).k.name = s.k.name := by
  by_cases hc : 1 < s.ks.length
  · by_cases ht : atF l s.i 3 = 0 <;> simp [kS5, hc, ht, KS.add]
  · simp [kS5, hc]
theorem kS6_ks (l : List Int) (s : KS) : (kS6 l s).ks = s.ks ∧ (kS6 l s).k.name = s.k.name := by simp [kS6, KS.add]
theorem kS7_ks (l : List Int) (s : KS) : (kS7 l s).ks = s.ks ∧ (kS7 l s).k.name = s.k.name := by
  by_cases hc : atF l s.i 2 = 0
  · by_cases ht : 0 < (plainF l (s.i + 1)).1.length ∧ fieldIx (nth0 (plainF l (s.i + 1)).1 0).name s.k.fields < 0
    · simp only [kS7, hc, ht, KS.add, and_self, if_true]
    · simp only [kS7, hc, ht, KS.add, if_true, if_false, and_self]
  · simp [kS7, hc, KS.add]
theorem kS3_ks (l : List Int) (to : Int) (s : KS) : (kS3 l to s).k.name = s.k.name ∧ ((kS3 l to s).ks = s.ks ∨ ∃ f : FieldD, f.name = bTotal ∧ fieldIx bTotal (nth0 s.ks to).fields < 0 ∧
    (kS3 l to s).ks = s.ks.set to.toNat { nth0 s.ks to with fields := (nth0 s.ks to).fields ++ [f] }) := by
  by_cases hc : fieldIx bTotal (nth0 s.ks to).fields < 0
  · by_cases ht : atF l s.i 3 = 0
    · exact ⟨by simp [kS3, hc, ht, KS.add], .inr ⟨{ fd0 with name := bTotal, kind := 6, of := s.k.name }, rfl, hc, by simp [kS3, hc, ht, KS.add]⟩⟩
    · exact ⟨by simp [kS3, hc, ht, KS.add], .inl (by simp [kS3, hc, ht, KS.add])⟩
  · exact ⟨by simp [kS3, hc], .inl (by simp [kS3, hc])⟩

theorem idxF_append {α : Type} (p : α → Bool) (a : α) (ha : p a = true) : ∀ (l : List α) (i : Nat), 0 ≤ idxF p (l ++ [a]) i
  | [], i => by simp [idxF, ha]
  | b :: r, i => by
    simp only [List.cons_append, idxF]
    split
    · omega
    · exact idxF_append p a ha r (i + 1)

theorem kS4_ok (l : List Int) (s : KS) (h : ∀ k ∈ s.ks, KOk k) : Ext 3 s (kS4 l s) ∧ (kS4 l s).k.name = s.k.name ∧ ∀ k ∈ (kS4 l s).ks, KOk k := by
  unfold kS4
  split
  · exact ⟨⟨rfl, Nat.le_refl _, by omega, Int.le_refl _, by omega⟩, rfl, h⟩
  · rename_i h0
    have hto := at_b l s.i (n := s.ks.length) (by omega)
    have hE := (kS1_ext l s).trans ((kS2_ext l (kToOf l s) _).trans (kS3_ext l (kToOf l s) _))
    obtain ⟨e1, e2⟩ := kS2_ks l (kToOf l s) (kS1 l s)
    obtain ⟨e3, e4⟩ := kS3_ks l (kToOf l s) (kS2 l (kToOf l s) (kS1 l s))
    have e0 : (kS1 l s).ks = s.ks ∧ (kS1 l s).k.name = s.k.name := ⟨rfl, rfl⟩
    rw [e1, e0.1] at e4
    refine ⟨hE, by rw [e3, e2, e0.2], fun k hk => ?_⟩
    rcases e4 with e4 | ⟨f, hf, hneg, e4⟩
    · rw [e4] at hk; exact h k hk
    · rw [e4] at hk
      rcases List.mem_or_eq_of_mem_set hk with hk | rfl
      · exact h k hk
      · obtain ⟨g1, g2, g3⟩ := h _ (nth0_mem s.ks (kToOf l s) hto)
        refine ⟨g1, by simp, .inr ⟨?_, idxF_append _ f (by simp [hf]) _ _⟩⟩
        rw [List.length_append]
        simp only [List.length_cons, List.length_nil]
        omega

theorem kindF_ok (l : List Int) (ks : List KindD) (i : Int) (h : ∀ k ∈ ks, KOk k) (hks : ks.length ≤ 2) :
    (kindF l ks i).ks.length = ks.length ∧ (∀ k ∈ (kindF l ks i).ks, KOk k) ∧ KOk (kindF l ks i).k ∧ (kindF l ks i).k.fields.length ≤ 9 ∧ i ≤ (kindF l ks i).i ∧ (kindF l ks i).i ≤ i + 40 := by
  rw [kindF_eq]
  have h0 : (kS0 l ks i).ks = ks ∧ (kS0 l ks i).k.fields.length = 1 ∧ (kS0 l ks i).i = i + 3 ∧ (kS0 l ks i).k.name = nth0 kNames ks.length := ⟨rfl, rfl, rfl, rfl⟩
  obtain ⟨a1, a2, a3⟩ := kS4_ok l (kS0 l ks i) (by rw [h0.1]; exact h)
  generalize kS4 l (kS0 l ks i) = s4 at a1 a2 a3
  have b1 := kS5_ext l s4
  obtain ⟨b2, b3⟩ := kS5_ks l s4
  generalize kS5 l s4 = s5 at b1 b2 b3
  have c1 := kS6_ext l s5
  obtain ⟨c2, c3⟩ := kS6_ks l s5
  generalize kS6 l s5 = s6 at c1 c2 c3
  have d1 := kS7_ext l s6
  obtain ⟨d2, d3⟩ := kS7_ks l s6
  generalize kS7 l s6 = s7 at d1 d2 d3
  obtain ⟨a11, a12, a13, a14, a15⟩ := a1
  obtain ⟨b11, b12, b13, b14, b15⟩ := b1
  obtain ⟨c11, c12, c13, c14, c15⟩ := c1
  obtain ⟨d11, d12, d13, d14, d15⟩ := d1
  rw [h0.1] at a11
  have hlen : s7.k.fields.length ≤ 9 := by omega
  refine ⟨by omega, fun k hk => a3 k (by rw [d2, c2, b2] at hk; exact hk), ⟨?_, ?_, .inl hlen⟩, hlen, by omega, by omega⟩
  · rw [d3, c3, b3, a2, h0.2.2.2]
    have := nth0_mem kNames ks.length ⟨by omega, by simp [kNames]; omega⟩
    intro hnil
    rw [hnil] at this
    exact absurd this (by decide)
  · intro hnil
    have : s7.k.fields.length = 0 := by rw [hnil]; rfl
    omega
end Go.Absw
