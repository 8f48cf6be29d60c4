/- The other world of VmKept; VmKept returns true. Conditions: told at each. -/
import Derived.Test.YtpkhdnaeaeiidaaDoorXe
import Derived.Test.YtpkhdnaeaeiidaaDoorTe
set_option linter.unusedSimpArgs false
set_option linter.unusedVariables false

/- VmKept: the other world, and the loops that make it. -/
namespace Go.Absw
open Go Go.Proofs
set_option maxRecDepth 100000

def nmd (a : Int) (i : Ins) : Bool := (decide (i.op = 4) || decide (i.op = 5)) && decide (i.b = a)
def fld (a f : Int) (i : Ins) : Bool := decide (i.op = 5) && decide (i.b = a) && decide (i.c = f)
def fldsF (q : List Ins) (a : Int) (nf : Nat) : List Bool := (List.range nf).map fun f : Nat => q.any (fld a f)
def recO (fl : List Bool) (by' : Int) (r : List Int) : List Int := (List.range r.length).map fun f => if fl.getD f false = true then r.getD f 0 else by'
def kindO (p : List Ins) (a by' : Int) (nf : Nat) (k : List (List Int)) : List (List Int) := if p.any (nmd a) = true then k.map (recO (fldsF p a nf) by') else []
def otherF (x : Sch) (p : List Ins) (by' : Int) (w : Wd) : Wd := (List.range w.length).map fun a : Nat => kindO p a by' (nth0 x.kinds a).fields.length (w.getD a [])
def mixO (fl : List Bool) (by' : Int) (r : List Int) (f : Nat) : List Int := (List.range r.length).map fun g => if g < f ∧ ¬ fl.getD g false = true then by' else r.getD g 0

theorem range_getD (r : List Int) : (List.range r.length).map (fun g => r.getD g 0) = r := by
  apply List.ext_getElem
  · simp
  · intro i h1 h2; simp [List.getD, h2]
theorem mixO_zero (fl : List Bool) (by' : Int) (r : List Int) : mixO fl by' r 0 = r := by
  unfold mixO; simp only [Nat.not_lt_zero, false_and, if_false]; exact range_getD r
theorem mixO_end (fl : List Bool) (by' : Int) (r : List Int) : mixO fl by' r r.length = recO fl by' r := by
  unfold mixO recO
  refine List.map_congr_left fun g hg => ?_
  have hg : g < r.length := List.mem_range.1 hg
  by_cases h : fl.getD g false = true
  · rw [if_neg (fun hh => hh.2 h), if_pos h]
  · rw [if_pos ⟨hg, h⟩, if_neg h]
theorem mixO_len (fl : List Bool) (by' : Int) (r : List Int) (f : Nat) : (mixO fl by' r f).length = r.length := by simp [mixO]
theorem mixO_set (fl : List Bool) (by' : Int) (r : List Int) (f : Nat) (hf : f < r.length) (h : fl.getD f false = false) : (mixO fl by' r f).set f by' = mixO fl by' r (f + 1) := by
  apply List.ext_getElem
  · simp [mixO]
  · intro i h1 h2
    rw [List.getElem_set]
    simp only [mixO, List.getElem_map, List.getElem_range]
    by_cases e : f = i
    · subst e; rw [if_pos rfl, if_pos ⟨by omega, by rw [h]; simp⟩]
    · rw [if_neg e]
      by_cases hi : i < f
      · simp only [hi, show i < f + 1 by omega]
      · simp only [hi, show ¬ i < f + 1 by omega]
theorem mixO_same (fl : List Bool) (by' : Int) (r : List Int) (f : Nat) (h : fl.getD f false = true) : mixO fl by' r f = mixO fl by' r (f + 1) := by
  unfold mixO
  refine List.map_congr_left fun i _ => ?_
  by_cases e : i = f
  · subst e; rw [if_neg (fun hh => absurd hh.1 (Nat.lt_irrefl _)), if_neg (fun hh => hh.2 h)]
  · by_cases hi : i < f
    · simp only [hi, show i < f + 1 by omega]
    · simp only [hi, show ¬ i < f + 1 by omega]

theorem fldsF_len (q : List Ins) (a : Int) (nf : Nat) : (fldsF q a nf).length = nf := by simp [fldsF]
theorem fldsF_nil (a : Int) (nf : Nat) : fldsF [] a nf = List.replicate nf false := by
  unfold fldsF
  apply List.ext_getElem <;> simp
theorem fldsF_set (q : List Ins) (a : Int) (nf : Nat) (i : Ins) (h5 : i.op = 5) (hb : i.b = a) (hc : 0 ≤ i.c) : (fldsF q a nf).set i.c.toNat true = fldsF (q ++ [i]) a nf := by
  apply List.ext_getElem
  · simp [fldsF]
  · intro f h1 h2
    rw [List.getElem_set]
    simp only [fldsF, List.getElem_map, List.getElem_range, List.any_append, List.any_cons, List.any_nil, Bool.or_false]
    by_cases e : i.c.toNat = f
    · subst e
      rw [if_pos rfl]
      have : fld a (i.c.toNat : Int) i = true := by simp [fld, h5, hb]; omega
      rw [this, Bool.or_true]
    · rw [if_neg e]
      have : fld a (f : Int) i = false := by simp [fld, h5, hb]; omega
      rw [this, Bool.or_false]
theorem fldsF_same (q : List Ins) (a : Int) (nf : Nat) (i : Ins) (h : ¬ (i.op = 5 ∧ i.b = a)) : fldsF q a nf = fldsF (q ++ [i]) a nf := by
  unfold fldsF
  refine List.map_congr_left fun f _ => ?_
  have : fld a (f : Int) i = false := by simp only [fld]; by_cases h5 : i.op = 5 <;> by_cases hb : i.b = a <;> simp_all
  rw [List.any_append, List.any_cons, List.any_nil, this, Bool.or_false, Bool.or_false]

section
variable {G : Env} (hP : G.P = Tryd.prog) {x : Sch} {p : List Ins} {w : Wd} {by' : Int}

def vTk (x : Sch) (r12 : List (List FV)) (fl : List Bool) : List (Nat × Tok) := [(109, ⟨0, .box 27 false ((encX x).map .f)⟩), (112, ⟨0, .row 59 1 0 0 r12⟩), (146, ⟨0, .row 4 1 0 0 (fl.map fun b => [.bool b])⟩)]
def vTk2 (x : Sch) (r12 r17 : List (List FV)) (fl : List Bool) : List (Nat × Tok) := [(109, ⟨0, .box 27 false ((encX x).map .f)⟩), (112, ⟨0, .row 59 1 0 0 r12⟩), (117, ⟨0, .row 22 1 0 0 r17⟩), (146, ⟨0, .row 4 1 0 0 (fl.map fun b => [.bool b])⟩)]
def vSl (p : List Ins) (w : Wd) (by' : Int) (a nf : Nat) (nm : Bool) : List (Nat × PV) := [(3, .f (.int .i64 by')), (9, .ptr 109 0 0 0), (10, .f (encW w)), (11, .f (encP p)), (12, .ts 112 0 a 0), (13, .f (.int .i64 (a : Int))), (14, .f (.bool nm)), (15, .ts 146 0 nf 0)]

/-- The loop over the program. -/
theorem kept1 (a nf : Nat) (hp : p.length < 1000) (hfit : ∀ i ∈ p, i.op = 5 → i.b = a → 0 ≤ i.c ∧ i.c < nf) (r12 : List (List FV)) {σ : St} {Q : PX → St → Prop}
    (h0 : keepSt σ [3, 9, 10, 11, 12, 13, 14, 15, 16] [109, 112, 146] = mkSt (vSl p w by' a nf false ++ [(16, .f (.int .i64 0))]) (vTk x r12 (fldsF [] a nf)))
    (hQ : ∀ l, (∀ n ∈ [3, 9, 10, 11, 12, 13, 14, 15], lkS l n = lkS (vSl p w by' a nf (p.any (nmd a))) n) → Q .normal (mkSt l (vTk x r12 (fldsF p a nf)))) :
    pwp G (.loop f5l1) (PX.inBlock 2 Q) σ := by
  unfold f5l1
  refine pwp_loop (α := Nat) (fun i => mkSt (vSl p w by' a nf ((p.take i).any (nmd a)) ++ [(16, .f (.int .i64 (i : Int)))]) (vTk x r12 (fldsF (p.take i) a nf))) (fun i => i ≤ p.length) (fun i => p.length - i) 0 (by omega) (by simpa using h0) ?_
  intro i hi
  simp [f5r11, vSl, vTk, encP, binF, binI]
  refine ccase_i (fun h => ?_) (fun h => ?_)
  · simp at h
    have hn : nth (p.map encI) (i : Int) = some (encI p[i]) := by simp [nth, h]
    have hm := List.getElem_mem h
    have hf5 := hfit _ hm
    have htk : p.take (i + 1) = p.take i ++ [p[i]] := by rw [List.take_succ_eq_append_getElem h]
    have w1 : IntKind.i64.wrap ((i : Int) + 1) = (i : Int) + 1 := w64 (by omega)
    have hlen := fldsF_len (p.take i) a nf
    generalize p[i] = q at *
    have fin : ∀ nm fl, nm = (p.take (i + 1)).any (nmd a) → fl = fldsF (p.take (i + 1)) a nf → ∃ b, b ≤ p.length ∧ p.length - b < p.length - i ∧
        mkSt [(3, PV.f (.int .i64 by')), (9, .ptr 109 0 0 0), (10, .f (encW w)), (11, .f (encP p)), (12, .ts 112 0 a 0), (13, .f (.int .i64 (a : Int))), (14, .f (.bool nm)), (15, .ts 146 0 nf 0), (16, .f (.int .i64 ((i : Int) + 1)))] (vTk x r12 fl) =
        mkSt (vSl p w by' a nf ((p.take b).any (nmd a)) ++ [(16, .f (.int .i64 (b : Int)))]) (vTk x r12 (fldsF (p.take b) a nf)) := by
      rintro nm fl rfl rfl
      exact ⟨i + 1, by omega, by omega, by simp [vSl]⟩
    by_cases h5 : q.op = 5
    · by_cases hb : q.b = a
      · obtain ⟨c0, c1⟩ := hf5 h5 hb
        have hset := fldsF_set (p.take i) a nf q h5 hb c0
        have hnm : nmd a q = true := by simp [nmd, h5, hb]
        have hsetm : ((fldsF (p.take i) a nf).map fun b => [FV.bool b]).set q.c.toNat [FV.bool true] = (fldsF (p.take (i + 1)) a nf).map fun b => [FV.bool b] := by
          rw [htk, ← hset, List.map_set]
        have c1' : q.c.toNat < nf := by omega
        simp [f5r13, f5r14, f5r15, binF, binI, hn, encI, iI, h5, hb]
        simp [f5r16, f5r12, binF, binI, hn, encI, iI, h5, hb, c0, c1, c1', hlen, hsetm, w1, keepSt, encP]
        exact fin true _ (by rw [htk, List.any_append]; simp [hnm]) rfl
      · have hnm : nmd a q = false := by simp [nmd, hb]
        simp [f5r13, f5r12, binF, binI, hn, encI, iI, h5, hb, w1, keepSt, encP]
        exact fin _ _ (by rw [htk, List.any_append]; simp [hnm]) (by rw [htk]; exact fldsF_same _ _ _ _ (fun hh => hb hh.2))
    have hfl : fldsF (p.take i) a nf = fldsF (p.take (i + 1)) a nf := by rw [htk]; exact fldsF_same _ _ _ _ (fun hh => h5 hh.1)
    by_cases h4 : q.op = 4
    · by_cases hb : q.b = a
      · have hnm : nmd a q = true := by simp [nmd, h4, hb]
        simp [f5r13, f5r14, f5r15, f5r12, binF, binI, hn, encI, iI, h4, h5, hb, w1, keepSt, encP]
        exact fin true _ (by rw [htk, List.any_append]; simp [hnm]) hfl
      · have hnm : nmd a q = false := by simp [nmd, hb]
        simp [f5r13, f5r12, binF, binI, hn, encI, iI, h4, h5, hb, w1, keepSt, encP]
        exact fin _ _ (by rw [htk, List.any_append]; simp [hnm]) hfl
    · have hnm : nmd a q = false := by simp [nmd, h4, h5]
      simp [f5r13, f5r12, binF, binI, hn, encI, iI, h4, h5, w1, keepSt, encP]
      exact fin _ _ (by rw [htk, List.any_append]; simp [hnm]) hfl
  · have : i = p.length := by simp at h; omega
    subst this
    rw [List.take_length]
    refine hQ _ ?_
    intro n hn
    simp only [List.mem_cons, List.not_mem_nil, or_false] at hn
    rcases hn with rfl | rfl | rfl | rfl | rfl | rfl | rfl | rfl <;> simp [vSl, encP]

/-- The loop over a record's fields. -/
theorem kept3 (a nf n : Nat) (nm : Bool) (fl : List Bool) (hfl : fl.length = nf) (r : List Int) (hr : r.length ≤ nf) (hnf : nf < 1000) (r12 r17 : List (List FV)) (i : Nat) {σ : St} {Q : PX → St → Prop}
    (h0 : keepSt σ [3, 9, 10, 11, 12, 13, 14, 15, 17, 18, 19, 20] [109, 112, 117, 146, 201] = mkSt (vSl p w by' a nf nm ++ [(17, .ts 117 0 n 0), (18, .f (.int .i64 (i : Int))), (19, .ts 201 0 r.length 0), (20, .f (.int .i64 0))])
      (vTk2 x r12 r17 fl ++ [(201, ⟨0, .row 3 1 0 0 (r.map fun n => [iI n])⟩)]))
    (hQ : ∀ l, (∀ j ∈ [3, 9, 10, 11, 12, 13, 14, 15, 17, 18, 19], lkS l j = lkS (vSl p w by' a nf nm ++ [(17, .ts 117 0 n 0), (18, .f (.int .i64 (i : Int))), (19, .ts 201 0 r.length 0)]) j) →
      Q .normal (mkSt l (vTk2 x r12 r17 fl ++ [(201, ⟨0, .row 3 1 0 0 ((recO fl by' r).map fun n => [iI n])⟩)]))) :
    pwp G (.loop f5l3) (PX.inBlock 6 Q) σ := by
  unfold f5l3
  refine pwp_loop (α := Nat) (fun f => mkSt (vSl p w by' a nf nm ++ [(17, .ts 117 0 n 0), (18, .f (.int .i64 (i : Int))), (19, .ts 201 0 r.length 0), (20, .f (.int .i64 (f : Int)))])
      (vTk2 x r12 r17 fl ++ [(201, ⟨0, .row 3 1 0 0 ((mixO fl by' r f).map fun n => [iI n])⟩)])) (fun f => f ≤ r.length) (fun f => r.length - f) 0 (by omega) (by rw [mixO_zero]; simpa using h0) ?_
  intro f hf
  simp [f5r23, vSl, vTk2, binF, binI]
  refine ccase_i (fun h => ?_) (fun h => ?_)
  · have h : f < r.length := by simp at h; omega
    have hfn : f < nf := by omega
    have hfn' : (f : Int) < nf := by omega
    have hf' : (f : Int) < r.length := by omega
    have hff : f < fl.length := by omega
    have w1 : IntKind.i64.wrap ((f : Int) + 1) = (f : Int) + 1 := w64 (by omega)
    have hget : fl.getD f false = fl[f] := by simp [List.getD, hff]
    have hrow : (fl.map fun b => [FV.bool b])[f]? = some [.bool fl[f]] := by simp [hff]
    have hrow2 : ∀ h', (fl.map fun b => [FV.bool b])[f]'h' = [.bool fl[f]] := fun h' => by simp
    have hml := mixO_len fl by' r f
    cases hb : fl[f] with
    | true =>
      rw [hb] at hget hrow hrow2
      have hsame := mixO_same fl by' r f hget
      simp [f5r25, f5r24, binF, binI, unF, hff, hfn, hfn', hrow, hrow2, hfl, w1, keepSt]
      exact ⟨f + 1, by omega, by omega, by rw [← hsame]; rfl⟩
    | false =>
      rw [hb] at hget hrow hrow2
      have hset := mixO_set fl by' r f h hget
      simp [f5r25, f5r26, f5r24, binF, binI, unF, hff, hfn, hfn', hrow, hrow2, hfl, h, hf', hml, w1, keepSt]
      exact ⟨f + 1, by omega, by omega, by rw [← hset, List.map_set]; rfl⟩
  · have : f = r.length := by simp at h; omega
    subst this
    rw [mixO_end]
    refine hQ _ ?_
    intro j hj
    simp only [List.mem_cons, List.not_mem_nil, or_false] at hj
    rcases hj with rfl | rfl | rfl | rfl | rfl | rfl | rfl | rfl | rfl | rfl | rfl <;> simp [vSl]

/-- The loop over a kind's records. -/
theorem kept2 (a nf : Nat) (nm : Bool) (fl : List Bool) (hfl : fl.length = nf) (hnf : nf < 1000) (k : List (List Int)) (hkw : w[a]? = some k) (hk : ∀ r ∈ k, r.length = nf) (hkl : k.length < 1000000) (r12 : List (List FV)) {σ : St} {Q : PX → St → Prop}
    (h0 : keepSt σ [3, 9, 10, 11, 12, 13, 14, 15, 17, 18] [109, 112, 117, 146] = mkSt (vSl p w by' a nf nm ++ [(17, .ts 117 0 0 0), (18, .f (.int .i64 0))]) (vTk2 x r12 [] fl))
    (hQ : ∀ l t, (∀ j ∈ [3, 9, 10, 11, 12, 13, 14, 15, 17], lkS l j = lkS (vSl p w by' a nf nm ++ [(17, .ts 117 0 (if nm = true then k.length else 0) 0)]) j) →
      t = vTk2 x r12 (if nm = true then k.map fun r => [encL (recO fl by' r)] else []) fl → Q .normal (mkSt l t)) :
    pwp G (.loop f5l2) (PX.inBlock 4 Q) σ := by
  unfold f5l2
  refine pwp_loop (α := Nat) (fun i => mkSt (vSl p w by' a nf nm ++ [(17, .ts 117 0 i 0), (18, .f (.int .i64 (i : Int)))]) (vTk2 x r12 ((k.take i).map fun r => [encL (recO fl by' r)]) fl))
    (fun i => i ≤ k.length ∧ (nm = false → i = 0)) (fun i => k.length - i) 0 ⟨by omega, fun _ => rfl⟩ (by simpa using h0) ?_
  rintro i ⟨hi, hz⟩
  have hwl : a < w.length := (List.getElem?_eq_some_iff.1 hkw).1
  have hnw : nth (w.map fun k => [FV.sl 1 (k.map fun r => [encL r])]) (a : Int) = some [FV.sl 1 (k.map fun r => [encL r])] := by
    unfold nth; rw [if_pos (by omega)]; simp [hkw]
  by_cases hlt : i < k.length
  case neg =>
    have hik : i = k.length := by omega
    have hlt' : ¬ (i : Int) < k.length := by omega
    subst hik
    simp [f5r19, vSl, vTk2, encW, hnw, encK, binF, binI]
    refine hQ _ _ ?_ ?_
    · intro j hj
      simp only [List.mem_cons, List.not_mem_nil, or_false] at hj
      cases nm with
      | true => rcases hj with rfl | rfl | rfl | rfl | rfl | rfl | rfl | rfl | rfl <;> simp [vSl, encW, encK]
      | false =>
        have hk0 := hz rfl
        rcases hj with rfl | rfl | rfl | rfl | rfl | rfl | rfl | rfl | rfl <;> simp [vSl, encW, encK, hk0]
    · cases nm with
      | true => simp [vTk2]
      | false =>
        have hk0 : k = [] := List.eq_nil_of_length_eq_zero (hz rfl)
        simp [vTk2, hk0]
  have hlt' : (i : Int) < k.length := by omega
  cases hnm : nm with
  | false =>
    subst hnm
    have hi0 := hz rfl
    subst hi0
    have hpos : ¬ k.length = 0 := by omega
    simp [f5r19, vSl, vTk2, encW, hnw, encK, binF, binI, hlt, hlt']
    refine hQ _ _ ?_ ?_
    · intro j hj
      simp only [List.mem_cons, List.not_mem_nil, or_false] at hj
      rcases hj with rfl | rfl | rfl | rfl | rfl | rfl | rfl | rfl | rfl <;> simp [vSl, encW, encK]
    · simp [vTk2]
  | true =>
    subst hnm
    have hri : k[i] ∈ k := List.getElem_mem hlt
    have hrl := hk _ hri
    have hnr : nth (k.map fun r => [encL r]) (i : Int) = some [encL k[i]] := by simp [nth, hlt]
    have htk : k.take (i + 1) = k.take i ++ [k[i]] := by rw [List.take_succ_eq_append_getElem hlt]
    have w1 : IntKind.i64.wrap ((i : Int) + 1) = (i : Int) + 1 := w64 (by omega)
    generalize k[i] = r at *
    have hsz : r.length * 8 ≤ 140737488355328 ∧ r.length ≤ i64max := by simp [i64max]; omega
    have hszi : (i + 1) * 24 ≤ 140737488355328 ∧ i + 1 ≤ i64max := by simp [i64max]; omega
    simp [f5r19, vSl, vTk2, encW, hnw, encK, binF, binI, hlt, hlt']
    have hsrc : ∀ σ ft, srcOf σ ft 1 (.f (encL r)) = some (r.map fun n => [iI n]) := fun _ _ => rfl
    simp [f5r21, hnw, hnr, hlt, hlt', hsrc, hsz]
    simp [f5r22]
    refine kept3 (x := x) (p := p) (w := w) (by' := by') a nf i true fl hfl r (by omega) hnf r12 (List.take i (k.map fun r => [encL (recO fl by' r)])) i ?_ ?_
    · simp [keepSt, vSl, vTk2, encW, encK]
    · intro l2 hl2
      have e3 := hl2 3 (by simp); have e9 := hl2 9 (by simp); have e10 := hl2 10 (by simp); have e11 := hl2 11 (by simp); have e12 := hl2 12 (by simp); have e13 := hl2 13 (by simp); have e14 := hl2 14 (by simp); have e15 := hl2 15 (by simp)
      have e17 := hl2 17 (by simp); have e18 := hl2 18 (by simp); have e19 := hl2 19 (by simp)
      clear hl2
      simp [vSl] at e3 e9 e10 e11 e12 e13 e14 e15 e17 e18 e19
      have hrO : (recO fl by' r).length = r.length := by simp [recO]
      have htkr : List.take r.length ((recO fl by' r).map fun n => [iI n]) = (recO fl by' r).map fun n => [iI n] := List.take_of_length_le (by simp [hrO])
      have htki : List.take i (List.take i (k.map fun r => [encL (recO fl by' r)])) = List.take i (k.map fun r => [encL (recO fl by' r)]) := by rw [List.take_take]; simp
      have htk2 : (k.map fun r => [encL (recO fl by' r)]).take (i + 1) = (k.map fun r => [encL (recO fl by' r)]).take i ++ [[encL (recO fl by' r)]] := by
        rw [← List.map_take, htk, List.map_append, List.map_take]; rfl
      have hmin : min i k.length = i := by omega
      simp [f5r27, f5r20, vTk2, ghSt, e3, e9, e10, e11, e12, e13, e14, e15, e17, e18, e19, hrO, htkr, htki, hszi, hmin, hi, w1, binF, binI, keepSt]
      exact ⟨i + 1, by omega, by omega, by rw [htk2]; rfl⟩
end
end Go.Absw

/- The law VmKept: it returns true. -/
namespace Go.Absw
open Go Go.Proofs
set_option maxRecDepth 100000

/-- Runs over worlds that are alike where the program looks. -/
theorem stepF_alike {w w' : Wd} {i : Ins} {r : List Int} {pc : Int} (h4 : i.op = 4 ∨ i.op = 5 → countF w i.b = countF w' i.b) (h5 : i.op = 5 → ∀ j, 0 ≤ j → j < countF w i.b → valueF w i.b j i.c = valueF w' i.b j i.c) : stepF w r i pc = stepF w' r i pc := by
  by_cases e4 : i.op = 4
  · simp [stepF, e4, h4 (.inl e4)]
  by_cases e5 : i.op = 5
  · have hc := h4 (.inr e5)
    have hv := h5 e5 (reg r i.a)
    by_cases hr : reg r i.a < 0 ∨ countF w i.b ≤ reg r i.a
    · simp [stepF, e5, hc, hc ▸ hr]
    · have := hv (by omega) (by omega)
      have hr' : ¬ (reg r i.a < 0 ∨ countF w' i.b ≤ reg r i.a) := by rw [← hc]; exact hr
      simp [stepF, e5, hr, hr', this]
  · simp [stepF, e4, e5]
theorem runS_alike {w w' : Wd} {p : List Ins} (h : ∀ i ∈ p, (i.op = 4 ∨ i.op = 5 → countF w i.b = countF w' i.b) ∧ (i.op = 5 → ∀ j, 0 ≤ j → j < countF w i.b → valueF w i.b j i.c = valueF w' i.b j i.c)) :
    ∀ (rem : Nat) (r : List Int) (pc n : Int), runS w p rem r pc n = runS w' p rem r pc n
  | 0, r, pc, n => by unfold runS; rfl
  | rem + 1, r, pc, n => by
    unfold runS
    split
    · rfl
    · split
      · rfl
      · rename_i i hi
        have him : i ∈ p := by
          unfold nth at hi
          split at hi
          · exact List.mem_of_getElem? hi
          · cases hi
        obtain ⟨h4, h5⟩ := h i him
        rw [stepF_alike h4 h5]
        split
        · rfl
        · exact runS_alike h rem _ _ _

theorem other_get {x : Sch} {p : List Ins} {by' : Int} {w : Wd} {b : Int} (hb : 0 ≤ b ∧ b < w.length) : ∃ k, nth w b = some k ∧ nth (otherF x p by' w) b = some (kindO p b by' (nth0 x.kinds b).fields.length k) ∧ k ∈ w := by
  obtain ⟨m, rfl⟩ : ∃ m : Nat, b = m := ⟨b.toNat, by omega⟩
  have hm : m < w.length := by omega
  refine ⟨w[m], by simp [nth, hm], ?_, List.getElem_mem hm⟩
  unfold nth; rw [if_pos (by omega)]
  simp [otherF, hm, List.getD]

theorem recO_get {fl : List Bool} {by' : Int} {r : List Int} {c : Int} (h0 : 0 ≤ c) (hf : fl.getD c.toNat false = true) : nth (recO fl by' r) c = nth r c := by
  unfold nth; rw [if_pos h0, if_pos h0]
  by_cases h : c.toNat < r.length
  · simp only [recO, List.getElem?_map, List.getElem?_range h, Option.map_some]
    rw [if_pos hf]; simp [List.getD, h]
  · rw [List.getElem?_eq_none (by simp [recO]; omega), List.getElem?_eq_none (by omega)]

theorem kept_alike {x : Sch} {p : List Ins} (hb : p.any (badIns x) = false) (hn : ∀ i ∈ p, (i.op = 4 ∨ i.op = 5 → 0 ≤ i.b) ∧ (i.op = 5 → 0 ≤ i.c)) {w : Wd} (hw : w.length = x.kinds.length) (by' : Int) :
    ∀ i ∈ p, (i.op = 4 ∨ i.op = 5 → countF w i.b = countF (otherF x p by' w) i.b) ∧ (i.op = 5 → ∀ j, 0 ≤ j → j < countF w i.b → valueF w i.b j i.c = valueF (otherF x p by' w) i.b j i.c) := by
  intro i hi
  have hbad : badIns x i = false := by
    have := List.any_eq_false.1 hb i hi
    simpa using this
  obtain ⟨n1, n2⟩ := hn i hi
  have hrange : i.op = 4 ∨ i.op = 5 → i.b < x.kinds.length ∧ (i.op = 5 → i.c < fieldsOf x i.b) := by
    intro h
    simp only [badIns] at hbad
    rcases h with h | h
    · simp [h] at hbad; omega
    · simp [h] at hbad; omega
  have hnamed : i.op = 4 ∨ i.op = 5 → p.any (nmd i.b) = true := by
    intro h
    refine List.any_eq_true.2 ⟨i, hi, ?_⟩
    rcases h with h | h <;> simp [nmd, h]
  refine ⟨fun h => ?_, fun h5 j hj hjc => ?_⟩
  · obtain ⟨k, e1, e2, _⟩ := other_get (x := x) (p := p) (by' := by') (w := w) (b := i.b) ⟨n1 h, by have := (hrange h).1; omega⟩
    simp only [countF, e1, e2, kindO, hnamed h, if_true, List.length_map]
  · have h := Or.inr (a := i.op = 4) h5
    obtain ⟨k, e1, e2, _⟩ := other_get (x := x) (p := p) (by' := by') (w := w) (b := i.b) ⟨n1 h, by have := (hrange h).1; omega⟩
    have hc := (hrange h).2 h5
    have hc0 := n2 h5
    simp only [valueF, e1, e2, kindO, hnamed h, if_true, nth_map]
    cases hk : nth k j with
    | none => rfl
    | some r =>
      simp only [Option.map_some]
      have hfo : fieldsOf x i.b = ((nth0 x.kinds i.b).fields.length : Int) := fieldsOf_nth0 x _ ⟨n1 h, (hrange h).1⟩
      have hlt : i.c.toNat < (nth0 x.kinds i.b).fields.length := by omega
      have hf : (fldsF p i.b (nth0 x.kinds i.b).fields.length).getD i.c.toNat false = true := by
        simp only [fldsF, List.getD, List.getElem?_map, List.getElem?_range hlt, Option.map_some, Option.getD_some]
        refine List.any_eq_true.2 ⟨i, hi, ?_⟩
        simp [fld, h5]; omega
      rw [recO_get hc0 hf]
end Go.Absw

/- The law VmKept: it returns true. -/
namespace Go.Absw
open Go Go.Proofs
set_option maxRecDepth 100000

@[simp] theorem sR_eqs2' {σ : St} {ft : List Nat} (neg : Bool) (a b c d : Int) : semR σ ft (.eqs neg [0, 0]) [.ag [.f (.int .i64 a), .f (.int .i64 b)], .ag [.f (.int .i64 c), .f (.int .i64 d)]] = some (.f (.bool (if neg = true then !(decide (a = c) && decide (b = d)) else (decide (a = c) && decide (b = d))))) := by
  simp [semR, fvs?, eqFs]

theorem world_small (x : Sch) (l : List Int) (odd : Bool) : ∀ k ∈ worldF x l odd, k.length < 5 := by
  intro k hk
  simp only [worldF, List.mem_map, List.mem_range] at hk
  obtain ⟨j, _, rfl⟩ := hk
  have := cntF_b l j
  simp only [listF, List.length_map, List.length_range]
  omega
theorem otherF_len (x : Sch) (p : List Ins) (by' : Int) (w : Wd) : (otherF x p by' w).length = w.length := by simp [otherF]
theorem otherF_get (x : Sch) (p : List Ins) (by' : Int) (w : Wd) (a : Nat) (k : List (List Int)) (h : w[a]? = some k) : (otherF x p by' w)[a]? = some (kindO p a by' (nth0 x.kinds a).fields.length k) := by
  have hlt := (List.getElem?_eq_some_iff.1 h).1
  simp only [otherF, List.getElem?_map, List.getElem?_range hlt, Option.map_some, List.getD, h, Option.getD_some]

theorem vmKept_ct {G : Env} (hP : G.P = Tryd.prog) {l m k : List Int} (hl : ∀ n ∈ l, In64 n) (hm : ∀ n ∈ m, In64 n) (hk : ∀ n ∈ k, In64 n)
    (hll : l.length < 1000000000000000000) (hkl : k.length < 1000000000000000000) {by' : Int} (hby : In64 by') :
    CT G 5 ⟨[.f (encL l), .f (encL m), .f (encL k), .f (iI by')], []⟩ ⟨.f (.bool true), [], []⟩ := by
  refine ct_of_body (N := []) (pc := f5pc) (rs := f5rs) (by rw [hP]; exact f5ok) ?_
  rw [entry_mk]
  have he : ∀ x, (encX x).length = 4 := fun _ => rfl
  obtain ⟨x1, x2, x3⟩ := schF_lt l
  obtain ⟨xk, xo⟩ := schF_kinds l
  simp [f5pc, f5r0, f5r1, iI, encL]
  refine pCall_pure (schema_ct hP hl hll) rfl rfl rfl ?_
  generalize schF l = x at *
  simp [f5r2, he, getN]
  refine pCall_pure (world_ct hP hk hkl false x1 (fun k h => (x3 k h).2)) rfl rfl rfl ?_
  have hws := world_small x k false
  have hfit := fit_world x k false
  generalize worldF x k false = w at *
  simp [f5r3, he, getN]
  refine pCall_pure (program_ct hP hm x2 x1 x3) rfl rfl rfl ?_
  obtain ⟨hv, hb⟩ := prog_valid xk.1 xk.2 xo m
  have hpl := progF_len x m
  generalize progF x m = p at *
  have hok := (valid_ok hv).2
  have hnums : ∀ i ∈ p, (i.op = 4 ∨ i.op = 5 → 0 ≤ i.b) ∧ (i.op = 5 → 0 ≤ i.c) := by
    intro i hi
    have := ok_nums (hok i hi)
    exact ⟨fun h => by omega, fun h => by omega⟩
  have halike := kept_alike hb hnums hfit.1 by'
  have hrun : runF x p (otherF x p by' w) 400 = runF x p w 400 := by
    rw [runF_steps hv hb _ (by omega), runF_steps hv hb _ (by omega)]
    exact (runS_alike halike _ _ _ _).symm
  have herr : (runF x p w 400).2.2 = 0 ∨ (runF x p w 400).2.2 = 23 := by rw [runF_steps hv hb _ (by omega)]; exact runS_err _ _ _ _ _ _
  simp [f5r4, f5r5, ghSt]
  unfold f5l0
  refine pwp_loop (α := Nat) (fun a => mkSt [(3, .f (.int .i64 by')), (9, .ptr 109 0 0 0), (10, .f (encW w)), (11, .f (encP p)), (12, .ts 112 0 a 0), (13, .f (.int .i64 (a : Int)))]
    [(109, ⟨0, .box 27 false ((encX x).map .f)⟩), (112, ⟨0, .row 59 1 0 0 (((otherF x p by' w).take a).map fun k => [encK k])⟩)]) (fun a => a ≤ w.length) (fun a => w.length - a) 0 (by omega) (by simp [keepSt]) ?_
  intro a ha
  simp [f5r6, encW, binF, binI]
  refine ccase_i (fun h => ?_) (fun h => ?_)
  · have h : a < w.length := by simp at h; omega
    have hax : a < x.kinds.length := by rw [← hfit.1]; exact h
    obtain ⟨kr, hkr⟩ : ∃ kr, w[a]? = some kr := ⟨w[a], List.getElem?_eq_getElem h⟩
    have hkd : x.kinds[a]? = some (nth0 x.kinds (a : Int)) := by
      have := pickI id x.kinds (a : Int) ⟨by omega, by omega⟩
      simpa using this
    have hrl : ∀ r ∈ kr, r.length = (nth0 x.kinds (a : Int)).fields.length := fun r hr => hfit.2 a _ kr hkd hkr r hr
    have hnf := (x3 _ (nth0_mem x.kinds (a : Int) ⟨by omega, by omega⟩)).2
    have hfo : fieldsOf x (a : Int) = ((nth0 x.kinds (a : Int)).fields.length : Int) := fieldsOf_nth0 x _ ⟨by omega, by omega⟩
    have hkn : nth (x.kinds.map encKd) (a : Int) = some (encKd (nth0 x.kinds (a : Int))) := by
      have := pickI encKd x.kinds (a : Int) ⟨by omega, by omega⟩
      unfold nth; rw [if_pos (by omega)]; exact this
    have hget := otherF_get x p by' w a kr hkr
    have hks := hws kr (List.mem_of_getElem? hkr)
    have hfld : ∀ i ∈ p, i.op = 5 → i.b = a → 0 ≤ i.c ∧ i.c < (nth0 x.kinds (a : Int)).fields.length := by
      intro i hi h5 hba
      have hbad : badIns x i = false := by have := List.any_eq_false.1 hb i hi; simpa using this
      refine ⟨(hnums i hi).2 h5, ?_⟩
      simp only [badIns] at hbad
      simp [h5, hba, hfo] at hbad
      omega
    have htk : (otherF x p by' w).take (a + 1) = (otherF x p by' w).take a ++ [kindO p a by' (nth0 x.kinds (a : Int)).fields.length kr] := by
      rw [List.take_add_one, hget]; rfl
    have wa : IntKind.i64.wrap ((a : Int) + 1) = (a : Int) + 1 := w64 (by omega)
    have hol := otherF_len x p by' w
    generalize (nth0 x.kinds (a : Int)) = kd at *
    have hmk : (kd.fields.length : Int) ≤ 140737488355328 ∧ kd.fields.length ≤ i64max := by simp [i64max]; omega
    have hx1 : ((encX x).map PV.f)[1]? = some (.f (.sl 4 (x.kinds.map encKd))) := rfl
    have hx1g : ∀ h', (encX x)[1]'h' = .sl 4 (x.kinds.map encKd) := fun _ => rfl
    have hk3 : ∀ h', (encKd kd)[3]'h' = .sl 8 (kd.fields.map encF) := fun _ => rfl
    have hk4 : (encKd kd).length = 4 := rfl
    simp [f5r8, f5r9, he, hx1g, hkn, hk3, hk4, hmk]
    simp [f5r10]
    refine kept1 (x := x) (p := p) (w := w) (by' := by') a kd.fields.length (by omega) hfld (((otherF x p by' w).take a).map fun k => [encK k]) ?_ ?_
    · simp [keepSt, vSl, vTk, encW, fldsF_nil]
    have hko : (if p.any (nmd a) = true then kr.map fun r => [encL (recO (fldsF p a kd.fields.length) by' r)] else []) = (kindO p a by' kd.fields.length kr).map fun r => [encL r] := by
      unfold kindO; split <;> simp
    have hkol : (if p.any (nmd a) = true then kr.length else 0) = (kindO p a by' kd.fields.length kr).length := by
      unfold kindO; split <;> simp
    intro l1 hl1
    generalize p.any (nmd a) = nm at *
    have e3 := hl1 3 (by simp); have e9 := hl1 9 (by simp); have e10 := hl1 10 (by simp); have e11 := hl1 11 (by simp); have e12 := hl1 12 (by simp); have e13 := hl1 13 (by simp); have e14 := hl1 14 (by simp); have e15 := hl1 15 (by simp)
    clear hl1
    simp [vSl] at e3 e9 e10 e11 e12 e13 e14 e15
    simp [f5r17, f5r18, ghSt]
    refine kept2 (x := x) (p := p) (w := w) (by' := by') a kd.fields.length nm (fldsF p a kd.fields.length) (fldsF_len _ _ _) hnf kr hkr hrl (by omega) (((otherF x p by' w).take a).map fun k => [encK k]) ?_ ?_
    · simp [keepSt, vSl, vTk, vTk2, encW, e3, e9, e10, e11, e12, e13, e14, e15]
    intro l2 t2 hl2 ht2
    subst ht2
    have e3 := hl2 3 (by simp); have e9 := hl2 9 (by simp); have e10 := hl2 10 (by simp); have e11 := hl2 11 (by simp); have e12 := hl2 12 (by simp); have e13 := hl2 13 (by simp); have e17 := hl2 17 (by simp)
    clear hl2
    simp [vSl] at e3 e9 e10 e11 e12 e13 e17
    rw [hko]
    rw [hkol] at e17
    generalize kindO p a by' kd.fields.length kr = K at *
    have htkK : List.take K.length (K.map fun r => [encL r]) = K.map fun r => [encL r] := List.take_of_length_le (by simp)
    have hsza : (a + 1) * 24 ≤ 140737488355328 ∧ a + 1 ≤ i64max := by simp [i64max]; omega
    have htka : List.take a (List.take a ((otherF x p by' w).map fun k => [encK k])) = List.take a ((otherF x p by' w).map fun k => [encK k]) := by rw [List.take_take]; simp
    have hmin : min a w.length = a := by omega
    have hao : a ≤ w.length := by omega
    simp [f5r28, f5r7, vTk2, ghSt, e3, e9, e10, e11, e12, e13, e17, htkK, hsza, htka, hol, hmin, hao, wa, binF, binI, keepSt]
    refine ⟨a + 1, by omega, by omega, ?_⟩
    rw [← List.map_take, ← List.map_take, htk, List.map_append]
    rfl
  · have hal : a = w.length := by simp at h; omega
    subst hal
    have hr1 := run_ct hP x p w 400 (by omega) (i64c (by omega))
    have hr2 := run_ct hP x p (otherF x p by' w) 400 (by omega) (i64c (by omega))
    rw [hrun] at hr2
    have hO : FV.sl 1 (List.take w.length ((otherF x p by' w).map fun k => [encK k])) = encW (otherF x p by' w) := by
      rw [List.take_of_length_le (by rw [List.length_map, otherF_len]; exact Nat.le_refl _)]; rfl
    have hO2 : List.take w.length (List.take w.length ((otherF x p by' w).map fun k => [encK k])) = List.take w.length ((otherF x p by' w).map fun k => [encK k]) := by rw [List.take_take]; simp
    have hol := otherF_len x p by' w
    generalize otherF x p by' w = O at *
    simp [f5r29, he, getN]
    refine pCall_pure (own_ct hP p (by omega)) rfl rfl rfl ?_
    simp
    refine pCall_pure hr1 rfl rfl rfl ?_
    simp [iI, f5r30, ghSt, he, getN]
    refine pCall_pure (own_ct hP p (by omega)) rfl rfl rfl ?_
    have hmin : min w.length O.length = w.length := by omega
    simp [hmin, hO2, hO, hol]
    refine pCall_pure hr2 rfl rfl rfl ?_
    obtain ⟨⟨c, s, e⟩, hR⟩ : ∃ R, runF x p w 400 = R := ⟨_, rfl⟩
    rw [hR] at herr ⊢
    simp only at herr
    have fin : e = 0 ∨ e = 23 := herr
    rcases fin with rfl | rfl
    · simp [iI, f5r31, binF, binI, getN]
      refine pCall_pure (lives_ct hP) rfl rfl rfl ?_
      simp [retQ, outSt, f5rs, rvals, RArg.val, resPV]
    · simp [iI, f5r31, binF, binI, getN]
      refine pCall_pure (lives_ct hP) rfl rfl rfl ?_
      simp [retQ, outSt, f5rs, rvals, RArg.val, resPV]
end Go.Absw
