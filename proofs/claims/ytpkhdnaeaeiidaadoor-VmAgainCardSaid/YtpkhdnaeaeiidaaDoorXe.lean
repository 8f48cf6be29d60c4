/- The made programs are right. Conditions: told at each. -/
import Derived.Test.YtpkhdnaeaeiidaaDoorXd
set_option linter.unusedSimpArgs false
set_option linter.unusedVariables false

/- Plain facts: the made programs are right and fit the made schema; a run that ends is the same within more steps. -/
namespace Go.Absw
open Go Go.Proofs
set_option maxRecDepth 100000

def okX (x : Sch) (n : Int) (i : Ins) : Prop := okIns n i = true ∧ badIns x i = false

theorem ok_shift {x : Sch} {n : Int} {i : Ins} (h : okX x n i) : okX x (n + 3) (shift3 i) := by
  obtain ⟨h, hb⟩ := h
  have hbad : badIns x (shift3 i) = badIns x i := by
    unfold badIns shift3
    by_cases h5 : i.op = 5
    · simp [h5]
    · simp [h5]
  refine ⟨?_, hbad.trans hb⟩
  simp only [okIns, Bool.and_eq_true, decide_eq_true_eq] at h
  obtain ⟨⟨h0, h9⟩, ⟨ha, hb⟩, hc⟩ := h
  obtain ⟨o, a, b, c⟩ := i
  simp only at h0 h9 ha hb hc
  obtain ⟨m, rfl⟩ : ∃ m : Nat, o = m := ⟨o.toNat, by omega⟩
  match m, h9 with
  | 0, _ | 1, _ | 2, _ | 3, _ | 4, _ | 5, _ | 6, _ | 7, _ | 8, _ =>
    simp [fitAt, numAt, sortAt, sortTab, fitsF, bnd] at ha hb hc
    simp [okIns, fitAt, numAt, sortAt, sortTab, fitsF, bnd, shift3]
    omega
  | m + 9, h => omega

theorem fieldsOf_nth0 (x : Sch) (k : Int) (h : 0 ≤ k ∧ k < x.kinds.length) : fieldsOf x k = (nth0 x.kinds k).fields.length := by
  have hlt : k.toNat < x.kinds.length := by omega
  have : nth x.kinds k = some x.kinds[k.toNat] := by unfold nth; rw [if_pos h.1]; simp [hlt]
  simp [fieldsOf, nth0, this]

theorem loop_good {x : Sch} (hx : x.kinds.length ≤ 3) {kind field up g op n code : Int} (hk : 0 ≤ kind ∧ kind < x.kinds.length) (hf : 0 ≤ field ∧ field < fieldsOf x kind ∧ field < 10) (hu : up < 0 ∨ (up < x.kinds.length ∧ 0 ≤ g ∧ g < fieldsOf x up ∧ g < 10))
    (ho : op = 7 ∨ op = 8) (hn : -2 ≤ n ∧ n < 10) (hc : 0 ≤ code ∧ code ≤ 250) : ∀ i ∈ loopF kind field up g op n code, okX x ((loopF kind field up g op n code).length : Nat) i := by
  intro i hi
  by_cases h0 : 0 ≤ up
  · obtain ⟨h1, h2, h3, h4⟩ : up < x.kinds.length ∧ 0 ≤ g ∧ g < fieldsOf x up ∧ g < 10 := by rcases hu with h | h; omega; exact h
    have hl : (loopF kind field up g op n code).length = 11 := by simp [loopF, h0]
    rw [hl]
    simp only [loopF, h0, if_true, List.mem_append, List.mem_cons, List.not_mem_nil, or_false] at hi
    rcases hi with ((rfl | rfl | rfl | rfl | rfl | rfl) | rfl) | (rfl | rfl | rfl | rfl)
    all_goals refine ⟨?_, ?_⟩
    all_goals first
      | (simp [okIns, fitAt, numAt, sortAt, sortTab, fitsF, bnd, badIns]; omega)
      | (rcases ho with rfl | rfl <;> simp [okIns, fitAt, numAt, sortAt, sortTab, fitsF, bnd, badIns])
      | (simp [okIns, fitAt, numAt, sortAt, sortTab, fitsF, bnd, badIns])
  · have hl : (loopF kind field up g op n code).length = 10 := by simp [loopF, h0]
    rw [hl]
    simp only [loopF, h0, if_false, List.mem_append, List.mem_cons, List.not_mem_nil, or_false] at hi
    rcases hi with (rfl | rfl | rfl | rfl | rfl | rfl) | (rfl | rfl | rfl | rfl)
    all_goals refine ⟨?_, ?_⟩
    all_goals first
      | (simp [okIns, fitAt, numAt, sortAt, sortTab, fitsF, bnd, badIns]; omega)
      | (rcases ho with rfl | rfl <;> simp [okIns, fitAt, numAt, sortAt, sortTab, fitsF, bnd, badIns])
      | (simp [okIns, fitAt, numAt, sortAt, sortTab, fitsF, bnd, badIns])

theorem tmod_b {a : Int} (h : 0 ≤ a) {n : Int} (hn : 0 < n) : 0 ≤ a.tmod n ∧ a.tmod n < n := ⟨Int.tmod_nonneg _ h, Int.tmod_lt_of_pos _ hn⟩

theorem ins_good {x : Sch} (hx : x.kinds.length ≤ 3) (l : List Int) {k f many : Int} (hk : 0 ≤ k ∧ k < x.kinds.length) (hf : 0 ≤ f ∧ f < fieldsOf x k ∧ f < 10) (hm : 0 ≤ many) (i : Nat) : okX x many (insF l k f many i) := by
  have ho := at_b l (7 + 4 * (i : Int)) (n := 9) (by omega)
  have hj : ∀ (j : Nat) (s : Int), sortAt (atF l (7 + 4 * (i : Int)) 9).toNat j = s → fitsF s (numF l k f many i (atF l (7 + 4 * (i : Int)) 9) j) many = true ∧ (s = 4 → numF l k f many i (atF l (7 + 4 * (i : Int)) 9) j = k) ∧ (s = 5 → numF l k f many i (atF l (7 + 4 * (i : Int)) 9) j = f) := by
    intro j s hs
    have hm1 := at_b l (8 + 4 * (i : Int) + (j : Int)) (n := 720) (by omega)
    unfold numF
    simp only [hs]
    generalize atF l (8 + 4 * (i : Int) + (j : Int)) 720 = M at hm1
    have t4 := tmod_b hm1.1 (n := 4) (by omega)
    have t8 := tmod_b hm1.1 (n := 8) (by omega)
    have t9 := tmod_b hm1.1 (n := 9) (by omega)
    have tm := tmod_b hm1.1 (n := many + 1) (by omega)
    refine ⟨?_, fun e => by subst e; simp, fun e => by subst e; simp⟩
    by_cases e1 : s = 1
    · subst e1; simp [fitsF, bnd]; omega
    by_cases e2 : s = 2
    · subst e2; simp [fitsF, bnd]; omega
    by_cases e3 : s = 3
    · subst e3; simp [fitsF, bnd]; omega
    by_cases e4 : s = 4
    · subst e4; simp [fitsF, bnd]; omega
    by_cases e5 : s = 5
    · subst e5; simp [fitsF, bnd]; omega
    by_cases e6 : s = 6
    · subst e6; simp [fitsF, bnd]; omega
    simp [fitsF, bnd, e1, e2, e3, e4, e5, e6]
  unfold insF
  simp only
  have h0 := hj 0 _ rfl
  have h1 := hj 1 _ rfl
  have h2 := hj 2 _ rfl
  generalize numF l k f many i (atF l (7 + 4 * (i : Int)) 9) 0 = a at *
  generalize numF l k f many i (atF l (7 + 4 * (i : Int)) 9) 1 = b at *
  generalize numF l k f many i (atF l (7 + 4 * (i : Int)) 9) 2 = c at *
  generalize atF l (7 + 4 * (i : Int)) 9 = o at *
  clear hj
  refine ⟨by simp [okIns, fitAt, numAt, ho.1, ho.2, h0.1, h1.1, h2.1], ?_⟩
  obtain ⟨m, rfl⟩ : ∃ m : Nat, o = m := ⟨o.toNat, by omega⟩
  match m, ho.2 with
  | 0, _ | 1, _ | 2, _ | 3, _ | 6, _ | 7, _ | 8, _ => simp [badIns]
  | 4, _ =>
    have hb : b = k := h1.2.1 (by simp [sortAt, sortTab])
    subst hb
    simp [badIns]; omega
  | 5, _ =>
    have hb : b = k := h1.2.1 (by simp [sortAt, sortTab])
    have hc : c = f := h2.2.2 (by simp [sortAt, sortTab])
    subst hb hc
    simp [badIns]; omega
  | m + 9, h => omega

/-- The made program is right and fits. -/
theorem progF_good {x : Sch} (hx1 : 1 ≤ x.kinds.length) (hx : x.kinds.length ≤ 3) (hk : ∀ k ∈ x.kinds, KOk k) (l : List Int) : ∀ i ∈ progF x l, okX x ((progF x l).length : Nat) i := by
  have hK : 0 ≤ progK x l ∧ progK x l < x.kinds.length := at_b l 0 (by omega)
  have hfo : ∀ q : Int, 0 ≤ q ∧ q < x.kinds.length → 1 ≤ (nth0 x.kinds q).fields.length ∧ (nth0 x.kinds q).fields.length ≤ 10 := by
    intro q hq
    obtain ⟨_, g2, g3⟩ := hk _ (nth0_mem x.kinds q hq)
    have : (nth0 x.kinds q).fields.length ≠ 0 := fun e => g2 (List.eq_nil_of_length_eq_zero e)
    omega
  have hfk := hfo _ hK
  have hF : 0 ≤ progFd x l ∧ progFd x l < (nth0 x.kinds (progK x l)).fields.length := at_b l 1 (by omega)
  have hF' : 0 ≤ progFd x l ∧ progFd x l < fieldsOf x (progK x l) ∧ progFd x l < 10 := by
    rw [fieldsOf_nth0 x _ hK]; omega
  have hu := upF_lt' x (progK x l) (progFd x l) hK.1
  have hU : progUp x l < 0 ∨ (progUp x l < x.kinds.length ∧ 0 ≤ progUp x l) := by
    unfold progUp
    split
    · omega
    · left; omega
  have hn := at_b l 2 (n := 12) (by omega)
  have hc := at_b l 3 (n := 3) (by omega)
  have ho := at_b l 4 (n := 2) (by omega)
  have h5 := at_b l 5 (n := 6) (by omega)
  have h6k := at_b l 6 (n := (x.kinds.length : Int)) (by omega)
  have h69 := at_b l 6 (n := 9) (by omega)
  have h73 := at_b l 7 (n := 3) (by omega)
  have good := fun up g hu => loop_good (x := x) hx (kind := progK x l) (field := progFd x l) (up := up) (g := g) (op := 7 + atF l 4 2) (n := atF l 2 12 - 2) (code := 1 + atF l 3 3) hK hF' hu (by omega) (by omega) (by omega)
  have loop10 := loopF_len (progK x l) (progFd x l) (-1) 0 (7 + atF l 4 2) (atF l 2 12 - 2) (1 + atF l 3 3)
  unfold progF
  simp only
  split
  · intro i hi
    simp only [List.mem_cons, List.not_mem_nil, or_false] at hi
    have t5 := tmod_b (a := if 1 > atF l 2 12 - 2 then 1 else atF l 2 12 - 2) (by split <;> omega) (n := 5) (by omega)
    generalize (if 1 > atF l 2 12 - 2 then 1 else atF l 2 12 - 2).tmod 5 = T at *
    rcases hi with rfl | rfl | rfl | rfl
    all_goals refine ⟨?_, ?_⟩
    all_goals first
      | (simp [okIns, fitAt, numAt, sortAt, sortTab, fitsF, bnd, badIns]; done)
      | (simp [okIns, fitAt, numAt, sortAt, sortTab, fitsF, bnd, badIns]; omega)
  · split
    · have hl : (([⟨4, 6, atF l 6 x.kinds.length, 0⟩, ⟨1, 5, 1 + atF l 7 3, 0⟩, ⟨7, 6, 5, 13⟩] ++ (loopF (progK x l) (progFd x l) (-1) 0 (7 + atF l 4 2) (atF l 2 12 - 2) (1 + atF l 3 3)).map shift3 : List Ins)).length = 13 := by
        simp [loopF]
      rw [hl]
      have hl2 : (loopF (progK x l) (progFd x l) (-1) 0 (7 + atF l 4 2) (atF l 2 12 - 2) (1 + atF l 3 3)).length = 10 := by simp [loopF]
      intro i hi
      rcases List.mem_append.1 hi with hi | hi
      · simp only [List.mem_cons, List.not_mem_nil, or_false] at hi
        rcases hi with rfl | rfl | rfl
        all_goals refine ⟨?_, ?_⟩
        all_goals first
          | (simp [okIns, fitAt, numAt, sortAt, sortTab, fitsF, bnd, badIns]; done)
          | (simp [okIns, fitAt, numAt, sortAt, sortTab, fitsF, bnd, badIns]; omega)
      · obtain ⟨j, hj, rfl⟩ := List.mem_map.1 hi
        have := ok_shift (good (-1) 0 (.inl (by omega)) j hj)
        rw [hl2] at this
        exact this
    · split
      · intro i hi
        obtain ⟨j, _, rfl⟩ := List.mem_map.1 hi
        have hl : (((List.range (atF l 6 9).toNat).map (insF l (progK x l) (progFd x l) (atF l 6 9))).length : Int) = atF l 6 9 := by
          rw [List.length_map, List.length_range]; omega
        have := ins_good hx l (k := progK x l) (f := progFd x l) (many := atF l 6 9) hK hF' h69.1 j
        rw [hl]; exact this
      · split
        · refine good _ _ ?_
          rcases hU with h | h
          · exact .inl h
          · right
            rw [if_pos h.2, fieldsOf_nth0 x _ ⟨h.2, h.1⟩]
            have := hfo _ ⟨h.2, h.1⟩
            have := at_b l 6 (n := ((nth0 x.kinds (progUp x l)).fields.length : Int)) (by omega)
            omega
        · exact good (-1) 0 (.inl (by omega))

theorem prog_valid {x : Sch} (hx1 : 1 ≤ x.kinds.length) (hx : x.kinds.length ≤ 3) (hk : ∀ k ∈ x.kinds, KOk k) (l : List Int) : validF (progF x l) = 0 ∧ (progF x l).any (badIns x) = false := by
  have h := progF_good hx1 hx hk l
  have hl := progF_len x l
  refine ⟨?_, ?_⟩
  · unfold validF
    rw [if_neg (by omega), if_pos (List.all_eq_true.2 fun i hi => (h i hi).1)]
  · rw [List.any_eq_false]
    intro i hi
    rw [(h i hi).2]; simp
end Go.Absw

/- Plain facts on runs: one that ends within some steps ends so within more, and within fewer than it tells it does not. -/
namespace Go.Absw
open Go Go.Proofs
set_option maxRecDepth 100000

theorem stepF_pc {w : Wd} {r r' : List Int} {i : Ins} {pc pc' n : Int} (h : okIns n i = true) (hp : 0 ≤ pc ∧ pc ≤ n) (hs : stepF w r i pc = .next r' pc') : 0 ≤ pc' ∧ pc' ≤ n := by
  have hn := ok_nums h
  unfold stepF at hs
  split at hs
  · cases hs
  split at hs
  · cases hs; exact hp
  split at hs
  · cases hs; exact hp
  split at hs
  · cases hs; exact hp
  split at hs
  · cases hs; exact hp
  split at hs
  · split at hs
    · cases hs
    · cases hs; exact hp
  split at hs
  · simp only [Stp1.next.injEq] at hs; omega
  split at hs
  · simp only [Stp1.next.injEq] at hs
    obtain ⟨_, rfl⟩ := hs
    split
    · omega
    · exact hp
  · simp only [Stp1.next.injEq] at hs
    obtain ⟨_, rfl⟩ := hs
    split
    · omega
    · exact hp

theorem nth_lt {α : Type} (l : List α) (i : Int) (h0 : 0 ≤ i) (h : i < l.length) : ∃ a, nth l i = some a ∧ a ∈ l := by
  have hlt : i.toNat < l.length := by omega
  exact ⟨l[i.toNat], by unfold nth; rw [if_pos h0]; simp [hlt], List.getElem_mem hlt⟩

theorem runS_err (w : Wd) (p : List Ins) : ∀ (rem : Nat) (r : List Int) (pc n : Int), (runS w p rem r pc n).2.2 = 0 ∨ (runS w p rem r pc n).2.2 = 23
  | 0, r, pc, n => by unfold runS; split <;> simp
  | rem + 1, r, pc, n => by
    unfold runS
    split
    · simp
    · split
      · simp
      · split
        · simp
        · exact runS_err w p rem _ _ _

theorem runS_steps {w : Wd} {p : List Ins} (hv : ∀ i ∈ p, okIns p.length i = true) : ∀ (rem : Nat) (r : List Int) (pc n c s : Int), 0 ≤ pc ∧ pc ≤ p.length → runS w p rem r pc n = (c, s, 0) →
    (n ≤ s ∧ s ≤ n + rem) ∧ (s = n → pc = p.length) ∧ (∀ k : Nat, s ≤ n + k → runS w p k r pc n = (c, s, 0)) ∧ (∀ k : Nat, n + k < s → runS w p k r pc n = (0, 0, 23))
  | rem, r, pc, n, c, s, hpc, h => by
    by_cases he : pc = p.length
    · have hany : ∀ k, runS w p k r pc n = (0, n, 0) := by
        intro k; cases k with
        | zero => unfold runS; rw [if_pos he]
        | succ k => unfold runS; rw [if_pos he]
      rw [hany] at h
      simp only [Prod.mk.injEq] at h
      obtain ⟨rfl, rfl, _⟩ := h
      exact ⟨⟨by omega, by omega⟩, fun _ => he, fun k _ => hany k, fun k hk => by omega⟩
    · cases rem with
      | zero =>
        unfold runS at h; rw [if_neg he] at h
        simp only [Prod.mk.injEq] at h
        omega
      | succ rem =>
        obtain ⟨i, hi, him⟩ := nth_lt p pc hpc.1 (by omega)
        have hstep : ∀ k, runS w p (k + 1) r pc n = match stepF w r i (pc + 1) with
            | .stop code => (code, n + 1, 0)
            | .next r' pc' => runS w p k r' pc' (n + 1) := by
          intro k; rw [runS, if_neg he, hi]
          rfl
        have h0 : runS w p 0 r pc n = (0, 0, 23) := by unfold runS; rw [if_neg he]
        rw [hstep] at h
        cases hst : stepF w r i (pc + 1) with
        | stop code =>
          rw [hst] at h
          simp only [Prod.mk.injEq] at h
          obtain ⟨rfl, rfl, _⟩ := h
          refine ⟨⟨by omega, by omega⟩, fun h => by omega, fun k hk => ?_, fun k hk => ?_⟩
          · cases k with
            | zero => omega
            | succ k => rw [hstep, hst]
          · cases k with
            | zero => exact h0
            | succ k => omega
        | next r' pc' =>
          rw [hst] at h
          have ih := runS_steps hv rem r' pc' (n + 1) c s (stepF_pc (hv i him) ⟨by omega, by omega⟩ hst) h
          obtain ⟨⟨i1, i2⟩, i3, i4, i5⟩ := ih
          refine ⟨⟨by omega, by omega⟩, fun h => by omega, fun k hk => ?_, fun k hk => ?_⟩
          · cases k with
            | zero => omega
            | succ k => rw [hstep, hst]; exact i4 k (by omega)
          · cases k with
            | zero => exact h0
            | succ k => rw [hstep, hst]; exact i5 k (by omega)
  termination_by rem => rem

theorem runF_steps {x : Sch} {p : List Ins} (hv : validF p = 0) (hb : p.any (badIns x) = false) (w : Wd) {most : Int} (hm : 0 ≤ most ∧ most ≤ 1000000) : runF x p w most = runS w p most.toNat (List.replicate 8 0) 0 0 := by
  unfold runF
  rw [if_neg (by omega), if_neg (by omega), if_neg (by rw [hb]; simp)]
end Go.Absw
