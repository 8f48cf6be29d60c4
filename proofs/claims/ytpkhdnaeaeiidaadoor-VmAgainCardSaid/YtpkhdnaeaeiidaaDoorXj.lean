/- Parse leads back from Print; VmAgain returns true. Conditions: told at each. -/
import Derived.Test.YtpkhdnaeaeiidaaDoorXi
set_option linter.unusedSimpArgs false
set_option linter.unusedVariables false

/- Parse leads back from Print; a program with more instructions behind a last stop ends alike. Conditions: told at each. -/
namespace Go.Absw
open Go Go.Proofs
set_option maxRecDepth 100000

/-! ### numbers read back -/
theorem decS_dig : ∀ n : Nat, (∀ b ∈ decS n, isDig b = true) ∧ 1 ≤ (decS n).length ∧ decN (decS n) 0 = n := by
  intro n
  induction n using Nat.strongRecOn with
  | _ n ih =>
    have hb : ∀ d : Nat, d < 10 → ((48 + d).toUInt8).toNat = 48 + d := fun d hd => by
      simp [Nat.toUInt8]; omega
    rw [decS]
    split
    · rename_i h
      have := hb n h
      refine ⟨by simp [isDig, this]; omega, by simp, ?_⟩
      simp [decN, this]
      omega
    · rename_i h
      obtain ⟨h1, h2, h3⟩ := ih (n / 10) (by omega)
      have := hb (n % 10) (by omega)
      refine ⟨fun b hb' => ?_, by simp, ?_⟩
      · rcases List.mem_append.1 hb' with hb' | hb'
        · exact h1 b hb'
        · obtain rfl : b = (48 + n % 10).toUInt8 := by simpa using hb'
          simp [isDig, this]; omega
      · rw [decN_app, h3, this]; omega
theorem tpF45 (d : List UInt8) : tpF (45 :: d) [45] = d := by simp [tpF]
theorem tpFd {d : List UInt8} (h : ∀ b ∈ d, isDig b = true) : tpF d [45] = d := by
  unfold tpF
  rw [if_neg]
  intro e
  cases d with
  | nil => simp at e
  | cons b r =>
    have : b = 45 := by simpa using e
    have := h b (by simp)
    subst b
    simp [isDig] at this
theorem numberF_dec {n : Int} (h1 : -1048577 < n) (h2 : n < 1048577) : numberF (decimalF n) = some n := by
  have hl := decS_len7 6
  unfold decimalF
  split
  · rename_i h
    obtain ⟨d1, d2, d3⟩ := decS_dig (-n).toNat
    have d4 := hl (-n).toNat (by simp; omega)
    generalize decS (-n).toNat = d at *
    have d5 : d.all isDig = true := List.all_eq_true.2 d1
    unfold numberF
    rw [tpF45, if_neg (by rintro (h | h | h); omega; omega; rw [d5] at h; cases h)]
    simp [atoiF, d3]; omega
  · rename_i h
    obtain ⟨d1, d2, d3⟩ := decS_dig n.toNat
    have d4 := hl n.toNat (by simp; omega)
    generalize decS n.toNat = d at *
    have d5 : d.all isDig = true := List.all_eq_true.2 d1
    unfold numberF
    rw [tpFd d1, if_neg (by rintro (h | h | h); omega; omega; rw [d5] at h; cases h)]
    have : d.head? ≠ some 45 := by
      intro e
      cases d with
      | nil => simp at e
      | cons b r =>
        have hb : b = 45 := by simpa using e
        have := d1 b (by simp)
        subst b
        simp [isDig] at this
    simp [atoiF, d3, this]; omega
theorem decimalF_ink (n : Int) : (∀ b ∈ decimalF n, ink b = true) ∧ decimalF n ≠ [] := by
  have hk : ∀ b, isDig b = true → ink b = true := fun b h => by simp [isDig, ink] at h ⊢; omega
  unfold decimalF
  split
  · obtain ⟨d1, d2, _⟩ := decS_dig (-n).toNat
    refine ⟨fun b hb => ?_, by simp⟩
    rcases List.mem_cons.1 hb with rfl | hb
    · rfl
    · exact hk b (d1 b hb)
  · obtain ⟨d1, d2, _⟩ := decS_dig n.toNat
    exact ⟨fun b hb => hk b (d1 b hb), fun e => by rw [e] at d2; simp at d2⟩

/-! ### tokens -/
theorem ink_blank {b : UInt8} (h : ink b = true) : blank b = false := by
  simp [ink, blank] at h ⊢; omega
theorem tw_app {p : UInt8 → Bool} {l r : List UInt8} (hl : ∀ b ∈ l, p b = true) (hr : ∀ b, r.head? = some b → p b = false) : (l ++ r).takeWhile p = l := by
  rw [List.takeWhile_append_of_pos hl]
  cases r with
  | nil => simp
  | cons b r => simp [hr b rfl]
theorem tok_at {s bl w r : List UInt8} {a : Nat} (h : s.drop a = bl ++ (w ++ r)) (hb : ∀ b ∈ bl, blank b = true) (hw : ∀ b ∈ w, ink b = true) (hw0 : w ≠ []) (hr : ∀ b, r.head? = some b → ink b = false) :
    tokA s a = a + bl.length ∧ tokW s (a + bl.length) = w ∧ s.drop (a + bl.length + w.length) = r := by
  have h1 : s.drop (a + bl.length) = w ++ r := by rw [← List.drop_drop, h, List.drop_left]
  refine ⟨?_, ?_, ?_⟩
  · unfold tokA
    rw [h, tw_app hb]
    intro b hb'
    cases w with
    | nil => exact absurd rfl hw0
    | cons x w =>
      obtain rfl : x = b := by simpa using hb'
      exact ink_blank (hw x (by simp))
  · unfold tokW; rw [h1, tw_app hw hr]
  · rw [← List.drop_drop, h1, List.drop_left]
theorem tok_end {s bl : List UInt8} {a : Nat} (h : s.drop a = bl) (hb : ∀ b ∈ bl, blank b = true) : tokA s a = a + bl.length ∧ tokW s (a + bl.length) = [] := by
  refine ⟨?_, ?_⟩
  · unfold tokA
    have := tw_app (r := []) hb (by simp)
    rw [List.append_nil] at this
    rw [h, this]
  · unfold tokW
    rw [← List.drop_drop, h]; simp

/-! ### an instruction read back -/
def prtF (l n : Int) : List UInt8 := if l = 0 then [] else 32 :: decimalF n
def prtsF : List Int → List Int → List UInt8
  | l :: ls, n :: ns => prtF l n ++ prtsF ls ns
  | _, _ => []
def setsF : List Int → Nat → List Int → List Int → List Int
  | l :: ls, k, v, n :: ns => setsF ls (k + 1) (if l = 0 then v else v.set k n) ns
  | _, _, v, _ => v
theorem prts_head (ls ns : List Int) (r : List UInt8) : ∀ b, (prtsF ls ns ++ 10 :: r).head? = some b → ink b = false := by
  induction ls generalizing ns with
  | nil => intro b hb; simp [prtsF] at hb; subst hb; rfl
  | cons l ls ih =>
    cases ns with
    | nil => intro b hb; simp [prtsF] at hb; subst hb; rfl
    | cons n ns =>
      intro b hb
      by_cases h0 : l = 0
      · simp [prtsF, prtF, h0] at hb; exact ih ns b (by simpa using hb)
      · simp [prtsF, prtF, h0] at hb; subst hb; rfl
theorem argF_back {s : List UInt8} : ∀ (ls ns : List Int) (k : Nat) (v : List Int) (a : Nat) (w r : List UInt8), ls.length = ns.length → (∀ n ∈ ns, -1048577 < n ∧ n < 1048577) → s.drop (a + w.length) = prtsF ls ns ++ 10 :: r →
    ∃ a' w', argF s ls k v a w = .ok (setsF ls k v ns) a' w' ∧ s.drop (a' + w'.length) = 10 :: r
  | [], [], k, v, a, w, r, _, _, h => ⟨a, w, rfl, by simpa [prtsF] using h⟩
  | l :: ls, n :: ns, k, v, a, w, r, hl, hn, h => by
    simp at hl
    obtain ⟨n1, n2⟩ := hn n (by simp)
    by_cases h0 : l = 0
    · rw [argF, if_pos h0]
      have := argF_back ls ns (k + 1) v a w r hl (fun m hm => hn m (by simp [hm])) (by simpa [prtsF, prtF, h0] using h)
      simpa [setsF, h0] using this
    · obtain ⟨i1, i2⟩ := decimalF_ink n
      have h' : s.drop (a + w.length) = [32] ++ (decimalF n ++ (prtsF ls ns ++ 10 :: r)) := by rw [h]; simp [prtsF, prtF, h0]
      obtain ⟨t1, t2, t3⟩ := tok_at h' (by simp; decide) i1 i2 (prts_head ls ns r)
      rw [argF, if_neg h0, t1, t2, numberF_dec n1 n2]
      have := argF_back ls ns (k + 1) (v.set k n) (a + w.length + [(32 : UInt8)].length) (decimalF n) r hl (fun m hm => hn m (by simp [hm])) t3
      simpa [setsF, h0] using this
theorem sorts_ops : ∀ m : Nat, m < 9 → ∃ o x y z, nth0 opsT (m : Int) = o ∧ sortsR[m]? = some [x, y, z] ∧ wordsR[m]? = some o.word ∧ (o.a = 0 ↔ x = 45) ∧ (o.b = 0 ↔ y = 45) ∧ (o.c = 0 ↔ z = 45) ∧ opIx o.word opsT 0 = m ∧ (∀ b ∈ o.word, ink b = true) ∧ o.word ≠ [] ∧
    sortAt m 0 = o.a ∧ sortAt m 1 = o.b ∧ sortAt m 2 = o.c := by
  intro m hm
  match m, hm with
  | 0, _ => exact ⟨_, _, _, _, rfl, rfl, rfl, by decide, by decide, by decide, by decide, by decide, by decide, rfl, rfl, rfl⟩
  | 1, _ => exact ⟨_, _, _, _, rfl, rfl, rfl, by decide, by decide, by decide, by decide, by decide, by decide, rfl, rfl, rfl⟩
  | 2, _ => exact ⟨_, _, _, _, rfl, rfl, rfl, by decide, by decide, by decide, by decide, by decide, by decide, rfl, rfl, rfl⟩
  | 3, _ => exact ⟨_, _, _, _, rfl, rfl, rfl, by decide, by decide, by decide, by decide, by decide, by decide, rfl, rfl, rfl⟩
  | 4, _ => exact ⟨_, _, _, _, rfl, rfl, rfl, by decide, by decide, by decide, by decide, by decide, by decide, rfl, rfl, rfl⟩
  | 5, _ => exact ⟨_, _, _, _, rfl, rfl, rfl, by decide, by decide, by decide, by decide, by decide, by decide, rfl, rfl, rfl⟩
  | 6, _ => exact ⟨_, _, _, _, rfl, rfl, rfl, by decide, by decide, by decide, by decide, by decide, by decide, rfl, rfl, rfl⟩
  | 7, _ => exact ⟨_, _, _, _, rfl, rfl, rfl, by decide, by decide, by decide, by decide, by decide, by decide, rfl, rfl, rfl⟩
  | 8, _ => exact ⟨_, _, _, _, rfl, rfl, rfl, by decide, by decide, by decide, by decide, by decide, by decide, rfl, rfl, rfl⟩

theorem sets3 (A B C a b c : Int) (z0 : A = 0 → a = 0) (z1 : B = 0 → b = 0) (z2 : C = 0 → c = 0) :
    (setsF [A, B, C] 0 [0, 0, 0] [a, b, c]).getD 0 0 = a ∧ (setsF [A, B, C] 0 [0, 0, 0] [a, b, c]).getD 1 0 = b ∧ (setsF [A, B, C] 0 [0, 0, 0] [a, b, c]).getD 2 0 = c := by
  by_cases c0 : A = 0
  · have := z0 c0; subst this
    by_cases c1 : B = 0
    · have := z1 c1; subst this
      by_cases c2 : C = 0
      · have := z2 c2; subst this; simp [setsF, c0, c1, c2]
      · simp [setsF, c0, c1, c2]
    · by_cases c2 : C = 0
      · have := z2 c2; subst this; simp [setsF, c0, c1, c2]
      · simp [setsF, c0, c1, c2]
  · by_cases c1 : B = 0
    · have := z1 c1; subst this
      by_cases c2 : C = 0
      · have := z2 c2; subst this; simp [setsF, c0, c1, c2]
      · simp [setsF, c0, c1, c2]
    · by_cases c2 : C = 0
      · have := z2 c2; subst this; simp [setsF, c0, c1, c2]
      · simp [setsF, c0, c1, c2]
theorem goF_back {s : List UInt8} {p : List Ins} (hv : validF p = 0) : ∀ (q done : List Ins) (f a : Nat) (bl : List UInt8), done ++ q = p → q.length < f → (∀ b ∈ bl, blank b = true) → a ≤ s.length → s.drop a = bl ++ (q.map lineF).flatten →
    goF s f done (tokA s a) (tokW s (tokA s a)) = ⟨some p, 0, 0⟩
  | [], done, f, a, bl, hp, hf, hb, ha, h => by
    obtain ⟨f, rfl⟩ : ∃ g, f = g + 1 := ⟨f - 1, by simp at hf; omega⟩
    simp at hp h
    subst hp
    obtain ⟨t1, t2⟩ := tok_end h hb
    have hl : a + bl.length = s.length := by rw [← h]; simp; omega
    rw [t1, t2, goF, if_pos rfl, if_neg (by omega), if_pos hv]
  | i :: q, done, f, a, bl, hp, hf, hb, ha, h => by
    obtain ⟨f, rfl⟩ : ∃ g, f = g + 1 := ⟨f - 1, by simp at hf; omega⟩
    obtain ⟨hlen, hok⟩ := valid_ok hv
    have hi := hok i (by rw [← hp]; simp)
    have hop : 0 ≤ i.op ∧ i.op < 9 := by simp [okIns] at hi; omega
    obtain ⟨m, hm⟩ : ∃ m : Nat, i.op = m := ⟨i.op.toNat, by omega⟩
    obtain ⟨o, x, y, z, ho, hs, hw, ea, eb, ec, hix, hwi, hw0, sa, sb, sc⟩ := sorts_ops m (by omega)
    have hb0 := restF_len hlen hi (k := 0) (by omega)
    have hb1 := restF_len hlen hi (k := 1) (by omega)
    have hb2 := restF_len hlen hi (k := 2) (by omega)
    simp only [numAt] at hb0 hb1 hb2
    have hmm : i.op.toNat = m := by omega
    have hline : lineF i = o.word ++ (prtsF [o.a, o.b, o.c] [i.a, i.b, i.c] ++ [10]) := by
      simp [lineF, restF, partF, hmm, hs, hw, prtsF, prtF, ea, eb, ec, numAt]
    have h' : s.drop a = bl ++ (o.word ++ (prtsF [o.a, o.b, o.c] [i.a, i.b, i.c] ++ 10 :: (q.map lineF).flatten)) := by rw [h]; simp [hline]
    obtain ⟨t1, t2, t3⟩ := tok_at h' hb hwi hw0 (prts_head _ _ _)
    obtain ⟨a', w', e1, e2⟩ := argF_back (s := s) [o.a, o.b, o.c] [i.a, i.b, i.c] 0 [0, 0, 0] (a + bl.length) o.word _ rfl (by simp; exact ⟨⟨hb0.1, hb0.2.1⟩, ⟨hb1.1, hb1.2.1⟩, hb2.1, hb2.2.1⟩) t3
    rw [t1, t2, goF, if_neg hw0, hix, if_neg (by omega), ho]
    simp only [opArgs]
    rw [e1]
    simp only []
    -- numbers of no sort are 0
    have hfit := fun k (hk : k < 3) => (show fitsF (sortAt m k) (numAt i k) p.length = true by
      simp only [okIns, fitAt, Bool.and_eq_true, hmm] at hi
      match k, hk with
      | 0, _ => exact hi.2.1.1
      | 1, _ => exact hi.2.1.2
      | 2, _ => exact hi.2.2)
    have z0 : o.a = 0 → i.a = 0 := fun h0 => by have := hfit 0 (by omega); rw [sa, h0] at this; simp [fitsF, bnd, numAt] at this; omega
    have z1 : o.b = 0 → i.b = 0 := fun h0 => by have := hfit 1 (by omega); rw [sb, h0] at this; simp [fitsF, bnd, numAt] at this; omega
    have z2 : o.c = 0 → i.c = 0 := fun h0 => by have := hfit 2 (by omega); rw [sc, h0] at this; simp [fitsF, bnd, numAt] at this; omega
    have hins : (⟨(m : Int), (setsF [o.a, o.b, o.c] 0 [0, 0, 0] [i.a, i.b, i.c]).getD 0 0, (setsF [o.a, o.b, o.c] 0 [0, 0, 0] [i.a, i.b, i.c]).getD 1 0, (setsF [o.a, o.b, o.c] 0 [0, 0, 0] [i.a, i.b, i.c]).getD 2 0⟩ : Ins) = i := by
      obtain ⟨g0, g1, g2⟩ := sets3 o.a o.b o.c i.a i.b i.c z0 z1 z2
      rw [g0, g1, g2, ← hm]
    rw [hins]
    refine goF_back hv q (done ++ [i]) f (a' + w'.length) [10] (by simpa using hp) (by simp at hf ⊢; omega) (by simp; decide) ?_ (by rw [e2]; simp)
    rcases Nat.lt_or_ge s.length (a' + w'.length) with hgt | hle
    · rw [List.drop_eq_nil_of_le (by omega)] at e2; cases e2
    · exact hle
theorem parse_print {p : List Ins} (hv : validF p = 0) : parseF (printF p) = ⟨some p, 0, 0⟩ := by
  have hl := printF_len p
  unfold parseF
  rw [if_neg (by omega)]
  have e : printF p = (p.map lineF).flatten := by unfold printF; rw [if_pos hv]
  have hlen : p.length ≤ (printF p).length := by
    rw [e]
    clear hl e hv
    induction p with
    | nil => simp
    | cons i p ih => simp [lineF] at ih ⊢; omega
  exact goF_back hv p [] _ 0 [] (by simp) (by omega) (by simp) (Nat.zero_le _) (by rw [e]; simp)

/-! ### behind a last stop -/
def stop0 : Ins := ⟨0, 0, 0, 0⟩
theorem ok_mono {n n' : Int} {i : Ins} (h : okIns n i = true) (hn : n ≤ n') : okIns n' i = true := by
  have key : ∀ s v, fitsF s v n = true → fitsF s v n' = true := by
    intro s v h
    simp only [fitsF, bnd, Bool.and_eq_true, decide_eq_true_eq] at h ⊢
    repeat' split at h
    all_goals (simp at h)
    all_goals (repeat' split)
    all_goals (simp; omega)
  simp only [okIns, fitAt, Bool.and_eq_true] at h ⊢
  exact ⟨h.1, ⟨key _ _ h.2.1.1, key _ _ h.2.1.2⟩, key _ _ h.2.2⟩
theorem runS_longer {w : Wd} {p r : List Ins} (hv : ∀ i ∈ p, okIns p.length i = true) : ∀ (rem : Nat) (rg : List Int) (pc n : Int), 0 ≤ pc ∧ pc ≤ p.length → runS w (p ++ [stop0]) rem rg pc n = runS w (p ++ [stop0] ++ r) rem rg pc n
  | 0, rg, pc, n, h => by
    simp only [runS]
    rw [if_neg (by simp; omega), if_neg (by simp; omega)]
  | rem + 1, rg, pc, n, h => by
    simp only [runS]
    rw [if_neg (by simp; omega), if_neg (by simp; omega)]
    by_cases he : pc = p.length
    · have e1 : nth (p ++ [stop0]) pc = some stop0 := by unfold nth; rw [if_pos (by omega), he]; simp
      have e2 : nth (p ++ [stop0] ++ r) pc = some stop0 := by unfold nth; rw [if_pos (by omega), he]; simp
      rw [e1, e2]
      simp [stepF, stop0]
    · obtain ⟨i, hi, hm⟩ := nth_lt p pc h.1 (by omega)
      have hlt : pc.toNat < p.length := by omega
      have e0 : p[pc.toNat]? = some i := by unfold nth at hi; rw [if_pos (by omega)] at hi; exact hi
      have e1 : nth (p ++ [stop0]) pc = some i := by unfold nth; rw [if_pos (by omega), List.getElem?_append_left hlt]; exact e0
      have e2 : nth (p ++ [stop0] ++ r) pc = some i := by unfold nth; rw [if_pos (by omega), List.append_assoc, List.getElem?_append_left hlt]; exact e0
      rw [e1, e2]
      simp only []
      cases hs : stepF w rg i (pc + 1) with
      | stop c => rfl
      | next rg' pc' => exact runS_longer hv rem rg' pc' (n + 1) (stepF_pc (hv i hm) (by omega) hs)
theorem run_longer {x : Sch} {p r : List Ins} (hv : validF p = 0) (hb : p.any (badIns x) = false) (hr : validF r = 0) (hrb : r.any (badIns x) = false) (hl : p.length + r.length < 100) (w : Wd) {most : Int} (hm : 0 ≤ most ∧ most ≤ 1000000) :
    runF x (p ++ [stop0]) w most = runF x (p ++ [stop0] ++ r) w most ∧ ((runF x (p ++ [stop0]) w most).2.2 = 0 ∨ (runF x (p ++ [stop0]) w most).2.2 = 23) := by
  obtain ⟨_, hp⟩ := valid_ok hv
  obtain ⟨_, hq⟩ := valid_ok hr
  have hs0 : ∀ n : Int, 0 ≤ n → okIns n stop0 = true := fun n hn => by simp [okIns, fitAt, stop0, sortAt, sortTab, fitsF, bnd, numAt]
  have hbs : badIns x stop0 = false := rfl
  have v1 : validF (p ++ [stop0]) = 0 := by
    unfold validF
    rw [if_neg (by simp; omega), if_pos]
    refine List.all_eq_true.2 fun i hi => ?_
    rcases List.mem_append.1 hi with hi | hi
    · exact ok_mono (hp i hi) (by simp; omega)
    · obtain rfl : i = stop0 := by simpa using hi
      exact hs0 _ (by omega)
  have v2 : validF (p ++ [stop0] ++ r) = 0 := by
    unfold validF
    rw [if_neg (by simp; omega), if_pos]
    refine List.all_eq_true.2 fun i hi => ?_
    rcases List.mem_append.1 hi with hi | hi
    · rcases List.mem_append.1 hi with hi | hi
      · exact ok_mono (hp i hi) (by simp; omega)
      · obtain rfl : i = stop0 := by simpa using hi
        exact hs0 _ (by omega)
    · exact ok_mono (hq i hi) (by simp; omega)
  have b1 : (p ++ [stop0]).any (badIns x) = false := by rw [List.any_append, hb]; simp [hbs]
  have b2 : (p ++ [stop0] ++ r).any (badIns x) = false := by rw [List.any_append, b1, hrb]; rfl
  rw [runF_steps v1 b1 w hm, runF_steps v2 b2 w hm]
  exact ⟨runS_longer hp _ _ 0 0 (by omega), runS_err _ _ _ _ _ _⟩
end Go.Absw

/- VmAgain returns true. Conditions: told at it. -/
namespace Go.Absw
open Go Go.Proofs
set_option maxRecDepth 100000

@[simp] theorem sR_eqs2'' {σ : St} {ft : List Nat} (neg : Bool) (a b c d : Int) : semR σ ft (.eqs neg [0, 0]) [.ag [.f (.int .i64 a), .f (.int .i64 b)], .ag [.f (.int .i64 c), .f (.int .i64 d)]] = some (.f (.bool (if neg = true then !(decide (a = c) && decide (b = d)) else (decide (a = c) && decide (b = d))))) := by
  simp [semR, fvs?, eqFs]

theorem vmAgain_ct {G : Env} (hP : G.P = Tryd.prog) (hg : G.glob 0 = powT) {l m k o : List Int} (hl : ∀ n ∈ l, In64 n) (hm : ∀ n ∈ m, In64 n) (hk : ∀ n ∈ k, In64 n) (ho : ∀ n ∈ o, In64 n)
    (hll : l.length < 1000000000000000000) (hkl : k.length < 1000000000000000000) :
    CT G 8 ⟨[.f (encL l), .f (encL m), .f (encL k), .f (encL o)], []⟩ ⟨.f (.bool true), [], []⟩ := by
  refine ct_of_body (N := []) (pc := f8pc) (rs := f8rs) (by rw [hP]; exact f8ok) ?_
  rw [entry_mk]
  have he : ∀ x, (encX x).length = 4 := fun _ => rfl
  obtain ⟨x1, x2, x3⟩ := schF_lt l
  obtain ⟨xk, xo⟩ := schF_kinds l
  simp [f8pc, f8r0, f8r1, iI, encL]
  refine pCall_pure (schema_ct hP hl hll) rfl rfl rfl ?_
  generalize schF l = x at *
  simp [f8r2, he, getN]
  refine pCall_pure (world_ct hP hk hkl false x1 (fun k h => (x3 k h).2)) rfl rfl rfl ?_
  generalize worldF x k false = w at *
  simp [f8r3, he, getN]
  refine pCall_pure (program_ct hP hm x2 x1 x3) rfl rfl rfl ?_
  obtain ⟨hv, hb⟩ := prog_valid xk.1 xk.2 xo m
  obtain ⟨hv2, hb2⟩ := prog_valid xk.1 xk.2 xo o
  have hpl := progF_len x m
  have hpl2 := progF_len x o
  have hct2 := program_ct (G := G) hP (l := o) ho x2 x1 x3
  generalize progF x m = p at *
  generalize progF x o = q at *
  have hpp := parse_print hv
  have hsl := printF_len p
  obtain ⟨hrun, herr⟩ := run_longer hv hb hv2 hb2 (by omega) w (most := 400) (by omega)
  simp [f8r4]
  refine pCall_pure (own_ct hP p (by omega)) rfl rfl rfl ?_
  simp
  refine pCall_pure (print_ct hP hg p (by omega)) rfl rfl rfl ?_
  simp
  have hpc := parse_ct (G := G) hP (printF p) (by omega)
  rw [hpp] at hpc
  simp only [parseOut, encPo] at hpc
  refine pCall_pure hpc rfl rfl rfl ?_
  simp [upL, up, iI, f8r5, binF, binI]
  refine pCall_pure (plain_ct' hP (p := p) (by omega)) rfl rfl rfl ?_
  simp
  refine pCall_pure (sameP_ct hP (p := p) (by omega)) rfl rfl rfl ?_
  have g1 : p.length * 32 ≤ 140737488355328 ∧ p.length ≤ i64max := by simp [i64max]; omega
  have g2 : (p.length + 1) * 32 ≤ 140737488355328 ∧ p.length + 1 ≤ i64max := by simp [i64max]; omega
  have g3 : (p.length + 1 + q.length) * 32 ≤ 140737488355328 ∧ p.length + 1 + q.length ≤ i64max := by simp [i64max]; omega
  have t1 : List.take p.length (p.map encI) = p.map encI := List.take_of_length_le (by simp)
  have t2 : p.map encI ++ [[FV.int .i64 0, .int .i64 0, .int .i64 0, .int .i64 0]] = (p ++ [stop0]).map encI := by simp [encI, iI, stop0]
  have t4 : (p ++ [stop0]).map encI ++ q.map encI = (p ++ [stop0] ++ q).map encI := by simp
  have t5 : p.length + 1 = (p ++ [stop0]).length := by simp
  have t6 : p.length + 1 + q.length = (p ++ [stop0] ++ q).length := by simp; omega
  simp [unF, f8r7, f8r8, ghSt, encP, g1, g2, t1, getN, chunk]
  rw [t2]
  have u2 : (p ++ [stop0]).length < 1000000 ∧ (p ++ [stop0] ++ q).length < 1000000 := by simp; omega
  generalize hE : p ++ [stop0] = E at *
  rw [t5]
  rw [t5] at g3 t6
  simp only [t5] at *
  generalize hL : E ++ q = L at *
  have u1 : List.take E.length (E.map encI) = E.map encI := List.take_of_length_le (by simp)
  simp [f8r9, f8r10, ghSt, g2, g3, u1, getN, chunk, he]
  refine pCall_pure hct2 rfl rfl rfl ?_
  simp [encP, g3, u1]
  rw [t4]
  rw [t6]
  rw [t6] at g3
  simp [f8r11, getN, he, u1]
  have w1 : List.take L.length (L.map encI) = L.map encI := List.take_of_length_le (by simp)
  refine pCall_pure (own_ct hP E (by omega)) rfl rfl rfl ?_
  simp [getN, he]
  have hr1 := run_ct (G := G) hP x E w 400 (by omega) (i64c (by omega))
  have hr2 := run_ct (G := G) hP x L w 400 (by omega) (i64c (by omega))
  refine pCall_pure hr1 rfl rfl rfl ?_
  rw [← hrun] at hr2
  generalize runF x E w 400 = R at *
  obtain ⟨c, s, e⟩ := R
  simp [runOut, iI, getN, splice, f8r12, he, w1]
  refine pCall_pure (own_ct hP L (by omega)) rfl rfl rfl ?_
  simp [getN, he]
  refine pCall_pure hr2 rfl rfl rfl ?_
  simp [runOut, iI, getN, splice, f8r13, he, binF, binI]
  simp only at herr
  rcases herr with rfl | rfl
  · simp
    refine pCall_pure (lives_ct hP) rfl rfl rfl ?_
    simp [retQ, outSt, f8rs, rvals, RArg.val, resPV]
  · simp [binF, binI]
    refine pCall_pure (lives_ct hP) rfl rfl rfl ?_
    simp [retQ, outSt, f8rs, rvals, RArg.val, resPV]
end Go.Absw
