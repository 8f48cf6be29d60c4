/- Contracts of the generators, second part. Conditions: told at each. -/
import Derived.Test.YtpkhdnaeaeiidaaDoorXb
import Derived.Test.YtpkhdnaeaeiidaaDoorTc
set_option linter.unusedSimpArgs false
set_option linter.unusedVariables false

/- Contract of dioramaref09.Schema. -/
namespace Go.Absw
open Go Go.Proofs
set_option maxRecDepth 100000

def kindsN (l : List Int) : Nat → List KindD × Int
  | 0 => ([], 2)
  | j + 1 => ((kindF l (kindsN l j).1 (kindsN l j).2).ks ++ [(kindF l (kindsN l j).1 (kindsN l j).2).k], (kindF l (kindsN l j).1 (kindsN l j).2).i)
theorem kindsN_ok (l : List Int) : ∀ j, j ≤ 3 → (kindsN l j).1.length = j ∧ (∀ k ∈ (kindsN l j).1, KOk k) ∧ 2 ≤ (kindsN l j).2 ∧ (kindsN l j).2 ≤ 2 + 40 * j
  | 0, _ => ⟨rfl, fun k hk => by simp [kindsN] at hk, by simp [kindsN], by simp [kindsN]⟩
  | j + 1, h => by
    obtain ⟨h1, h2, h3, h4⟩ := kindsN_ok l j (by omega)
    obtain ⟨g1, g2, g3, g4, g5, g6⟩ := kindF_ok l (kindsN l j).1 (kindsN l j).2 h2 (by omega)
    refine ⟨by simp [kindsN, g1, h1], fun k hk => ?_, by simp only [kindsN]; omega, by simp only [kindsN]; omega⟩
    simp only [kindsN, List.mem_append, List.mem_singleton] at hk
    rcases hk with hk | rfl
    · exact g2 k hk
    · exact g3
def stNames : List (List UInt8) := [[110, 101, 119], [111, 112, 101, 110], [100, 111, 110, 101], [115, 104, 117, 116]]
def movesF (l : List Int) (m : Nat) (i : Int) : List (Int × Int) :=
  ((List.range (m - 1)).map fun j : Nat => ((j : Int), (j : Int) + 1)) ++ (if atF l (i + 1) 2 = 0 then [(1, 0)] else []) ++ (if atF l (i + 2) 3 = 0 then [(0, (m : Int) - 1)] else [])
def rulesF (l : List Int) : List KindD → List RuleD → Int → List RuleD
  | [], rs, _ => rs
  | k :: t, rs, i => if rs.length < 2 then rulesF l t (if (ruleF l k i).2.1 = true then rs ++ [(ruleF l k i).1] else rs) (ruleF l k i).2.2 else rs
def schN (l : List Int) : Nat := (1 + atF l 1 3).toNat
def schM (l : List Int) : Nat := (2 + atF l (kindsN l (schN l)).2 3).toNat
def schF' (l : List Int) : Sch :=
  ⟨atF l 0 4, (kindsN l (schN l)).1, [⟨bLife, stNames.take (schM l), movesF l (schM l) (kindsN l (schN l)).2⟩], rulesF l (kindsN l (schN l)).1 [] ((kindsN l (schN l)).2 + 3)⟩
def schF (l : List Int) : Sch := schF' (l.take 200)

/-- Two ways meet: the state is brought to a common form. -/
theorem join_k {G : Env} {r : List POp} {c : PArg} {A B rest : PCode} {sl tk : List Nat} {Q Q' : PX → St → Prop} {σ : St} (S : St)
    (hX : pOps G r (pwp G (.cond c A B) (PX.then (fun σ' => keepSt σ' sl tk = S) (fun _ _ => False))) σ) (h : pwp G rest Q S) :
    pOps G r (pwp G (.cond c A B) (PX.then (pwp G (.gh (.keep sl tk) rest) Q) Q')) σ := by
  refine pOps_mono hX fun σ1 h1 => pwp_mono h1 fun e σ' hh => ?_
  cases e with
  | normal =>
    refine ⟨_, rfl, ?_⟩
    have hh' : keepSt σ' sl tk = S := hh
    rw [hh']; exact h
  | exit i => exact hh.elim
  | ret => exact hh.elim
theorem pKindM {G : Env} (hP : G.P = Tryd.prog) {l : List Int} (hl : ∀ n ∈ l, In64 n) {ks : List KindD} (hks : ks.length ≤ 2) {i : Int} (hi : 0 ≤ i ∧ i < 900000) (hn : ∀ k ∈ ks, KOk k) {t e : TypeId}
    {a : List (Nat × PV)} {b : List (Nat × Tok)} {K : St → Prop} {d T U m : Nat} (hm : m = ks.length) (hTU : T ≠ U) (hk : lkK b T = tM t l i) (hk2 : lkK b U = tKs e ks)
    (hK : K (mkSt ((d, .ag ((encKd (kindF l ks i).k).map .f)) :: a) ((T, tM t l (kindF l ks i).i) :: (U, tKs e (kindF l ks i).ks) :: b))) :
    pCall G .f [T, U] [] (some d) [.f (.fn (.func 33)), .ptr T 0 0 0, .ts U 0 m 0] (mkSt a b) K := by
  subst hm
  have hUT : ¬ U = T := fun e => hTU e.symm
  have hf : ∀ k ∈ ks, k.fields.length < 1000 := fun k hk => by obtain ⟨_, _, h⟩ := hn k hk; omega
  refine pCall_tok (kindM_ct hP (t := t) (e := e) hl hks hi hf) rfl ?_ ⟨rfl, rfl⟩ ?_
  · simp [callInp, mDn, pos, encL, hk, hk2, tM, tKs, hUT]
  · simpa [newT, pos, mUp, upC, encL, hk, hk2, tM, tKs, hUT] using hK

theorem pRule {G : Env} (hP : G.P = Tryd.prog) {l : List Int} (hl : ∀ n ∈ l, In64 n) {k : KindD} {i : Int} (hi : 0 ≤ i ∧ i < 900000) (hn : KOk k) {t : TypeId}
    {a : List (Nat × PV)} {b : List (Nat × Tok)} {K : St → Prop} {d T : Nat} (hk : lkK b T = tM t l i)
    (hK : K (mkSt ((d, .tup [.ag ((encRu (ruleF l k i).1).map .f), .f (.bool (ruleF l k i).2.1)]) :: a) ((T, tM t l (ruleF l k i).2.2) :: b))) :
    pCall G .f [T] [] (some d) [.f (.fn (.func 34)), .ptr T 0 0 0, .ag ((encKd k).map .f)] (mkSt a b) K := by
  refine pCall_tok (rule_ct hP (t := t) hl hi (by obtain ⟨_, _, h⟩ := hn; omega) hn.1) rfl ?_ ⟨rfl, rfl⟩ ?_
  · simp [callInp, mDn, pos, encL, hk, tM]
  · simpa [newT, pos, mUp, upC, encL, hk, tM] using hK

theorem ruleF_i (l : List Int) (k : KindD) (i : Int) : i ≤ (ruleF l k i).2.2 ∧ (ruleF l k i).2.2 ≤ i + 3 := by
  have h : i ≤ ruleI k i ∧ ruleI k i ≤ i + 1 := by unfold ruleI; split <;> omega
  unfold ruleF
  split
  · simp; omega
  · split
    · simp; omega
    · split <;> simp <;> omega
theorem schema_ct {G : Env} (hP : G.P = Tryd.prog) {l : List Int} (hl : ∀ n ∈ l, In64 n) (hlen : l.length < 1000000000000000000) :
    CT G 9 ⟨[.f (encL l)], []⟩ ⟨.ag ((encX (schF l)).map .f), [], []⟩ := by
  refine ct_of_body (N := []) (pc := f9pc) (rs := f9rs) (by rw [hP]; exact f9ok) ?_
  rw [entry_mk]
  have hl' : ∀ n ∈ l.take 200, In64 n := fun n hn => hl n (List.take_subset _ _ hn)
  have hmin : (if (200 : Int) < l.length then (200 : Int) else l.length) = (min 200 l.length : Nat) := by split <;> omega
  have hb2 : ((min 200 l.length : Nat) : Int) ≤ l.length := by omega
  have hx : schF l = schF' (l.take 200) := rfl
  have htake : l.take (min 200 l.length) = l.take 200 := by rw [List.take_eq_take_iff]; omega
  rw [hx]
  simp [f9pc, f9r0, f9r1, encL, hmin, bnds, hb2, ← List.map_take, htake]
  generalize l.take 200 = l at *
  have b1 := at_b l 1 (n := 3) (by omega)
  have w1 : IntKind.i64.wrap (1 + atF l 1 3) = 1 + atF l 1 3 := w64 (by omega)
  obtain ⟨n, hn⟩ : ∃ n : Nat, 1 + atF l 1 3 = n := ⟨(1 + atF l 1 3).toNat, by omega⟩
  have hn3 : 1 ≤ n ∧ n ≤ 3 := by omega
  have hsn : schN l = n := by unfold schN; omega
  simp [f9r2]
  refine pTake hP hl' (i := 0) (t := 83) rfl (by omega) (i64c (by omega)) ?_
  simp [f9r3, ghSt]
  refine pTake hP hl' (i := 1) rfl (by omega) (i64c (by omega)) ?_
  have wn : IntKind.i64.wrap (n : Int) = n := w64 (by omega)
  simp [f9r4, binF, binI, w1, hn, wn]
  unfold f9l0
  refine pwp_loop (α := Nat) (fun j => mkSt [(2, .ptr 102 0 0 0), (3, .ptr 119 0 0 0), (4, .ptr 104 0 0 0), (5, .f (iI n)), (6, .f (iI j))]
    [(102, ⟨0, .box 27 false [.f (iI 0), .f .nils, .f .nils, .f .nils]⟩), (104, ⟨0, .box 27 false [.f (iI (atF l 0 4)), .ts 138 0 j 0, .ts 188 0 0 0, .ts 216 0 0 0]⟩), (119, tM 83 l (kindsN l j).2),
     (138, tKs 56 (kindsN l j).1), (188, ⟨0, .row 88 3 0 0 []⟩), (216, ⟨0, .row 91 5 0 0 []⟩)]) (fun j => j ≤ n) (fun j => n - j) 0 (by omega) (by simp [keepSt, iI, tM, tKs, kindsN, encL]) ?_
  · intro j hj
    simp [f9r5, binF, binI, iI]
    refine ccase_i (fun h => ?_) (fun h => ?_)
    · simp at h
      have hw : IntKind.i64.wrap ((j : Int) + 1) = (j : Int) + 1 := w64 (by omega)
      obtain ⟨k1, k2, k3, k4⟩ := kindsN_ok l j (by omega)
      obtain ⟨g1, g2, g3, g4, g5, g6⟩ := kindF_ok l (kindsN l j).1 (kindsN l j).2 k2 (by omega)
      simp [f9r7]
      refine pKindM hP hl' (t := 83) (e := 56) (ks := (kindsN l j).1) (i := (kindsN l j).2) (by omega) (by omega) k2 k1.symm (by omega) rfl rfl ?_
      have htk : List.take j (((kindF l (kindsN l j).1 (kindsN l j).2).ks).map encKd) = ((kindF l (kindsN l j).1 (kindsN l j).2).ks).map encKd := List.take_of_length_le (by simp [g1, k1])
      have hsz : (j + 1) * 56 ≤ 140737488355328 ∧ j + 1 ≤ i64max := by simp [i64max]; omega
      simp [encKd, tKs, tM, g1, k1, hsz, htk, f9r6, binF, binI, hw, keepSt]
      refine ⟨j + 1, by omega, by omega, ?_⟩
      simp [kindsN, encKd]
    · simp at h
      obtain rfl : j = n := by omega
      obtain ⟨k1, k2, k3, k4⟩ := kindsN_ok l j (by omega)
      have hnm : schM l = (2 + atF l (kindsN l j).2 3).toNat := by unfold schM; rw [hsn]
      have hmv : (schF' l).lives = [⟨bLife, stNames.take (schM l), movesF l (schM l) (kindsN l j).2⟩] := by unfold schF'; rw [hsn]
      have hru : (schF' l).rules = rulesF l (kindsN l j).1 [] ((kindsN l j).2 + 3) := by unfold schF'; rw [hsn]
      have hkd : (schF' l).kinds = (kindsN l j).1 := by unfold schF'; rw [hsn]
      have hv : (schF' l).version = atF l 0 4 := rfl
      generalize (kindsN l j).2 = i0 at *
      generalize (kindsN l j).1 = ks at *
      have b2 := at_b l i0 (n := 3) (by omega)
      have w2 : IntKind.i64.wrap (2 + atF l i0 3) = 2 + atF l i0 3 := w64 (by omega)
      obtain ⟨m, hm⟩ : ∃ m : Nat, 2 + atF l i0 3 = m := ⟨(2 + atF l i0 3).toNat, by omega⟩
      have hm4 : 2 ≤ m ∧ m ≤ 4 := by omega
      have hmm : schM l = m := by omega
      have wm : IntKind.i64.wrap (m : Int) = m := w64 (by omega)
      have hmb : (m : Int) ≤ 4 := by omega
      rw [hmm] at hmv
      simp [f9r8, List.replicate]
      refine pTake hP hl' (t := 83) (i := i0) rfl (by omega) (i64c (by omega)) ?_
      simp [binF, binI, hm, wm, bnds, hmb, ghSt, f9r9, f9r10, tM, tKs, hm4.2]
      unfold f9l1
      refine pwp_loop (α := Nat) (fun c => mkSt [(2, .ptr 102 0 0 0), (3, .ptr 119 0 0 0), (4, .ptr 104 0 0 0), (5, .f (iI j)), (7, .ts 140 0 m 0), (8, .ptr 108 0 0 0), (9, .f (iI c))]
        [(102, ⟨0, .box 27 false [.f (iI 0), .f .nils, .f .nils, .f .nils]⟩), (104, ⟨0, .box 27 false [.f (iI (atF l 0 4)), .ts 138 0 j 0, .ts 188 0 0 0, .ts 216 0 0 0]⟩),
         (108, ⟨0, .box 88 false [.f (.str bLife), .f (encS (stNames.take m)), .ts 161 0 c 0]⟩), (119, tM 83 l (i0 + 1)),
         (138, tKs 56 ks), (140, ⟨0, .row 9 1 4 4 (stNames.map fun s => [.str s])⟩), (161, ⟨0, .row 89 2 0 0 ((List.range c).map fun j : Nat => [iI (j : Int), iI ((j : Int) + 1)])⟩), (188, ⟨0, .row 88 3 0 0 []⟩), (216, ⟨0, .row 91 5 0 0 []⟩)])
        (fun c => c ≤ m - 1) (fun c => m - c) 0 (by omega) (by simp [keepSt, iI, tM, tKs, encL, encS, stNames, bLife, List.map_take]) ?_
      · intro c hc
        simp [f9r11, binF, binI, iI]
        have hw : IntKind.i64.wrap ((c : Int) + 1) = (c : Int) + 1 := w64 (by omega)
        rw [hw]
        refine ccase_i (fun h => ?_) (fun h => ?_)
        · have h : c + 1 < m := by simp at h; omega
          have hsz : (c + 1) * 16 ≤ 140737488355328 ∧ c + 1 ≤ i64max := by simp [i64max]; omega
          have htk : List.take c ((List.range c).map fun j : Nat => [FV.int .i64 (j : Int), .int .i64 ((j : Int) + 1)]) = (List.range c).map fun j : Nat => [FV.int .i64 (j : Int), .int .i64 ((j : Int) + 1)] := List.take_of_length_le (by simp)
          simp [f9r12, f9r13, binF, binI, iI, hw, hsz, htk, keepSt, tM, tKs]
          refine ⟨c + 1, by omega, by omega, ?_⟩
          simp [List.range_succ]
        · have h : ¬ c + 1 < m := by simp at h; omega
          obtain rfl : c = m - 1 := by omega
          simp
          -- two more moves
          let S1 (mv : List (Int × Int)) (i : Int) (a : List (Nat × PV)) : St := mkSt (a ++ [(8, .ptr 108 0 0 0)])
            [(102, ⟨0, .box 27 false [.f (iI 0), .f .nils, .f .nils, .f .nils]⟩), (104, ⟨0, .box 27 false [.f (iI (atF l 0 4)), .ts 138 0 j 0, .ts 188 0 0 0, .ts 216 0 0 0]⟩),
             (108, ⟨0, .box 88 false [.f (.str bLife), .f (encS (stNames.take m)), .ts 161 0 mv.length 0]⟩), (119, tM 83 l i),
             (138, tKs 56 ks), (140, ⟨0, .row 9 1 4 4 (stNames.map fun s => [.str s])⟩), (161, ⟨0, .row 89 2 0 0 (mv.map fun m => [iI m.1, iI m.2])⟩), (188, ⟨0, .row 88 3 0 0 []⟩), (216, ⟨0, .row 91 5 0 0 []⟩)]
          let mv0 : List (Int × Int) := (List.range (m - 1)).map fun j : Nat => ((j : Int), (j : Int) + 1)
          have hmv0 : mv0.length = m - 1 := by simp [mv0]
          refine join_k (S1 (mv0 ++ (if atF l (i0 + 1) 2 = 0 then [(1, 0)] else [])) (i0 + 2) [(2, .ptr 102 0 0 0), (3, .ptr 119 0 0 0), (4, .ptr 104 0 0 0), (5, .f (iI j)), (7, .ts 140 0 m 0)]) ?_ ?_
          · simp [f9r14, tM, iI]
            refine pTake hP hl' (t := 83) (i := i0 + 1) rfl (by omega) (i64c (by omega)) ?_
            simp only [show i0 + 1 + 1 = i0 + 2 by omega]
            by_cases ht : atF l (i0 + 1) 2 = 0
            · have hsz : (m - 1 + 1) * 16 ≤ 140737488355328 ∧ m - 1 + 1 ≤ i64max := by simp [i64max]; omega
              have htk : List.take (m - 1) ((List.range (m - 1)).map fun j : Nat => [FV.int .i64 (j : Int), .int .i64 ((j : Int) + 1)]) = (List.range (m - 1)).map fun j : Nat => [FV.int .i64 (j : Int), .int .i64 ((j : Int) + 1)] := List.take_of_length_le (by simp)
              simp [f9r15, binF, binI, ht, hsz, htk, keepSt, S1, mv0, tM, tKs, iI, encL, Function.comp_def]
            · simp [binF, binI, ht, keepSt, S1, mv0, tM, tKs, iI, encL, Function.comp_def]
          have hl1 : (mv0 ++ (if atF l (i0 + 1) 2 = 0 then [(1, 0)] else [])).length ≤ 4 := by
            rw [List.length_append, hmv0]; split <;> simp <;> omega
          have hmF : movesF l m i0 = (mv0 ++ (if atF l (i0 + 1) 2 = 0 then [(1, 0)] else [])) ++ (if atF l (i0 + 2) 3 = 0 then [(0, (m : Int) - 1)] else []) := rfl
          generalize (mv0 ++ (if atF l (i0 + 1) 2 = 0 then [(1, 0)] else [])) = mv at hl1 hmF ⊢
          have wm1 : IntKind.i64.wrap ((m : Int) - 1) = (m : Int) - 1 := w64 (by omega)
          simp only [pwp_seq]
          refine join_k (S1 (movesF l m i0) (i0 + 3) [(2, .ptr 102 0 0 0), (3, .ptr 119 0 0 0), (4, .ptr 104 0 0 0), (5, .f (iI j))]) ?_ ?_
          · rw [hmF]
            simp [f9r16, S1, tM, iI]
            refine pTake hP hl' (t := 83) (i := i0 + 2) rfl (by omega) (i64c (by omega)) ?_
            simp only [show i0 + 2 + 1 = i0 + 3 by omega]
            by_cases ht : atF l (i0 + 2) 3 = 0
            · have hsz : (mv.length + 1) * 16 ≤ 140737488355328 ∧ mv.length + 1 ≤ i64max := by simp [i64max]; omega
              have htk : List.take mv.length (mv.map fun m => [FV.int .i64 m.1, .int .i64 m.2]) = mv.map fun m => [FV.int .i64 m.1, .int .i64 m.2] := List.take_of_length_le (by simp)
              simp [f9r17, binF, binI, ht, hsz, htk, wm1, keepSt, tM, tKs, iI, encL]
            · simp [binF, binI, ht, keepSt, tM, tKs, iI, encL]
          have hl2 : (movesF l m i0).length ≤ 5 := by
            rw [hmF, List.length_append]; split <;> simp <;> omega
          generalize movesF l m i0 = mv2 at *
          have htk2 : List.take mv2.length (mv2.map fun m => [FV.int .i64 m.1, .int .i64 m.2]) = mv2.map fun m => [FV.int .i64 m.1, .int .i64 m.2] := List.take_of_length_le (by simp)
          simp [ghSt, f9r18, f9r19, S1, getN, iI, htk2, i64max, encS, stNames, List.map_take]
          unfold f9l2
          have hfin : ∀ (rs : List RuleD), rulesF l ks [] (i0 + 3) = rs → ((encX (schF' l)).map PV.f) = [.f (iI (atF l 0 4)), .f (.sl 4 (ks.map encKd)), .f (.sl 3 [encLi ⟨bLife, stNames.take m, mv2⟩]), .f (.sl 5 (rs.map encRu))] := by
            intro rs h
            simp [encX, hv, hkd, hmv, hru, h]
          have hstL : FV.sl 1 (List.take m [[FV.str [110, 101, 119]], [.str [111, 112, 101, 110]], [.str [100, 111, 110, 101]], [.str [115, 104, 117, 116]]]) = encS (stNames.take m) := by simp [encS, stNames, List.map_take]
          refine pwp_loop (α := Nat × List RuleD × Int) (fun s => mkSt [(2, .ptr 102 0 0 0), (3, .ptr 119 0 0 0), (4, .ptr 104 0 0 0), (5, .f (iI j)), (10, .f (iI s.1))]
            [(102, ⟨0, .box 27 false [.f (iI 0), .f .nils, .f .nils, .f .nils]⟩), (104, ⟨0, .box 27 false [.f (iI (atF l 0 4)), .ts 138 0 j 0, .ts 188 0 1 0, .ts 216 0 s.2.1.length 0]⟩),
             (119, tM 83 l s.2.2), (138, tKs 56 ks), (188, ⟨0, .row 88 3 0 0 [encLi ⟨bLife, stNames.take m, mv2⟩]⟩), (216, ⟨0, .row 91 5 0 0 (s.2.1.map encRu)⟩)])
            (fun s => s.1 ≤ j ∧ s.2.1.length ≤ 2 ∧ rulesF l (ks.drop s.1) s.2.1 s.2.2 = rulesF l ks [] (i0 + 3) ∧ i0 + 3 ≤ s.2.2 ∧ s.2.2 ≤ i0 + 3 + 3 * s.1) (fun s => j - s.1) (0, [], i0 + 3)
            ⟨by simp, by simp, by simp, by simp, by simp⟩ (by simp [keepSt, iI, tM, tKs, encL, encLi, hstL]) ?_
          rintro ⟨c, rs, i⟩ ⟨hc, hrs, hrF, hi1, hi2⟩
          simp only at hc hrs hrF hi1 hi2
          have hw : IntKind.i64.wrap ((c : Int) + 1) = (c : Int) + 1 := w64 (by omega)
          have exitC : ∀ a, lkS a 2 = .ptr 102 0 0 0 → lkS a 4 = .ptr 104 0 0 0 → rulesF l ks [] (i0 + 3) = rs → pOps G f9r25 (pwp G (PCode.gh (Gh.fz 138) (PCode.gh (Gh.fz 188) (PCode.gh (Gh.fz 216) PCode.ret))) (retQ 0 [] f9rs fun x => x = ⟨.ag ((encX (schF' l)).map .f), [], []⟩))
              (mkSt a [(102, ⟨0, .box 27 false [.f (iI 0), .f .nils, .f .nils, .f .nils]⟩), (104, ⟨0, .box 27 false [.f (iI (atF l 0 4)), .ts 138 0 j 0, .ts 188 0 1 0, .ts 216 0 rs.length 0]⟩),
             (119, tM 83 l i), (138, tKs 56 ks), (188, ⟨0, .row 88 3 0 0 [encLi ⟨bLife, stNames.take m, mv2⟩]⟩), (216, ⟨0, .row 91 5 0 0 (rs.map encRu)⟩)]) := by
            intro a h2 h4 hr
            rw [hfin rs hr]
            have hj0 : ¬ j = 0 := by omega
            have htk3 : List.take j (ks.map encKd) = ks.map encKd := List.take_of_length_le (by simp [k1])
            have htk4 : List.take rs.length (rs.map encRu) = rs.map encRu := List.take_of_length_le (by simp)
            rcases rs with _ | ⟨r1, rs⟩
            · simp [f9r25, h2, h4, getN, ghSt, tKs, k1, hj0]
              simp [retQ, outSt, f9rs, rvals, RArg.val, resPV, h2, h4, getN, ptrFoot, htk3, k1]
            · simp [f9r25, h2, h4, getN, ghSt, tKs, k1, hj0]
              simp at htk4
              simp [retQ, outSt, f9rs, rvals, RArg.val, resPV, h2, h4, getN, ptrFoot, htk3, htk4, k1]
          by_cases hcj : c < j
          · have hck : c < ks.length := by omega
            have hd : ks.drop c = ks[c] :: ks.drop (c + 1) := List.drop_eq_getElem_cons hck
            by_cases hr2 : rs.length < 2
            · rw [hd, rulesF, if_pos hr2] at hrF
              have hcj' : (c : Int) < j := by omega
              have hkc : getN ((encKd ks[c]).map .f) 0 4 = some (.ag ((encKd ks[c]).map .f)) := rfl
              have hlk : (encKd ks[c]).length = 4 := rfl
              have hr2' : (rs.length : Int) < 2 := by omega
              simp [f9r20, f9r22, binF, binI, iI, tKs, hcj, hr2', hck, hkc, hlk]
              refine pRule hP hl' (t := 83) (i := i) (by omega) (k2 _ (List.getElem_mem hck)) rfl ?_
              have hri : i ≤ (ruleF l ks[c] i).2.2 ∧ (ruleF l ks[c] i).2.2 ≤ i + 3 := ruleF_i l _ i
              generalize ruleF l ks[c] i = rr at hrF hri
              by_cases his : rr.2.1 = true
              · rw [if_pos his] at hrF
                have hsz : (rs.length + 1) * 72 ≤ 140737488355328 ∧ rs.length + 1 ≤ i64max := by simp [i64max]; omega
                have htk : List.take rs.length (rs.map encRu) = rs.map encRu := List.take_of_length_le (by simp)
                simp [f9r23, f9r24, f9r21, his, encRu, iI, getN, hsz, htk, binF, binI, hw, keepSt, tM, tKs, encL]
                refine ⟨c + 1, rs ++ [rr.1], rr.2.2, ⟨by omega, by first | omega | (simp; omega), hrF, by omega, by first | omega | (simp; omega)⟩, by first | omega | (simp; omega), by simp [encRu, iI]⟩
              · rw [if_neg his] at hrF
                simp [f9r23, f9r21, his, encRu, iI, getN, binF, binI, hw, keepSt, tM, tKs, encL]
                refine ⟨c + 1, rs, rr.2.2, ⟨by omega, by first | omega | (simp; omega), hrF, by omega, by first | omega | (simp; omega)⟩, by first | omega | (simp; omega), by simp [encRu, iI]⟩
            · rw [hd, rulesF, if_neg hr2] at hrF
              have hr2' : ¬ (rs.length : Int) < 2 := by omega
              simp [f9r20, binF, binI, iI, hcj, hr2']
              exact exitC _ rfl rfl hrF.symm
          · obtain rfl : c = j := by omega
            rw [List.drop_eq_nil_of_le (by omega), rulesF] at hrF
            simp [f9r20, binF, binI, iI]
            exact exitC _ rfl rfl hrF.symm
end Go.Absw

/- Contract of dioramaref19.World. -/
namespace Go.Absw
open Go Go.Proofs
set_option maxRecDepth 100000

def cntF (l : List Int) : Nat → Int
  | 0 => atF l 0 5
  | k + 1 => if cntF l k = 0 then 0 else atF l (k + 1 : Nat) 5
theorem cntF_b (l : List Int) (k : Nat) : 0 ≤ cntF l k ∧ cntF l k < 5 := by
  cases k with
  | zero => exact at_b l 0 (by omega)
  | succ k =>
    unfold cntF
    split
    · omega
    · exact at_b l _ (by omega)
def wMod (l : List Int) : Int := if 1 > (l.length : Int) then 1 else l.length
def valF (x : Sch) (l : List Int) (odd : Bool) (k f : Nat) (at' : Nat) : Int :=
  let p := (at' : Int).tmod (wMod l)
  let up := if (nth0 (nth0 x.kinds k).fields f).kind = 1 then upF x k f else -1
  if 0 ≤ up then
    if odd = true ∧ atF l p 31 = 0 then cntF l up.toNat + (k : Int).tmod 2 * 9 - 9 * (f : Int).tmod 2
    else atF l p (if 1 > cntF l up.toNat then 1 else cntF l up.toNat)
  else atF l p 12 - 2
def nfF (x : Sch) (k : Nat) : Nat := (nth0 x.kinds k).fields.length
def recF (x : Sch) (l : List Int) (odd : Bool) (k nf at' : Nat) : List Int := (List.range nf).map fun f => valF x l odd k f (at' + f)
def listF (x : Sch) (l : List Int) (odd : Bool) (k nf c at' : Nat) : List (List Int) := (List.range c).map fun i => recF x l odd k nf (at' + i * nf)
def atN (x : Sch) (l : List Int) : Nat → Nat
  | 0 => 6
  | k + 1 => atN x l k + (cntF l k).toNat * nfF x k
def worldF (x : Sch) (l : List Int) (odd : Bool) : Wd := (List.range x.kinds.length).map fun k => listF x l odd k (nfF x k) (cntF l k).toNat (atN x l k)

theorem atN_b (x : Sch) (l : List Int) (hf : ∀ k ∈ x.kinds, k.fields.length < 1000) : ∀ k, k ≤ x.kinds.length → 6 ≤ atN x l k ∧ atN x l k ≤ 6 + 4000 * k
  | 0, _ => by simp [atN]
  | k + 1, h => by
    have ih := atN_b x l hf k (by omega)
    have hc := cntF_b l k
    have hn : nfF x k < 1000 := hf _ (nth0_mem x.kinds k ⟨by omega, by omega⟩)
    have hm : (cntF l k).toNat * nfF x k ≤ 4 * 1000 := Nat.mul_le_mul (by omega) (by omega)
    simp only [atN]
    omega

theorem upF_lt (x : Sch) (k f : Nat) : -1 ≤ upF x k f ∧ upF x k f < k := by
  unfold upF
  split
  · omega
  · split
    · omega
    · split
      · omega
      · simp only
        split
        · omega
        · split
          · omega
          · rename_i g _
            have := idxF_lt (fun f => decide (f.name = g.of)) x.kinds
            split
            · omega
            · split
              · omega
              · unfold kindIx at *; omega
section
variable {G : Env} (hP : G.P = Tryd.prog) {x : Sch} {l : List Int} (hl : ∀ n ∈ l, In64 n) (hlen : l.length < 1000000000000000000) (odd : Bool) (hx : x.kinds.length < 1000) (hf : ∀ k ∈ x.kinds, k.fields.length < 1000)
include hP hl hlen hx hf

def wTk (x : Sch) (l : List Int) (r9 r12 : List (List FV)) : List (Nat × Tok) := [(103, ⟨0, .box 27 false ((encX x).map .f)⟩), (107, ⟨0, .row 3 1 0 0 ((List.range x.kinds.length).map fun j => [iI (cntF l j)])⟩),
  (109, ⟨0, .row 59 1 0 0 r9⟩), (112, ⟨0, .row 22 1 0 0 r12⟩)]
def wSl (x : Sch) (l : List Int) (odd : Bool) (at' k i : Nat) : List (Nat × PV) := [(1, .f (encL l)), (2, .f (.bool odd)), (3, .ptr 103 0 0 0), (7, .ts 107 0 x.kinds.length 0), (9, .ts 109 0 k 0), (10, .f (.int .i64 (at' : Int))), (11, .f (.int .i64 (k : Int))),
  (12, .ts 112 0 i 0), (13, .f (.int .i64 (i : Int)))]

theorem w3 (k i at' : Nat) (hk : k < x.kinds.length) (hat : at' < 100000000) (r9 r12 : List (List FV)) {σ : St} {Q : PX → St → Prop}
    (h0 : keepSt σ [1, 2, 3, 7, 9, 10, 11, 12, 13, 14, 15] [103, 107, 109, 112, 114] = mkSt (wSl x l odd at' k i ++ [(14, .ts 114 0 0 0), (15, .f (.int .i64 0))]) (wTk x l r9 r12 ++ [(114, ⟨0, .row 3 1 0 0 []⟩)]))
    (hQ : ∀ a, (∀ n ∈ [1, 2, 3, 7, 9, 10, 11, 12, 13, 14], lkS a n = lkS (wSl x l odd (at' + nfF x k) k i ++ [(14, .ts 114 0 (nfF x k) 0)]) n) → Q .normal (mkSt a (wTk x l r9 r12 ++ [(114, ⟨0, .row 3 1 0 0 ((recF x l odd k (nfF x k) at').map fun n => [iI n])⟩)]))) :
    pwp G (.loop f10l3) (PX.inBlock 6 Q) σ := by
  have hn : nfF x k < 1000 := hf _ (nth0_mem x.kinds k ⟨by omega, by omega⟩)
  unfold f10l3
  refine pwp_loop (α := Nat) (fun f => mkSt (wSl x l odd (at' + f) k i ++ [(14, .ts 114 0 f 0), (15, .f (.int .i64 (f : Int)))]) (wTk x l r9 r12 ++ [(114, ⟨0, .row 3 1 0 0 ((recF x l odd k f at').map fun n => [iI n])⟩)]))
    (fun f => f ≤ nfF x k) (fun f => nfF x k - f) 0 (by omega) (by simpa [recF] using h0) ?_
  intro f hf'
  have hkn : nth (x.kinds.map encKd) (k : Int) = some (encKd (nth0 x.kinds k)) := by
    have := pickI encKd x.kinds (k : Int) ⟨by omega, by omega⟩
    unfold nth; rw [if_pos (by omega)]; exact this
  simp [f10r19, wSl, wTk, binF, binI, encX, iI, hkn, encKd]
  refine ccase_i (fun h => ?_) (fun h => ?_)
  · simp at h
    have h' : f < (nth0 x.kinds k).fields.length := h
    have hnf : nfF x k = (nth0 x.kinds k).fields.length := rfl
    have hmax : (if (l.length : Int) < 1 then (1 : Int) else l.length) = wMod l := rfl
    have hm0 : 1 ≤ wMod l := by unfold wMod; split <;> omega
    have hm1 : ¬ wMod l = 0 := by omega
    have hmh : wMod l ≤ 1000000000000000000 := by unfold wMod; split <;> omega
    have hp0 : 0 ≤ ((at' : Int) + f).tmod (wMod l) := Int.tmod_nonneg _ (by omega)
    have hp1 : ((at' : Int) + f).tmod (wMod l) < wMod l := Int.tmod_lt_of_pos _ (by omega)
    have hval : valF x l odd k f (at' + f) = (if 0 ≤ (if (nth0 (nth0 x.kinds k).fields f).kind = 1 then upF x k f else -1) then
        if odd = true ∧ atF l (((at' : Int) + f).tmod (wMod l)) 31 = 0 then cntF l (if (nth0 (nth0 x.kinds k).fields f).kind = 1 then upF x k f else -1).toNat + (k : Int).tmod 2 * 9 - 9 * (f : Int).tmod 2
        else atF l (((at' : Int) + f).tmod (wMod l)) (if 1 > cntF l (if (nth0 (nth0 x.kinds k).fields f).kind = 1 then upF x k f else -1).toNat then 1 else cntF l (if (nth0 (nth0 x.kinds k).fields f).kind = 1 then upF x k f else -1).toNat)
      else atF l (((at' : Int) + f).tmod (wMod l)) 12 - 2) := rfl
    generalize hp : ((at' : Int) + f).tmod (wMod l) = p at hp0 hp1 hval
    have b12 := at_b l p (n := 12) (by omega)
    have w12 : IntKind.i64.wrap (atF l p 12 - 2) = atF l p 12 - 2 := w64 (by omega)
    have hfn : nth ((nth0 x.kinds k).fields.map encF) (f : Int) = some (encF (nth0 (nth0 x.kinds k).fields f)) := by
      have := pickI encF (nth0 x.kinds k).fields (f : Int) ⟨by omega, by omega⟩
      unfold nth; rw [if_pos (by omega)]; exact this
    generalize hfd : nth0 (nth0 x.kinds k).fields f = fd at *
    simp [f10r21, binF, binI, encL, hmax, hm1, hp]
    refine pCall_pure (at_ct hP l hl p 12 (i64c (by omega)) (i64c (by omega))) rfl (by simp) rfl ?_
    simp [iI, binF, binI, w12, f10r22]
    refine join_k (mkSt (wSl x l odd (at' + f) k i ++ [(14, .ts 114 0 f 0), (15, .f (.int .i64 (f : Int))), (16, .f (.int .i64 (atF l p 12 - 2))), (17, .f (.int .i64 (if fd.kind = 1 then upF x k f else -1)))]) (wTk x l r9 r12 ++ [(114, ⟨0, .row 3 1 0 0 ((recF x l odd k f at').map fun n => [iI n])⟩)])) ?_ ?_
    · by_cases h1 : fd.kind = 1
      · simp [f10r23, f10r24, hkn, encKd, hfn, encF, iI, binF, binI, h1, getN]
        refine pCall_pure (upX_ct hP (x := x) (kind := k) (field := f) (by omega) (fun k hk => by have := hf k hk; omega)) rfl (by simp) rfl ?_
        simp [keepSt, wSl, wTk, h1, iI, encX, encL]
      · simp [f10r23, hkn, encKd, hfn, encF, iI, binF, binI, h1]
        simp [keepSt, wSl, wTk, h1, iI, encX, encL]
    generalize hup : (if fd.kind = 1 then upF x k f else -1) = up at hval ⊢
    simp only [pwp_seq]
    refine join_k (mkSt (wSl x l odd (at' + f) k i ++ [(14, .ts 114 0 f 0), (15, .f (.int .i64 (f : Int))), (16, .f (.int .i64 (valF x l odd k f (at' + f))))]) (wTk x l r9 r12 ++ [(114, ⟨0, .row 3 1 0 0 ((recF x l odd k f at').map fun n => [iI n])⟩)])) ?_ ?_
    · rw [hval]
      by_cases hu : 0 ≤ up
      case neg =>
        rw [if_neg hu]
        simp [f10r25, wSl, wTk, binF, binI, hu]
        simp [keepSt, iI, encX, encL]
      rw [if_pos hu]
      have hun : up < x.kinds.length := by
        have := upF_lt x k f
        rw [← hup] at hu ⊢
        split
        · omega
        · omega
      have hlt : up.toNat < x.kinds.length := by omega
      have hc := cntF_b l up.toNat
      have hmb : 1 ≤ (if 1 > cntF l up.toNat then 1 else cntF l up.toNat) ∧ (if 1 > cntF l up.toNat then 1 else cntF l up.toNat) ≤ 5 := by split <;> omega
      generalize hcm : (if 1 > cntF l up.toNat then 1 else cntF l up.toNat) = cm at hmb ⊢
      have hmx : (if cntF l up.toNat < 1 then (1 : Int) else cntF l up.toNat) = cm := hcm
      simp [f10r25, f10r26, wSl, wTk, binF, binI, hu, hun, hlt, encL, hmax, hm1, hp, iI, hmx]
      refine pCall_pure (at_ct hP l hl p cm (i64c (by omega)) (i64c (by omega))) rfl (by simp) rfl ?_
      simp
      cases odd with
      | false =>
        simp [f10r27, binF, binI]
        simp [keepSt, iI, encX, encL]
      | true =>
        simp [f10r27, binF, binI, hmax, hm1, hp, encL]
        refine pCall_pure (at_ct hP l hl p 31 (i64c (by omega)) (i64c (by omega))) rfl (by simp) rfl ?_
        by_cases h31 : atF l p 31 = 0
        case neg =>
          simp [binF, binI, iI, h31]
          simp [keepSt, iI, encX, encL]
        have m1 : 0 ≤ (k : Int).tmod 2 ∧ (k : Int).tmod 2 < 2 := ⟨Int.tmod_nonneg _ (by omega), Int.tmod_lt_of_pos _ (by omega)⟩
        have m2 : 0 ≤ (f : Int).tmod 2 ∧ (f : Int).tmod 2 < 2 := ⟨Int.tmod_nonneg _ (by omega), Int.tmod_lt_of_pos _ (by omega)⟩
        have v1 : IntKind.i64.wrap ((k : Int).tmod 2 * 9) = (k : Int).tmod 2 * 9 := w64 (by omega)
        have v2 : IntKind.i64.wrap (9 * (f : Int).tmod 2) = 9 * (f : Int).tmod 2 := w64 (by omega)
        have v3 : IntKind.i64.wrap (cntF l up.toNat + (k : Int).tmod 2 * 9) = cntF l up.toNat + (k : Int).tmod 2 * 9 := w64 (by omega)
        have v4 : IntKind.i64.wrap (cntF l up.toNat + (k : Int).tmod 2 * 9 - 9 * (f : Int).tmod 2) = cntF l up.toNat + (k : Int).tmod 2 * 9 - 9 * (f : Int).tmod 2 := w64 (by omega)
        simp [binF, binI, iI, h31, f10r28, hu, hun, hlt, v1, v2, v3, v4]
        simp [keepSt, iI, encX, encL]
    · have hsz : (f + 1) * 8 ≤ 140737488355328 ∧ f + 1 ≤ i64max := by simp [i64max]; omega
      have htk : List.take f ((recF x l odd k f at').map fun n => [FV.int .i64 n]) = (recF x l odd k f at').map fun n => [FV.int .i64 n] := List.take_of_length_le (by simp [recF])
      have hw1 : IntKind.i64.wrap ((f : Int) + 1) = (f : Int) + 1 := w64 (by omega)
      have hw2 : IntKind.i64.wrap ((at' : Int) + f + 1) = (at' : Int) + f + 1 := w64 (by omega)
      have hlr : (recF x l odd k f at').length = f := by simp [recF]
      simp [f10r29, f10r30, f10r20, wSl, wTk, binF, binI, iI, hsz, htk, hw1, hw2, hlr]
      refine ⟨f + 1, by omega, by omega, ?_⟩
      simp [keepSt, recF, List.range_succ, encX, iI, encL, Int.add_assoc]
  · simp at h
    have h' : ¬ f < nfF x k := by unfold nfF; omega
    obtain rfl : f = nfF x k := by omega
    simp
    exact hQ _ (by simp [wSl])

theorem w2 (k at' : Nat) (hk : k < x.kinds.length) (hat : at' < 50000000) (r9 : List (List FV)) {σ : St} {Q : PX → St → Prop}
    (h0 : keepSt σ [1, 2, 3, 7, 9, 10, 11, 12, 13] [103, 107, 109, 112] = mkSt (wSl x l odd at' k 0) (wTk x l r9 []))
    (hQ : ∀ a, (∀ n ∈ [1, 2, 3, 7, 9, 10, 11, 12, 13], lkS a n = lkS (wSl x l odd (at' + (cntF l k).toNat * nfF x k) k (cntF l k).toNat) n) → Q .normal (mkSt a (wTk x l r9 ((listF x l odd k (nfF x k) (cntF l k).toNat at').map fun r => [encL r])))) :
    pwp G (.loop f10l2) (PX.inBlock 4 Q) σ := by
  have hn : nfF x k < 1000 := hf _ (nth0_mem x.kinds k ⟨by omega, by omega⟩)
  have hc := cntF_b l k
  obtain ⟨c, hcc⟩ : ∃ c : Nat, cntF l k = c := ⟨(cntF l k).toNat, by omega⟩
  rw [hcc, Int.toNat_natCast] at hQ
  unfold f10l2
  refine pwp_loop (α := Nat) (fun i => mkSt (wSl x l odd (at' + i * nfF x k) k i) (wTk x l r9 ((listF x l odd k (nfF x k) i at').map fun r => [encL r])))
    (fun i => i ≤ c) (fun i => c - i) 0 (by omega) (by simpa [listF] using h0) ?_
  intro i hi
  have hin : i * nfF x k ≤ 5 * 1000 := Nat.mul_le_mul (by omega) (by omega)
  have hkl : k < x.kinds.length := hk
  have hcg : ((List.range x.kinds.length).map fun j => [FV.int .i64 (cntF l j)])[k]? = some [FV.int .i64 (c : Int)] := by simp [hk, hcc]
  simp [f10r15, wSl, wTk, binF, binI, iI, hk, hcg, hcc]
  refine ccase_i (fun h => ?_) (fun h => ?_)
  · simp at h
    simp [f10r17, f10r18, ghSt]
    refine w3 hP hl hlen odd hx hf k i (at' + i * nfF x k) hk (by omega) r9 ((listF x l odd k (nfF x k) i at').map fun r => [encL r]) ?_ (fun a ha => ?_)
    · simp [keepSt, wSl, wTk, encX, encL, iI]
    · have hsz : (i + 1) * 24 ≤ 140737488355328 ∧ i + 1 ≤ i64max := by simp [i64max]; omega
      have hw : IntKind.i64.wrap ((i : Int) + 1) = (i : Int) + 1 := w64 (by omega)
      have hll : (listF x l odd k (nfF x k) i at').length = i := by simp [listF]
      have hlr : (recF x l odd k (nfF x k) (at' + i * nfF x k)).length = nfF x k := by simp [recF]
      have htk : List.take i ((listF x l odd k (nfF x k) i at').map fun r => [encL r]) = (listF x l odd k (nfF x k) i at').map fun r => [encL r] := List.take_of_length_le (by simp [hll])
      have htk2 : List.take (nfF x k) ((recF x l odd k (nfF x k) (at' + i * nfF x k)).map fun n => [iI n]) = (recF x l odd k (nfF x k) (at' + i * nfF x k)).map fun n => [iI n] := List.take_of_length_le (by simp [hlr])
      simp [wSl] at ha
      obtain ⟨a1, a2, a3, a7, a9, a10, a11, a12, a13, a14⟩ := ha
      simp [wTk, ghSt, f10r31, a1, a2, a3, a7, a9, a10, a11, a12, a13, a14, hsz, hll, hlr, htk, htk2, f10r16, binF, binI, hw, keepSt]
      refine ⟨i + 1, by omega, by omega, ?_⟩
      simp [listF, List.range_succ, iI, encL, Int.add_mul, Int.add_assoc]
  · simp at h
    obtain rfl : i = c := by omega
    simp
    exact hQ _ (by simp [wSl])
end

theorem world_ct {G : Env} (hP : G.P = Tryd.prog) {x : Sch} {l : List Int} (hl : ∀ n ∈ l, In64 n) (hlen : l.length < 1000000000000000000) (odd : Bool) (hx : x.kinds.length < 1000) (hf : ∀ k ∈ x.kinds, k.fields.length < 1000) :
    CT G 10 ⟨[.ag ((encX x).map .f), .f (encL l), .f (.bool odd)], []⟩ ⟨.f (encW (worldF x l odd)), [], []⟩ := by
  refine ct_of_body (N := []) (pc := f10pc) (rs := f10rs) (by rw [hP]; exact f10ok) ?_
  rw [entry_mk]
  have he : (encX x).length = 4 := rfl
  simp [f10pc, f10r0, f10r1, f10r2, he, ghSt]
  unfold f10l0
  refine pwp_loop (α := Nat) (fun k => mkSt [(1, .f (encL l)), (2, .f (.bool odd)), (3, .ptr 103 0 0 0), (7, .ts 107 0 k 0), (8, .f (iI k))]
    [(103, ⟨0, .box 27 false ((encX x).map .f)⟩), (107, ⟨0, .row 3 1 0 0 ((List.range k).map fun j => [iI (cntF l j)])⟩)]) (fun k => k ≤ x.kinds.length) (fun k => x.kinds.length - k) 0 (by omega) (by simp [keepSt, iI, encL]) ?_
  · intro k hk
    simp [f10r3, binF, binI, iI, encX]
    refine ccase_i (fun h => ?_) (fun h => ?_)
    · simp at h
      have hw : IntKind.i64.wrap ((k : Int) + 1) = (k : Int) + 1 := w64 (by omega)
      have hsz : (k + 1) * 8 ≤ 140737488355328 ∧ k + 1 ≤ i64max := by simp [i64max]; omega
      have htk : List.take k ((List.range k).map fun j => [FV.int .i64 (cntF l j)]) = (List.range k).map fun j => [FV.int .i64 (cntF l j)] := List.take_of_length_le (by simp)
      simp [f10r5, encL]
      refine pCall_pure (at_ct hP l hl k 5 (i64c (by omega)) (i64c (by omega))) rfl (by simp) rfl ?_
      simp [iI, hsz, htk]
      cases k with
      | zero =>
        simp [f10r6, binF, binI, f10r4, keepSt]
        exact ⟨1, by omega, by omega, by simp [List.range_succ, cntF]; rfl⟩
      | succ k =>
        have hk1 : IntKind.i64.wrap (k : Int) = (k : Int) := w64 (by omega)
        have hlt2 : (k : Int) < (k : Int) + 1 + 1 := by omega
        have hw' : IntKind.i64.wrap ((k : Int) + 1 + 1) = (k : Int) + 1 + 1 := w64 (by omega)
        have hpos : (0 : Int) < (k : Int) + 1 := by omega
        have hg : (((List.range (k + 1)).map fun j => [FV.int .i64 (cntF l j)]) ++ [[FV.int .i64 (atF l ((k : Int) + 1) 5)]])[k]? = some [FV.int .i64 (cntF l k)] := by
          rw [List.getElem?_append_left (by simp)]; simp
        by_cases h0 : cntF l k = 0
        · have h3 : (0 : Int) ≤ (k : Int) + 1 := by omega
          have h4 : (k : Int) < (k : Int) + 1 := by omega
          have hg2 : (((List.range (k + 1)).map fun j => [FV.int .i64 (cntF l j)]) ++ [[FV.int .i64 (atF l ((k : Int) + 1) 5)]])[k + 1]? = some [FV.int .i64 (atF l ((k : Int) + 1) 5)] := by
            rw [List.getElem?_append_right (by simp)]; simp
          have hset : (((List.range (k + 1)).map fun j => [FV.int .i64 (cntF l j)]) ++ [[FV.int .i64 (atF l ((k : Int) + 1) 5)]]).set (k + 1) [FV.int .i64 0] = ((List.range (k + 1)).map fun j => [FV.int .i64 (cntF l j)]) ++ [[FV.int .i64 0]] := by
            rw [List.set_append_right _ _ (by simp)]; simp
          have hc : cntF l (k + 1) = 0 := by rw [cntF, if_pos h0]
          simp [f10r6, f10r7, binF, binI, hk1, hlt2, hpos, hg, h0, h3, h4, hg2, hset, f10r4, keepSt, hw']
          exact ⟨k + 1 + 1, by omega, by omega, by simp [List.range_succ, hc]⟩
        · have hc : cntF l (k + 1) = atF l ((k : Int) + 1) 5 := by rw [cntF, if_neg h0]; rfl
          simp [f10r6, binF, binI, hk1, hlt2, hpos, hg, h0, f10r4, keepSt, hw']
          exact ⟨k + 1 + 1, by omega, by omega, by simp [List.range_succ, hc]⟩
    · simp at h
      obtain rfl : k = x.kinds.length := by omega
      simp [f10r8, f10r9, f10r10, ghSt]
      unfold f10l1
      refine pwp_loop (α := Nat) (fun k => mkSt [(1, .f (encL l)), (2, .f (.bool odd)), (3, .ptr 103 0 0 0), (7, .ts 107 0 x.kinds.length 0), (9, .ts 109 0 k 0), (10, .f (iI (atN x l k))), (11, .f (iI k))]
        [(103, ⟨0, .box 27 false ((encX x).map .f)⟩), (107, ⟨0, .row 3 1 0 0 ((List.range x.kinds.length).map fun j => [iI (cntF l j)])⟩),
         (109, ⟨0, .row 59 1 0 0 ((List.range k).map fun k => [encK (listF x l odd k (nfF x k) (cntF l k).toNat (atN x l k))])⟩)]) (fun k => k ≤ x.kinds.length) (fun k => x.kinds.length - k) 0 (by omega) (by simp [keepSt, iI, encL, encX, atN]) ?_
      intro k hk
      simp [f10r11, binF, binI, iI, encX]
      refine ccase_i (fun h => ?_) (fun h => ?_)
      · simp at h
        have hw : IntKind.i64.wrap ((k : Int) + 1) = (k : Int) + 1 := w64 (by omega)
        have hab := atN_b x l hf k (by omega)
        simp [f10r13, f10r14, ghSt]
        refine w2 hP hl hlen odd hx hf k (atN x l k) h (by omega) ((List.range k).map fun k => [encK (listF x l odd k (nfF x k) (cntF l k).toNat (atN x l k))]) (by simp [keepSt, wSl, wTk, encX, encL, iI]) (fun a ha => ?_)
        have hsz : (k + 1) * 24 ≤ 140737488355328 ∧ k + 1 ≤ i64max := by simp [i64max]; omega
        have hll : (listF x l odd k (nfF x k) (cntF l k).toNat (atN x l k)).length = (cntF l k).toNat := by simp [listF]
        have htk : List.take k ((List.range k).map fun k => [encK (listF x l odd k (nfF x k) (cntF l k).toNat (atN x l k))]) = (List.range k).map fun k => [encK (listF x l odd k (nfF x k) (cntF l k).toNat (atN x l k))] := List.take_of_length_le (by simp)
        have htk2 : List.take (cntF l k).toNat ((listF x l odd k (nfF x k) (cntF l k).toNat (atN x l k)).map fun r => [encL r]) = (listF x l odd k (nfF x k) (cntF l k).toNat (atN x l k)).map fun r => [encL r] := List.take_of_length_le (by simp [hll])
        simp [wSl] at ha
        obtain ⟨a1, a2, a3, a7, a9, a10, a11, a12, a13⟩ := ha
        simp [wTk, ghSt, f10r32, a1, a2, a3, a7, a9, a10, a11, a12, a13, hsz, hll, htk, htk2, f10r12, binF, binI, hw, keepSt]
        refine ⟨k + 1, by omega, by omega, ?_⟩
        simp [List.range_succ, encK, encX, atN, iI]
      · simp at h
        obtain rfl : k = x.kinds.length := by omega
        have htk3 : List.take x.kinds.length ((List.range x.kinds.length).map fun k => [encK (listF x l odd k (nfF x k) (cntF l k).toNat (atN x l k))]) = (List.range x.kinds.length).map fun k => [encK (listF x l odd k (nfF x k) (cntF l k).toNat (atN x l k))] := List.take_of_length_le (by simp)
        simp [f10r33, ghSt]
        simp [retQ, outSt, f10rs, rvals, RArg.val, resPV, htk3, encW, worldF, Function.comp_def]
end Go.Absw

/- Contracts of dioramaref29's loop and Program. -/
namespace Go.Absw
open Go Go.Proofs
set_option maxRecDepth 100000

def loopF (kind field up g op n code : Int) : List Ins :=
  [⟨4, 1, kind, 0⟩, ⟨1, 2, 1, 0⟩, ⟨1, 5, n, 0⟩, ⟨8, 0, 1, if 0 ≤ up then 11 else 10⟩, ⟨2, 4, 0, 7⟩, ⟨5, 4, kind, field⟩] ++ (if 0 ≤ up then [⟨5, 4, up, g⟩] else []) ++
  [⟨2, 0, 0, 2⟩, ⟨op, 4, 5, if 0 ≤ up then 10 else 9⟩, ⟨6, 3, 0, 0⟩, ⟨0, code, 0, 0⟩]

theorem loop_ct {G : Env} (hP : G.P = Tryd.prog) {kind field up g op n code : Int} :
    CT G 37 ⟨[.f (.int .i64 kind), .f (.int .i64 field), .f (.int .i64 up), .f (.int .i64 g), .f (.int .i64 op), .f (.int .i64 n), .f (.int .i64 code)], []⟩
      ⟨.ts 0 0 (loopF kind field up g op n code).length 0, [], [⟨0, .row 58 4 0 0 ((loopF kind field up g op n code).map encI)⟩]⟩ := by
  refine ct_of_body (N := [127]) (pc := f37pc) (rs := f37rs) (by rw [hP]; exact f37ok) ?_
  rw [entry_mk]
  by_cases h : 0 ≤ up
  · simp [f37pc, f37r0, f37r1, f37r2, f37r3, f37r4, f37r5, f37r6, binF, binI, h, List.replicate, i64max, keepSt]
    have e1 : IntKind.i64.wrap 10 = 10 := by decide
    simp [retQ, outSt, f37rs, rvals, RArg.val, resPV, loopF, h, encI, iI, oM, pos, e1]
  · simp [f37pc, f37r0, f37r1, f37r2, f37r3, f37r4, f37r5, f37r6, binF, binI, h, List.replicate, i64max, keepSt]
    have e1 : IntKind.i64.wrap 9 = 9 := by decide
    simp [retQ, outSt, f37rs, rvals, RArg.val, resPV, loopF, h, encI, iI, oM, pos, e1]

theorem nthM {α β : Type} [Inhabited α] (g : α → β) (c : List α) (j : Int) (h : 0 ≤ j ∧ j < c.length) : nth (c.map g) j = some (g (nth0 c j)) := by
  have := pickI g c j h
  unfold nth; rw [if_pos h.1]; exact this
theorem mid_get {α : Type} (f : α → α) (q : List α) (i : Nat) (h : i < q.length) : ((q.take i).map f ++ q.drop i)[i]? = some q[i] := by
  rw [List.getElem?_append_right (by rw [List.length_map, List.length_take]; omega), List.length_map, List.length_take, List.getElem?_drop]
  have : i + (i - min i q.length) = i := by omega
  rw [this]; exact List.getElem?_eq_getElem h
theorem set_same {α : Type} {l : List α} {i : Nat} {a : α} (h : l[i]? = some a) : l.set i a = l := by
  obtain ⟨hlt, rfl⟩ := List.getElem?_eq_some_iff.1 h
  exact List.set_getElem_self hlt
theorem mid_set {α : Type} (f : α → α) (q : List α) (i : Nat) (h : i < q.length) : ((q.take i).map f ++ q.drop i).set i (f q[i]) = (q.take (i + 1)).map f ++ q.drop (i + 1) := by
  have e : i - ((q.take i).map f).length = 0 := by rw [List.length_map, List.length_take]; omega
  rw [List.set_append_right _ _ (by rw [List.length_map, List.length_take]; omega), e, List.drop_eq_getElem_cons h, List.set_cons_zero, List.take_add_one, List.getElem?_eq_getElem h, List.map_append, List.append_assoc]
  rfl
theorem mid_len {α : Type} (f : α → α) (q : List α) (i : Nat) (h : i ≤ q.length) : ((q.take i).map f ++ q.drop i).length = q.length := by
  rw [List.length_append, List.length_map, List.length_take, List.length_drop]; omega
def shift3 (i : Ins) : Ins := ⟨i.op, if i.op = 6 then i.a + 3 else i.a, i.b, if i.op = 7 ∨ i.op = 8 then i.c + 3 else i.c⟩
/-- The rows of a program of which the first i instructions are shifted. -/
def mixF (q : List Ins) (i : Nat) : List (List FV) := ((q.take i).map shift3 ++ q.drop i).map encI
theorem mixF_get (q : List Ins) (i : Nat) (h : i < q.length) : (mixF q i)[i]? = some (encI q[i]) := by unfold mixF; rw [List.getElem?_map, mid_get shift3 q i h]; rfl
theorem mixF_set (q : List Ins) (i : Nat) (h : i < q.length) : (mixF q i).set i (encI (shift3 q[i])) = mixF q (i + 1) := by unfold mixF; rw [← List.map_set, mid_set shift3 q i h]
theorem mixF_len (q : List Ins) (i : Nat) (h : i ≤ q.length) : (mixF q i).length = q.length := by unfold mixF; rw [List.length_map, mid_len shift3 q i h]
theorem mixF_zero (q : List Ins) : mixF q 0 = q.map encI := by simp [mixF]
theorem mixF_end (q : List Ins) (i : Nat) (h : q.length ≤ i) : mixF q i = (q.map shift3).map encI := by
  unfold mixF; rw [List.drop_eq_nil_of_le h, List.take_of_length_le h, List.append_nil]
def numF (l : List Int) (k f many : Int) (i : Nat) (o : Int) (j : Nat) : Int :=
  let m := atF l (8 + 4 * (i : Int) + (j : Int)) 720
  let t := sortAt o.toNat j
  if t = 1 then m.tmod 4 else if t = 2 then m.tmod 8 else if t = 3 then m.tmod 9 - 2 else if t = 4 then k else if t = 5 then f else if t = 6 then m.tmod (many + 1) else 0
def insF (l : List Int) (k f many : Int) (i : Nat) : Ins :=
  let o := atF l (7 + 4 * (i : Int)) 9
  ⟨o, numF l k f many i o 0, numF l k f many i o 1, numF l k f many i o 2⟩
def progK (x : Sch) (l : List Int) : Int := atF l 0 x.kinds.length
def progFd (x : Sch) (l : List Int) : Int := atF l 1 (nth0 x.kinds (progK x l)).fields.length
def progUp (x : Sch) (l : List Int) : Int := if (nth0 (nth0 x.kinds (progK x l)).fields (progFd x l)).kind = 1 then upF x (progK x l) (progFd x l) else -1
def progF (x : Sch) (l : List Int) : List Ins :=
  let k := progK x l
  let f := progFd x l
  let n := atF l 2 12 - 2
  let code := 1 + atF l 3 3
  let op := 7 + atF l 4 2
  let c := atF l 5 6
  if c = 0 then [⟨4, 1, k, 0⟩, ⟨1, 2, (if 1 > n then 1 else n).tmod 5, 0⟩, ⟨7, 1, 2, 4⟩, ⟨0, code, 0, 0⟩]
  else if c = 1 then [⟨4, 6, atF l 6 x.kinds.length, 0⟩, ⟨1, 5, 1 + atF l 7 3, 0⟩, ⟨7, 6, 5, 13⟩] ++ (loopF k f (-1) 0 op n code).map shift3
  else if c = 2 then (List.range (atF l 6 9).toNat).map (insF l k f (atF l 6 9))
  else if c = 3 then loopF k f (progUp x l) (if 0 ≤ progUp x l then atF l 6 (nth0 x.kinds (progUp x l)).fields.length else 0) op n code
  else loopF k f (-1) 0 op n code

/-- A call of loop. -/
theorem pLoop {G : Env} (hP : G.P = Tryd.prog) {kind field up g op n code : Int} {a : List (Nat × PV)} {b : List (Nat × Tok)} {K : St → Prop} {d T : Nat} (hb : lkK b T = ⟨0, .gone⟩)
    (hK : K (mkSt ((d, .ts T 0 (loopF kind field up g op n code).length 1) :: a) ((T, ⟨1, .row 58 4 0 0 ((loopF kind field up g op n code).map encI)⟩) :: b))) :
    pCall G .f [] [T] (some d) [.f (.fn (.func 37)), .f (.int .i64 kind), .f (.int .i64 field), .f (.int .i64 up), .f (.int .i64 g), .f (.int .i64 op), .f (.int .i64 n), .f (.int .i64 code)] (mkSt a b) K := by
  refine pCall_tok (loop_ct hP (kind := kind) (field := field) (up := up) (g := g) (op := op) (n := n) (code := code)) rfl ?_ ⟨rfl, rfl⟩ ?_
  · simp [callInp]
  · simpa [newT, pos, mUp, upC, hb] using hK

theorem upF_lt' (x : Sch) (k f : Int) (hk : 0 ≤ k) : -1 ≤ upF x k f ∧ (upF x k f < k ∨ upF x k f = -1) := by
  by_cases hf : 0 ≤ f
  · have := upF_lt x k.toNat f.toNat
    rw [Int.toNat_of_nonneg hk, Int.toNat_of_nonneg hf] at this
    omega
  · have : hasF x k f = false := by simp [hasF]; omega
    unfold upF
    rw [if_pos this]; omega
section
variable {G : Env} (hP : G.P = Tryd.prog) {x : Sch} {l : List Int}
include hP

theorem progLast (a : List (Nat × PV)) (b : List (Nat × Tok)) (k f up g op n code : Int) (h5 : lkS a 5 = .f (.int .i64 k)) (h6 : lkS a 6 = .f (.int .i64 f)) (h10 : lkS a 10 = .f (.int .i64 up)) (h11 : lkS a 11 = .f (.int .i64 g))
    (h9 : lkS a 9 = .f (.int .i64 op)) (h7 : lkS a 7 = .f (.int .i64 n)) (h8 : lkS a 8 = .f (.int .i64 code)) (hb : b = [(102, ⟨1, .box 27 false ((encX x).map .f)⟩)]) (hr : progF x l = loopF k f up g op n code) :
    pwp G (.seq (.region f11r57 []) (.gh (.fz 116) (.gh (.fz 159) (.gh (.fz 174) (.gh (.fz 340) (.ret)))))) (retQ 0 [] f11rs (· = ⟨.f (encP (progF x l)), [], []⟩)) (mkSt a b) := by
  subst hb
  rw [hr]
  simp [f11r57, h5, h6, h7, h8, h9, h10, h11]
  refine pLoop hP rfl ?_
  have htk : List.take (loopF k f up g op n code).length ((loopF k f up g op n code).map encI) = (loopF k f up g op n code).map encI := List.take_of_length_le (by simp)
  simp [ghSt, retQ, outSt, f11rs, rvals, RArg.val, resPV, htk, encP]

end

section
variable {G : Env} (hP : G.P = Tryd.prog) {l : List Int} (hl : ∀ n ∈ l, In64 n)
include hP hl

theorem pr2 (k f : Int) (many : Nat) (i : Nat) (o : Int) (hm : many ≤ 8) (hi : i < many) (ho : 0 ≤ o ∧ o < 9) (r16 : List (List FV)) {σ : St} {Q : PX → St → Prop}
    (h0 : keepSt σ [1, 5, 6, 16, 17, 18, 19, 20, 21] [116, 120] = mkSt [(1, .f (encL l)), (5, .f (.int .i64 k)), (6, .f (.int .i64 f)), (16, .ts 116 0 i 0), (17, .f (.int .i64 (many : Int))), (18, .f (.int .i64 (i : Int))), (19, .f (.int .i64 o)), (20, .ts 120 0 0 0), (21, .f (.int .i64 0))]
      [(116, ⟨0, .row 58 4 0 0 r16⟩), (120, ⟨0, .row 3 1 0 0 []⟩)])
    (hQ : ∀ a, (∀ n ∈ [1, 5, 6, 16, 17, 18, 19, 20], lkS a n = lkS [(1, .f (encL l)), (5, .f (.int .i64 k)), (6, .f (.int .i64 f)), (16, .ts 116 0 i 0), (17, .f (.int .i64 (many : Int))), (18, .f (.int .i64 (i : Int))), (19, .f (.int .i64 o)), (20, .ts 120 0 3 0)] n) →
      Q .normal (mkSt a [(116, ⟨0, .row 58 4 0 0 r16⟩), (120, ⟨0, .row 3 1 0 0 [[iI (numF l k f many i o 0)], [iI (numF l k f many i o 1)], [iI (numF l k f many i o 2)]]⟩)])) :
    pwp G (.loop f11l2) (PX.inBlock 5 Q) σ := by
  unfold f11l2
  refine pwp_loop (α := Nat) (fun j => mkSt [(1, .f (encL l)), (5, .f (.int .i64 k)), (6, .f (.int .i64 f)), (16, .ts 116 0 i 0), (17, .f (.int .i64 (many : Int))), (18, .f (.int .i64 (i : Int))), (19, .f (.int .i64 o)), (20, .ts 120 0 j 0), (21, .f (.int .i64 (j : Int)))]
      [(116, ⟨0, .row 58 4 0 0 r16⟩), (120, ⟨0, .row 3 1 0 0 ((List.range j).map fun j => [iI (numF l k f many i o j)])⟩)]) (fun j => j ≤ 3) (fun j => 3 - j) 0 (by omega) (by simpa using h0) ?_
  intro j hj
  simp [f11r32, binF, binI]
  refine ccase_i (fun h => ?_) (fun h => ?_)
  · have h : j < 3 := by simp at h; omega
    have w1 : IntKind.i64.wrap (4 * (i : Int)) = 4 * (i : Int) := w64 (by omega)
    have w2 : IntKind.i64.wrap (8 + 4 * (i : Int)) = 8 + 4 * (i : Int) := w64 (by omega)
    have w3 : IntKind.i64.wrap (8 + 4 * (i : Int) + j) = 8 + 4 * (i : Int) + j := w64 (by omega)
    have w4 : IntKind.i64.wrap ((many : Int) + 1) = (many : Int) + 1 := w64 (by omega)
    have w5 : IntKind.i64.wrap ((j : Int) + 1) = (j : Int) + 1 := w64 (by omega)
    have hm1 : ¬ (many : Int) + 1 = 0 := by omega
    have bm := at_b l (8 + 4 * (i : Int) + j) (n := 720) (by omega)
    have hsz : (j + 1) * 8 ≤ 140737488355328 ∧ j + 1 ≤ i64max := by simp [i64max]; omega
    have htk : List.take j ((List.range j).map fun j => [iI (numF l k f many i o j)]) = (List.range j).map fun j => [iI (numF l k f many i o j)] := List.take_of_length_le (by simp)
    simp [f11r34, binF, binI, w1, w2, w3]
    refine pCall_pure (at_ct hP l hl (8 + 4 * (i : Int) + j) 720 (i64c (by omega)) (i64c (by omega))) rfl (by simp [encL]) rfl ?_
    have hnum : ∀ c, sortAt o.toNat j = c → numF l k f many i o j = (if c = 1 then (atF l (8 + 4 * (i : Int) + j) 720).tmod 4 else if c = 2 then (atF l (8 + 4 * (i : Int) + j) 720).tmod 8 else if c = 3 then (atF l (8 + 4 * (i : Int) + j) 720).tmod 9 - 2 else if c = 4 then k else if c = 5 then f else if c = 6 then (atF l (8 + 4 * (i : Int) + j) 720).tmod ((many : Int) + 1) else 0) := by
      rintro c rfl; rfl
    generalize atF l (8 + 4 * (i : Int) + j) 720 = m at bm hnum
    simp [f11r35]
    refine pCall_pure (rsorts_ct hP) rfl rfl rfl ?_
    obtain ⟨x, y, z, hs, hx, hy, hz⟩ := sortsR_get o.toNat (by omega)
    have hss : nth (sortsR.map fun s => [FV.str s]) o = some [.str [x, y, z]] := by
      rw [nth_map]; unfold nth; rw [if_pos (by omega), hs]; rfl
    obtain ⟨b, hb, hcb⟩ : ∃ b : UInt8, nth [x, y, z] (j : Int) = some b ∧ codeOf b.toNat = sortAt o.toNat j := by
      match j, h with
      | 0, _ => exact ⟨x, rfl, hx⟩
      | 1, _ => exact ⟨y, rfl, hy⟩
      | 2, _ => exact ⟨z, rfl, hz⟩
    have hn := hnum _ hcb.symm
    simp [hss, hb]
    generalize (b.toNat : Int) = bb at hn
    have m9 : 0 ≤ m.tmod 9 ∧ m.tmod 9 < 9 := ⟨Int.tmod_nonneg _ (by omega), Int.tmod_lt_of_pos _ (by omega)⟩
    have w9 : IntKind.i64.wrap (m.tmod 9 - 2) = m.tmod 9 - 2 := w64 (by omega)
    have htk' : List.take j ((List.range j).map fun j => [FV.int .i64 (numF l k f many i o j)]) = (List.range j).map fun j => [FV.int .i64 (numF l k f many i o j)] := List.take_of_length_le (by simp)
    have nxt : ∀ v : Int, numF l k f many i o j = v → ∃ b', b' ≤ 3 ∧ 3 - b' < 3 - j ∧ mkSt [(1, .f (encL l)), (5, .f (.int .i64 k)), (6, .f (.int .i64 f)), (16, .ts 116 0 i 0), (17, .f (.int .i64 (many : Int))), (18, .f (.int .i64 (i : Int))), (19, .f (.int .i64 o)), (20, .ts 120 0 (j + 1) 0), (21, .f (.int .i64 ((j : Int) + 1)))]
        [(116, ⟨0, .row 58 4 0 0 r16⟩), (120, ⟨0, .row 3 1 0 0 (((List.range j).map fun j => [.int .i64 (numF l k f many i o j)]) ++ [[.int .i64 v]])⟩)] =
        mkSt [(1, .f (encL l)), (5, .f (.int .i64 k)), (6, .f (.int .i64 f)), (16, .ts 116 0 i 0), (17, .f (.int .i64 (many : Int))), (18, .f (.int .i64 (i : Int))), (19, .f (.int .i64 o)), (20, .ts 120 0 b' 0), (21, .f (.int .i64 (b' : Int)))]
        [(116, ⟨0, .row 58 4 0 0 r16⟩), (120, ⟨0, .row 3 1 0 0 ((List.range b').map fun j => [.int .i64 (numF l k f many i o j)])⟩)] := by
      rintro v rfl
      exact ⟨j + 1, by omega, by omega, by simp [List.range_succ]⟩
    by_cases e99 : bb = 99
    · subst e99
      simp [f11r37, f11r38, f11r49, f11r33, binF, binI, hsz, htk', w5, keepSt, iI, encL]
      exact nxt _ (by rw [hn]; rfl)
    by_cases e114 : bb = 114
    · subst e114
      simp [f11r37, f11r39, f11r40, f11r49, f11r33, binF, binI, hsz, htk', w5, keepSt, iI, encL]
      exact nxt _ (by rw [hn]; rfl)
    by_cases e110 : bb = 110
    · subst e110
      simp [f11r37, f11r39, f11r41, f11r42, f11r49, f11r33, binF, binI, hsz, htk', w5, w9, keepSt, iI, encL]
      exact nxt _ (by rw [hn]; rfl)
    by_cases e107 : bb = 107
    · subst e107
      simp [f11r37, f11r39, f11r41, f11r43, f11r44, f11r49, f11r33, binF, binI, hsz, htk', w5, keepSt, iI, encL]
      exact nxt _ (by rw [hn]; rfl)
    by_cases e102 : bb = 102
    · subst e102
      simp [f11r37, f11r39, f11r41, f11r43, f11r45, f11r46, f11r49, f11r33, binF, binI, hsz, htk', w5, keepSt, iI, encL]
      exact nxt _ (by rw [hn]; rfl)
    by_cases e105 : bb = 105
    · subst e105
      simp [f11r37, f11r39, f11r41, f11r43, f11r45, f11r47, f11r48, f11r49, f11r33, binF, binI, hsz, htk', w4, hm1, w5, keepSt, iI, encL]
      exact nxt _ (by rw [hn]; rfl)
    · have hc0 : codeOf bb = 0 := by simp [codeOf, e99, e114, e110, e107, e102, e105]
      rw [hc0] at hn
      simp [f11r37, f11r39, f11r41, f11r43, f11r45, f11r47, f11r36, f11r49, f11r33, binF, binI, e99, e114, e110, e107, e102, e105, hsz, htk', w5, keepSt, iI, encL]
      exact nxt _ (by rw [hn]; rfl)
  · have h : ¬ j < 3 := by simp at h; omega
    obtain rfl : j = 3 := by omega
    simp
    exact hQ _ (by simp)
end

theorem program_ct {G : Env} (hP : G.P = Tryd.prog) {x : Sch} {l : List Int} (hl : ∀ n ∈ l, In64 n) (hx0 : x.kinds ≠ []) (hx : x.kinds.length < 1000) (hf : ∀ k ∈ x.kinds, k.fields ≠ [] ∧ k.fields.length < 1000) :
    CT G 11 ⟨[.ag ((encX x).map .f), .f (encL l)], []⟩ ⟨.f (encP (progF x l)), [], []⟩ := by
  refine ct_of_body (N := []) (pc := f11pc) (rs := f11rs) (by rw [hP]; exact f11ok) ?_
  rw [entry_mk]
  have he : (encX x).length = 4 := rfl
  have hx1 : 1 ≤ x.kinds.length := List.length_pos_iff.2 hx0
  have hK := at_b l 0 (n := x.kinds.length) (by omega)
  have hkm := hf _ (nth0_mem x.kinds (progK x l) hK)
  have hk1 : 1 ≤ (nth0 x.kinds (progK x l)).fields.length := List.length_pos_iff.2 hkm.1
  have hF := at_b l 1 (n := (nth0 x.kinds (progK x l)).fields.length) (by omega)
  have hkn : nth (x.kinds.map encKd) (progK x l) = some (encKd (nth0 x.kinds (progK x l))) := nthM encKd _ _ hK
  have hfn : nth ((nth0 x.kinds (progK x l)).fields.map encF) (progFd x l) = some (encF (nth0 (nth0 x.kinds (progK x l)).fields (progFd x l))) := nthM encF _ _ hF
  have b2 := at_b l 2 (n := 12) (by omega)
  have b3 := at_b l 3 (n := 3) (by omega)
  have b4 := at_b l 4 (n := 2) (by omega)
  have b5 := at_b l 5 (n := 6) (by omega)
  have w2 : IntKind.i64.wrap (atF l 2 12 - 2) = atF l 2 12 - 2 := w64 (by omega)
  have w3 : IntKind.i64.wrap (1 + atF l 3 3) = 1 + atF l 3 3 := w64 (by omega)
  have w4 : IntKind.i64.wrap (7 + atF l 4 2) = 7 + atF l 4 2 := w64 (by omega)
  simp [f11pc, f11r0, f11r1, he, encL]
  simp [encX, iI]
  refine pCall_pure (at_ct hP l hl 0 x.kinds.length (i64c (by omega)) (i64c (by omega))) rfl (by simp) rfl ?_
  have hpk : atF l 0 x.kinds.length = progK x l := rfl
  rw [hpk]
  simp [f11r2, hkn, encKd, iI]
  refine pCall_pure (at_ct hP l hl 1 (nth0 x.kinds (progK x l)).fields.length (i64c (by omega)) (i64c (by omega))) rfl (by simp) rfl ?_
  have hpf : atF l 1 (nth0 x.kinds (progK x l)).fields.length = progFd x l := rfl
  rw [hpf]
  simp [f11r3, iI]
  refine pCall_pure (at_ct hP l hl 2 12 (i64c (by omega)) (i64c (by omega))) rfl (by simp) rfl ?_
  simp [f11r4, iI, binF, binI, w2]
  refine pCall_pure (at_ct hP l hl 3 3 (i64c (by omega)) (i64c (by omega))) rfl (by simp) rfl ?_
  simp [f11r5, iI, binF, binI, w3]
  refine pCall_pure (at_ct hP l hl 4 2 (i64c (by omega)) (i64c (by omega))) rfl (by simp) rfl ?_
  simp [f11r6, f11r7, f11r8, iI, binF, binI, w4]
  refine pCall_pure (at_ct hP l hl 5 6 (i64c (by omega)) (i64c (by omega))) rfl (by simp) rfl ?_
  have hX : TC.box 27 false [.f (.int .i64 x.version), .f (.sl 4 (x.kinds.map encKd)), .f (.sl 3 (x.lives.map encLi)), .f (.sl 5 (x.rules.map encRu))] = .box 27 false ((encX x).map .f) := rfl
  simp
  by_cases c0 : atF l 5 6 = 0
  · have hr : progF x l = [⟨4, 1, progK x l, 0⟩, ⟨1, 2, (if 1 > atF l 2 12 - 2 then 1 else atF l 2 12 - 2).tmod 5, 0⟩, ⟨7, 1, 2, 4⟩, ⟨0, 1 + atF l 3 3, 0, 0⟩] := by
      simp only [progF, c0, if_true]
    rw [hr]
    generalize hmx' : (if 1 > atF l 2 12 - 2 then 1 else atF l 2 12 - 2) = mx
    have hmx : (if atF l 2 12 - 2 < 1 then (1 : Int) else atF l 2 12 - 2) = mx := hmx'
    simp [f11r9, f11r10, binF, binI, iI, c0, hmx, ghSt, List.replicate]
    simp [retQ, outSt, f11rs, rvals, RArg.val, resPV, encP, encI, iI]
  by_cases c1 : atF l 5 6 = 1
  · have hr : progF x l = [⟨4, 6, atF l 6 x.kinds.length, 0⟩, ⟨1, 5, 1 + atF l 7 3, 0⟩, ⟨7, 6, 5, 13⟩] ++ (loopF (progK x l) (progFd x l) (-1) 0 (7 + atF l 4 2) (atF l 2 12 - 2) (1 + atF l 3 3)).map shift3 := by
      simp [progF, c1]
    have b7 := at_b l 7 (n := 3) (by omega)
    have w7 : IntKind.i64.wrap (1 + atF l 7 3) = 1 + atF l 7 3 := w64 (by omega)
    have hqn : ∀ i ∈ loopF (progK x l) (progFd x l) (-1) 0 (7 + atF l 4 2) (atF l 2 12 - 2) (1 + atF l 3 3), (i.op = 6 → i.a = 3) ∧ (i.op = 7 ∨ i.op = 8 → 0 ≤ i.c ∧ i.c ≤ 100) := by
      intro i hi
      simp [loopF] at hi
      rcases hi with rfl | rfl | rfl | rfl | rfl | rfl | rfl | rfl | rfl | rfl <;> simp <;> omega
    have hql : (loopF (progK x l) (progFd x l) (-1) 0 (7 + atF l 4 2) (atF l 2 12 - 2) (1 + atF l 3 3)).length = 10 := rfl
    simp [f11r9, f11r11, f11r12, binF, binI, iI, c0, c1]
    refine pCall_pure (at_ct hP l hl 6 x.kinds.length (i64c (by omega)) (i64c (by omega))) rfl (by simp [encL, iI]) rfl ?_
    simp [f11r13, iI]
    refine pCall_pure (at_ct hP l hl 7 3 (i64c (by omega)) (i64c (by omega))) rfl (by simp [encL, iI]) rfl ?_
    simp [f11r14, iI, binF, binI, w7, List.replicate]
    refine pLoop hP rfl ?_
    generalize hqq : loopF (progK x l) (progFd x l) (-1) 0 (7 + atF l 4 2) (atF l 2 12 - 2) (1 + atF l 3 3) = q at *
    simp [f11r15]
    unfold f11l0
    refine pwp_loop (α := Nat) (fun i => mkSt [(13, .ts 174 0 3 0), (14, .ts 180 0 10 0), (15, .f (iI i))]
      [(174, ⟨0, .row 58 4 0 0 [encI ⟨4, 6, atF l 6 x.kinds.length, 0⟩, encI ⟨1, 5, 1 + atF l 7 3, 0⟩, encI ⟨7, 6, 5, 13⟩]⟩), (180, ⟨0, .row 58 4 0 0 (mixF q i)⟩)])
      (fun i => i ≤ 10) (fun i => 10 - i) 0 (by omega) (by simp [keepSt, encI, iI, hql, mixF_zero]) ?_
    intro i hi
    simp [f11r16, binF, binI, iI]
    refine ccase_i (fun h => ?_) (fun h => ?_)
    · have h : i < 10 := by simp at h; omega
      have hiq : i < q.length := by omega
      have hw : IntKind.i64.wrap ((i : Int) + 1) = (i : Int) + 1 := w64 (by omega)
      have hlt : (i : Int) < 10 := by omega
      have hget := mixF_get q i hiq
      have hset := mixF_set q i hiq
      have hl10 : i < (mixF q i).length := by rw [mixF_len q i (by omega)]; omega
      have hg2 : ∀ z, ((mixF q i).set i z)[i]? = some z := fun z => List.getElem?_set_self hl10
      obtain ⟨hq6, hq7⟩ := hqn _ (List.getElem_mem hiq)
      generalize hqi : q[i] = qi at *
      have nxt : ∀ ys, ys = mixF q (i + 1) → ∃ b, b ≤ 10 ∧ 10 - b < 10 - i ∧ mkSt [(13, .ts 174 0 3 0), (14, .ts 180 0 10 0), (15, .f (.int .i64 ((i : Int) + 1)))]
          [(174, ⟨0, .row 58 4 0 0 [encI ⟨4, 6, atF l 6 x.kinds.length, 0⟩, encI ⟨1, 5, 1 + atF l 7 3, 0⟩, encI ⟨7, 6, 5, 13⟩]⟩), (180, ⟨0, .row 58 4 0 0 ys⟩)] =
          mkSt [(13, .ts 174 0 3 0), (14, .ts 180 0 10 0), (15, .f (.int .i64 (b : Int)))]
          [(174, ⟨0, .row 58 4 0 0 [encI ⟨4, 6, atF l 6 x.kinds.length, 0⟩, encI ⟨1, 5, 1 + atF l 7 3, 0⟩, encI ⟨7, 6, 5, 13⟩]⟩), (180, ⟨0, .row 58 4 0 0 (mixF q b)⟩)] := by
        intro ys hys
        exact ⟨i + 1, by omega, by omega, by rw [hys]; simp⟩
      have hid : qi.op ≠ 6 → qi.op ≠ 7 → qi.op ≠ 8 → mixF q i = mixF q (i + 1) := by
        intro n6 n7 n8
        have : shift3 qi = qi := by simp [shift3, n6, n7, n8]
        rw [this] at hset
        rw [← hset]
        exact (set_same hget).symm
      by_cases o6 : qi.op = 6
      · have hs : shift3 qi = ⟨6, 6, qi.b, qi.c⟩ := by simp [shift3, o6, hq6 o6]
        have w6 : IntKind.i64.wrap 6 = 6 := by decide
        rw [hs] at hset
        simp [f11r18, f11r19, f11r20, f11r21, f11r17, hlt, hget, hg2, encI, iI, o6, hq6 o6, binF, binI, w6, hw, keepSt]
        exact nxt _ (by rw [← hset]; simp [encI, iI])
      by_cases o7 : qi.op = 7
      · have hs : shift3 qi = ⟨7, qi.a, qi.b, qi.c + 3⟩ := by simp [shift3, o7]
        have w6 : IntKind.i64.wrap (qi.c + 3) = qi.c + 3 := by have := hq7 (.inl o7); exact w64 (by omega)
        rw [hs] at hset
        simp [f11r18, f11r19, f11r20, f11r21, f11r17, hlt, hget, hg2, encI, iI, o7, binF, binI, w6, hw, keepSt]
        exact nxt _ (by rw [← hset]; simp [encI, iI])
      by_cases o8 : qi.op = 8
      · have hs : shift3 qi = ⟨8, qi.a, qi.b, qi.c + 3⟩ := by simp [shift3, o8]
        have w6 : IntKind.i64.wrap (qi.c + 3) = qi.c + 3 := by have := hq7 (.inr o8); exact w64 (by omega)
        rw [hs] at hset
        simp [f11r18, f11r19, f11r20, f11r21, f11r17, hlt, hget, hg2, encI, iI, o8, binF, binI, w6, hw, keepSt]
        exact nxt _ (by rw [← hset]; simp [encI, iI])
      · simp [f11r18, f11r19, f11r20, f11r21, f11r17, hlt, hget, hg2, encI, iI, o6, o7, o8, binF, binI, hw, keepSt]
        exact nxt _ (hid o6 o7 o8)
    · have h : ¬ i < 10 := by simp at h; omega
      obtain rfl : i = 10 := by omega
      rw [mixF_end q 10 (by omega)]
      have htk : List.take 10 ((q.map shift3).map encI) = (q.map shift3).map encI := List.take_of_length_le (by simp; omega)
      rw [hr]
      have htk2 : List.take 10 (q.map (encI ∘ shift3)) = q.map (encI ∘ shift3) := List.take_of_length_le (by simp; omega)
      simp [f11r22, i64max, ghSt, hql]
      simp [retQ, outSt, f11rs, rvals, RArg.val, resPV, encP, htk2, hql]
  by_cases c2 : atF l 5 6 = 2
  · have hr : progF x l = (List.range (atF l 6 9).toNat).map (insF l (progK x l) (progFd x l) (atF l 6 9)) := by
      simp [progF, c2]
    have b6 := at_b l 6 (n := 9) (by omega)
    simp [f11r9, f11r11, f11r23, f11r24, binF, binI, iI, c0, c1, c2, ghSt, f11r25]
    refine pCall_pure (at_ct hP l hl 6 9 (i64c (by omega)) (i64c (by omega))) rfl (by simp [encL, iI]) rfl ?_
    obtain ⟨many, hmany⟩ : ∃ n : Nat, atF l 6 9 = n := ⟨(atF l 6 9).toNat, by omega⟩
    rw [hmany, Int.toNat_natCast] at hr
    rw [hmany] at b6 ⊢
    rw [hr]
    generalize progK x l = k
    generalize progFd x l = f
    simp [f11r26, iI]
    unfold f11l1
    refine pwp_loop (α := Nat) (fun i => mkSt [(1, .f (encL l)), (5, .f (.int .i64 k)), (6, .f (.int .i64 f)), (16, .ts 116 0 i 0), (17, .f (.int .i64 (many : Int))), (18, .f (.int .i64 (i : Int)))]
      [(116, ⟨0, .row 58 4 0 0 ((List.range i).map fun i => encI (insF l k f many i))⟩)]) (fun i => i ≤ many) (fun i => many - i) 0 (by omega) (by simp [keepSt, encL, iI]) ?_
    intro i hi
    simp [f11r27, binF, binI]
    refine ccase_i (fun h => ?_) (fun h => ?_)
    · have h : i < many := by simp at h; omega
      have w1 : IntKind.i64.wrap (4 * (i : Int)) = 4 * (i : Int) := w64 (by omega)
      have w2 : IntKind.i64.wrap (7 + 4 * (i : Int)) = 7 + 4 * (i : Int) := w64 (by omega)
      have w5 : IntKind.i64.wrap ((i : Int) + 1) = (i : Int) + 1 := w64 (by omega)
      have hsz : (i + 1) * 32 ≤ 140737488355328 ∧ i + 1 ≤ i64max := by simp [i64max]; omega
      have htk : List.take i ((List.range i).map fun i => encI (insF l k f many i)) = (List.range i).map fun i => encI (insF l k f many i) := List.take_of_length_le (by simp)
      simp [f11r29, binF, binI, w1, w2]
      refine pCall_pure (at_ct hP l hl (7 + 4 * (i : Int)) 9 (i64c (by omega)) (i64c (by omega))) rfl (by simp [encL, iI]) rfl ?_
      simp [f11r30, f11r31, ghSt]
      have bo := at_b l (7 + 4 * (i : Int)) (n := 9) (by omega)
      have hin : encI (insF l k f many i) = [iI (atF l (7 + 4 * (i : Int)) 9), iI (numF l k f many i (atF l (7 + 4 * (i : Int)) 9) 0), iI (numF l k f many i (atF l (7 + 4 * (i : Int)) 9) 1), iI (numF l k f many i (atF l (7 + 4 * (i : Int)) 9) 2)] := rfl
      generalize atF l (7 + 4 * (i : Int)) 9 = o at *
      refine pr2 hP hl k f many i o (by omega) h bo ((List.range i).map fun i => encI (insF l k f many i)) (by simp [keepSt, encL, iI]) (fun a ha => ?_)
      simp at ha
      obtain ⟨a1, a5, a6, a16, a17, a18, a19, a20⟩ := ha
      simp [f11r50, a1, a5, a6, a16, a17, a18, a19, a20, iI, hsz, htk, f11r28, binF, binI, w5, keepSt]
      exact ⟨i + 1, by omega, by omega, by simp [List.range_succ, hin, iI, encL]⟩
    · have h : ¬ i < many := by simp at h; omega
      obtain rfl : i = many := by omega
      have htk : List.take i ((List.range i).map fun j => encI (insF l k f i j)) = (List.range i).map fun j => encI (insF l k f i j) := List.take_of_length_le (by simp)
      simp [f11r51, ghSt]
      simp [retQ, outSt, f11rs, rvals, RArg.val, resPV, encP, htk, Function.comp_def]
  by_cases c3 : atF l 5 6 = 3
  · have hr : progF x l = loopF (progK x l) (progFd x l) (progUp x l) (if 0 ≤ progUp x l then atF l 6 (nth0 x.kinds (progUp x l)).fields.length else 0) (7 + atF l 4 2) (atF l 2 12 - 2) (1 + atF l 3 3) := by
      simp [progF, c3]
    have hup : progUp x l = -1 ∨ (0 ≤ progUp x l ∧ progUp x l < x.kinds.length) := by
      unfold progUp
      split
      · have := upF_lt' x (progK x l) (progFd x l) hK.1
        have hK2 : progK x l < x.kinds.length := hK.2
        omega
      · left; rfl
    generalize hu : progUp x l = up at hr hup
    have second : ∀ a b, lkS a 1 = .f (encL l) → lkS a 2 = .ptr 102 0 0 1 → lkS a 5 = .f (.int .i64 (progK x l)) → lkS a 6 = .f (.int .i64 (progFd x l)) → lkS a 10 = .f (.int .i64 up) → lkS a 11 = .f (.int .i64 0) → lkS a 9 = .f (.int .i64 (7 + atF l 4 2)) →
        lkS a 7 = .f (.int .i64 (atF l 2 12 - 2)) → lkS a 8 = .f (.int .i64 (1 + atF l 3 3)) → b = [(102, ⟨1, .box 27 false ((encX x).map .f)⟩)] →
        pwp G (.seq (.region f11r55 []) (.cond (.s 223) (.region f11r56 []) (.skip))) (PX.inBlock 0 (PX.then (pwp G (.seq (.region f11r57 []) (.gh (.fz 116) (.gh (.fz 159) (.gh (.fz 174) (.gh (.fz 340) (.ret)))))) (retQ 0 [] f11rs (· = ⟨.f (encP (progF x l)), [], []⟩))) (retQ 0 [] f11rs (· = ⟨.f (encP (progF x l)), [], []⟩)))) (mkSt a b) := by
      intro a b h1 h2 h5 h6 h10 h11 h9 h7 h8 hb
      subst hb
      by_cases h0 : 0 ≤ up
      · have hul : 0 ≤ up ∧ up < x.kinds.length := by omega
        have hun : nth (x.kinds.map encKd) up = some (encKd (nth0 x.kinds up)) := nthM encKd _ _ hul
        have hfl := hf _ (nth0_mem x.kinds up hul)
        simp [f11r55, f11r56, h1, h2, h5, h6, h10, h11, h9, h7, h8, binF, binI, h0, encX, iI, hun, encKd, encL]
        refine pCall_pure (at_ct hP l hl 6 (nth0 x.kinds up).fields.length (i64c (by omega)) (i64c (by omega))) rfl (by simp) rfl ?_
        simp
        exact progLast hP _ _ _ _ _ _ _ _ _ h5 h6 h10 rfl h9 h7 h8 (by simp [encX, iI]) (by rw [hr, if_pos h0])
      · simp [f11r55, h1, h2, h5, h6, h10, h11, h9, h7, h8, binF, binI, h0]
        exact progLast hP _ _ _ _ _ _ _ _ _ h5 h6 h10 h11 h9 h7 h8 (by simp [encX, iI]) (by rw [hr, if_neg h0])
    by_cases hkd : (nth0 (nth0 x.kinds (progK x l)).fields (progFd x l)).kind = 1
    · have hu' : upF x (progK x l) (progFd x l) = up := by rw [← hu]; unfold progUp; rw [if_pos hkd]
      simp [f11r9, f11r11, f11r23, f11r52, f11r53, f11r54, binF, binI, iI, c0, c1, c2, c3, hkn, encKd, hfn, encF, hkd, getN]
      refine pCall_pure (upX_ct hP (x := x) (kind := progK x l) (field := progFd x l) (by omega) (fun k hk => (by have := hf k hk; omega))) rfl (by simp) rfl ?_
      rw [hu']
      simp
      exact second _ _ rfl rfl rfl rfl rfl rfl rfl rfl rfl (by simp [encX, iI])
    · have hu' : up = -1 := by rw [← hu]; unfold progUp; rw [if_neg hkd]
      simp [f11r9, f11r11, f11r23, f11r52, f11r53, binF, binI, iI, c0, c1, c2, c3, hkn, encKd, hfn, encF, hkd, getN]
      exact second _ _ rfl rfl rfl rfl (by rw [hu']; rfl) rfl rfl rfl rfl (by simp [encX, iI])
  · have hr : progF x l = loopF (progK x l) (progFd x l) (-1) 0 (7 + atF l 4 2) (atF l 2 12 - 2) (1 + atF l 3 3) := by
      simp [progF, c0, c1, c2, c3]
    simp [f11r9, f11r11, f11r23, f11r52, binF, binI, iI, c0, c1, c2, c3]
    exact progLast hP _ _ _ _ _ _ _ _ _ rfl rfl rfl rfl rfl rfl rfl (by simp [encX, iI]) hr
end Go.Absw

/- Contract of dioramaref29.Bent. -/
namespace Go.Absw
open Go Go.Proofs
set_option maxRecDepth 100000

def bentTab : List Int := [-1, 0, 1, 5, 6, 7, 8, 9, 10, 128, 250, 251, 1048576, 1048577, -1048576, -1048577]
def bentF (p : List Ins) (at' how by' : Int) : List Ins :=
  if p.length = 0 then [⟨aroundF by' 11 - 1, 0, 0, 0⟩] else
  let k := (aroundF at' p.length).toNat
  let n := nth0 bentTab (aroundF by' 16)
  let q := nth0 p (aroundF at' p.length)
  let h := aroundF how 7
  if h = 0 then p.set k ⟨aroundF by' 11 - 1, q.a, q.b, q.c⟩
  else if h = 1 then p.set k ⟨q.op, n, q.b, q.c⟩
  else if h = 2 then p.set k ⟨q.op, q.a, n, q.c⟩
  else if h = 3 then p.set k ⟨q.op, q.a, q.b, n⟩
  else if h = 4 then p.take k ++ p.drop (k + 1)
  else if h = 5 then (p ++ List.replicate 128 (⟨0, 0, 0, 0⟩ : Ins)).take (127 + (aroundF by' 3).tmod (if 1 > (p.length : Int) + 128 - 126 then 1 else (p.length : Int) + 128 - 126)).toNat
  else p ++ [q]

theorem bent_len (p : List Ins) (at' how by' : Int) : (bentF p at' how by').length ≤ p.length + 128 := by
  unfold bentF
  split
  · simp
  · simp only
    repeat' split
    all_goals simp
    all_goals omega

theorem bent_ct {G : Env} (hP : G.P = Tryd.prog) {p : List Ins} (hl : p.length < 100000) {at' how by' : Int} (ha : In64 at') (hh : In64 how) (hb : In64 by') :
    CT G 12 ⟨[.f (encP p), .f (.int .i64 at'), .f (.int .i64 how), .f (.int .i64 by')], []⟩ ⟨.f (encP (bentF p at' how by')), [], []⟩ := by
  refine ct_of_body (N := []) (pc := f12pc) (rs := f12rs) (by rw [hP]; exact f12ok) ?_
  rw [entry_mk]
  have hsz : p.length * 32 ≤ 140737488355328 ∧ p.length ≤ i64max := by simp [i64max]; omega
  have n11 := aroundF_nonneg by' 11
  have l11 := aroundF_lt by' (most := 11) (by omega)
  have w11 : IntKind.i64.wrap (aroundF by' 11 - 1) = aroundF by' 11 - 1 := w64 (by omega)
  by_cases h0 : p.length = 0
  · have hp0 : p = [] := List.eq_nil_of_length_eq_zero h0
    subst hp0
    have hr : bentF [] at' how by' = [⟨aroundF by' 11 - 1, 0, 0, 0⟩] := rfl
    rw [hr]
    simp [f12pc, f12r0, f12r1, f12r2, f12r3, f12r4, ghSt, encP, i64max, binF, binI]
    refine pCall_pure (around_ct hP by' 11 hb (i64c (by omega))) rfl rfl rfl ?_
    simp [binF, binI, iI, w11, i64max]
    simp [retQ, outSt, f12rs, rvals, RArg.val, resPV, ghSt, encP, encI, iI]
  have fin : ∀ (a : List (Nat × PV)) (b : List (Nat × Tok)) (n s l u : Nat) (rows : List (List FV)) (q : List Ins), lkS a 9 = .ts 109 0 n s → lkK b 109 = ⟨s, .row 58 4 l u rows⟩ → n ≤ rows.length → rows.take n = q.map encI →
      pwp G (.seq (.region f12r25 []) (.gh (.fz 109) (.ret))) (retQ 0 [] f12rs (· = ⟨.f (encP q), [], []⟩)) (mkSt a b) := by
    intro a b n s l u rows q h9 hk hn hq
    simp [f12r25, h9, hk, ghSt]
    simp [retQ, outSt, f12rs, rvals, RArg.val, resPV, h9, hk, hn, hq, encP]
  have hpos : (1 : Int) ≤ p.length := by omega
  have hk := aroundF_nonneg at' p.length
  have hk2 := aroundF_lt at' hpos
  have hkn : (aroundF at' p.length).toNat < p.length := by omega
  have n16 := aroundF_nonneg by' 16
  have l16 := aroundF_lt by' (most := 16) (by omega)
  have n7 := aroundF_nonneg how 7
  have l7 := aroundF_lt how (most := 7) (by omega)
  have htab : ∀ h, [[FV.int .i64 (-1)], [.int .i64 0], [.int .i64 1], [.int .i64 5], [.int .i64 6], [.int .i64 7], [.int .i64 8], [.int .i64 9], [.int .i64 10], [.int .i64 128], [.int .i64 250], [.int .i64 251], [.int .i64 1048576], [.int .i64 1048577], [.int .i64 (-1048576)], [.int .i64 (-1048577)]][(aroundF by' 16).toNat]'h = [.int .i64 (nth0 bentTab (aroundF by' 16))] :=
    fun h => pickG (fun n => [FV.int .i64 n]) bentTab _ ⟨n16, by simp [bentTab]; omega⟩ h
  simp [f12pc, f12r0, f12r1, f12r2, f12r3, ghSt, encP, hsz, binF, binI, h0, f12r5]
  refine pCall_pure (around_ct hP at' p.length ha (i64c (by omega))) rfl rfl rfl ?_
  simp [f12r6, iI, List.replicate]
  refine pCall_pure (around_ct hP by' 16 hb (i64c (by omega))) rfl rfl rfl ?_
  simp [iI, n16, l16, htab, f12r7]
  refine pCall_pure (around_ct hP how 7 hh (i64c (by omega))) rfl rfl rfl ?_
  have hb1 : bentF p at' how by' = (if aroundF how 7 = 0 then p.set (aroundF at' p.length).toNat ⟨aroundF by' 11 - 1, (nth0 p (aroundF at' p.length)).a, (nth0 p (aroundF at' p.length)).b, (nth0 p (aroundF at' p.length)).c⟩
    else if aroundF how 7 = 1 then p.set (aroundF at' p.length).toNat ⟨(nth0 p (aroundF at' p.length)).op, nth0 bentTab (aroundF by' 16), (nth0 p (aroundF at' p.length)).b, (nth0 p (aroundF at' p.length)).c⟩
    else if aroundF how 7 = 2 then p.set (aroundF at' p.length).toNat ⟨(nth0 p (aroundF at' p.length)).op, (nth0 p (aroundF at' p.length)).a, nth0 bentTab (aroundF by' 16), (nth0 p (aroundF at' p.length)).c⟩
    else if aroundF how 7 = 3 then p.set (aroundF at' p.length).toNat ⟨(nth0 p (aroundF at' p.length)).op, (nth0 p (aroundF at' p.length)).a, (nth0 p (aroundF at' p.length)).b, nth0 bentTab (aroundF by' 16)⟩
    else if aroundF how 7 = 4 then p.take (aroundF at' p.length).toNat ++ p.drop ((aroundF at' p.length).toNat + 1)
    else if aroundF how 7 = 5 then (p ++ List.replicate 128 (⟨0, 0, 0, 0⟩ : Ins)).take (127 + (aroundF by' 3).tmod (if 1 > (p.length : Int) + 128 - 126 then 1 else (p.length : Int) + 128 - 126)).toNat
    else p ++ [nth0 p (aroundF at' p.length)]) := by
    unfold bentF; rw [if_neg h0]
  have hg : (p.map encI)[(aroundF at' p.length).toNat]? = some (encI (nth0 p (aroundF at' p.length))) := pickI encI p _ ⟨hk, hk2⟩
  have hq : ∀ h, p[(aroundF at' p.length).toNat]'h = nth0 p (aroundF at' p.length) := fun h => getL p _ ⟨hk, hk2⟩ h
  have hset : ∀ z : Ins, (p.map encI).set (aroundF at' p.length).toNat (encI z) = (p.set (aroundF at' p.length).toNat z).map encI := fun z => by rw [List.map_set]
  have htk0 : List.take p.length (p.map encI) = p.map encI := List.take_of_length_le (by simp)
  generalize nth0 p (aroundF at' p.length) = q at hb1 hg hq
  generalize nth0 bentTab (aroundF by' 16) = nn at hb1
  simp [iI]
  have setEnd : ∀ (a b rows) (z : Ins), lkS a 9 = .ts 109 0 p.length 2 → lkK b 109 = ⟨2, .row 58 4 0 0 rows⟩ → rows = (p.map encI).set (aroundF at' p.length).toNat (encI z) → bentF p at' how by' = p.set (aroundF at' p.length).toNat z →
      pwp G (.seq (.region f12r25 []) (.gh (.fz 109) (.ret))) (retQ 0 [] f12rs (· = ⟨.f (encP (bentF p at' how by')), [], []⟩)) (mkSt a b) := by
    intro a b rows z h9 hk h1 h2
    subst h1
    rw [h2]
    refine fin a b p.length 2 0 0 _ _ h9 hk (by simp) ?_
    rw [hset]
    exact List.take_of_length_le (by simp)
  by_cases c0 : aroundF how 7 = 0
  · rw [if_pos c0] at hb1
    simp [f12r9, f12r10, binF, binI, c0]
    refine pCall_pure (around_ct hP by' 11 hb (i64c (by omega))) rfl rfl rfl ?_
    simp [binF, binI, iI, w11, hk, hk2, hg, hq, encI]
    refine setEnd _ _ _ _ rfl rfl (by simp [encI, iI]) hb1
  rw [if_neg c0] at hb1
  by_cases c1 : aroundF how 7 = 1
  · rw [if_pos c1] at hb1
    simp [f12r9, f12r11, f12r12, binF, binI, c0, c1, hk, hk2, hg, hq, encI, iI]
    refine setEnd _ _ _ _ rfl rfl (by simp [encI, iI]) hb1
  rw [if_neg c1] at hb1
  by_cases c2 : aroundF how 7 = 2
  · rw [if_pos c2] at hb1
    simp [f12r9, f12r11, f12r13, f12r14, binF, binI, c0, c1, c2, hk, hk2, hg, hq, encI, iI]
    refine setEnd _ _ _ _ rfl rfl (by simp [encI, iI]) hb1
  rw [if_neg c2] at hb1
  by_cases c3 : aroundF how 7 = 3
  · rw [if_pos c3] at hb1
    simp [f12r9, f12r11, f12r13, f12r15, f12r16, binF, binI, c0, c1, c2, c3, hk, hk2, hg, hq, encI, iI]
    refine setEnd _ _ _ _ rfl rfl (by simp [encI, iI]) hb1
  rw [if_neg c3] at hb1
  by_cases c4 : aroundF how 7 = 4
  · rw [if_pos c4] at hb1
    obtain ⟨kk, hkk⟩ : ∃ kk : Nat, aroundF at' p.length = kk := ⟨(aroundF at' p.length).toNat, by omega⟩
    rw [hkk, Int.toNat_natCast] at hb1
    rw [hkk] at hk2
    have w1 : IntKind.i64.wrap ((kk : Int) + 1) = (kk : Int) + 1 := w64 (by omega)
    have u1 : (kk : Int) ≤ p.length := by omega
    have u2 : (kk : Int) + 1 ≤ p.length := by omega
    have u3 : (0 : Int) ≤ (kk : Int) + 1 := by omega
    have t1 : kk + 1 + (p.length - (kk + 1)) = p.length := by omega
    have u4 : kk ≤ p.length ∧ (kk + (p.length - (kk + 1))) * 32 ≤ 140737488355328 ∧ kk + (p.length - (kk + 1)) ≤ i64max := by simp [i64max]; omega
    have t2 : List.take (p.length - (kk + 1)) (List.drop (kk + 1) (p.map encI)) = List.drop (kk + 1) (p.map encI) := List.take_of_length_le (by simp)
    simp [f12r9, f12r11, f12r13, f12r15, f12r17, f12r18, binF, binI, c0, c1, c2, c3, c4, hkk, w1, bnds, u1, u2, u3, t1, u4, t2]
    refine fin _ _ _ 3 0 0 _ _ rfl rfl (by simp; omega) ?_
    rw [List.take_of_length_le (by simp; omega), hb1]
    simp [List.map_take, List.map_drop]
  rw [if_neg c4] at hb1
  by_cases c5 : aroundF how 7 = 5
  · rw [if_pos c5] at hb1
    simp [f12r9, f12r11, f12r13, f12r15, f12r17, f12r19, f12r20, binF, binI, c0, c1, c2, c3, c4, c5]
    unfold f12l0
    refine pwp_loop (α := Nat) (fun i => mkSt [(3, .f (iI by')), (9, .ts 109 0 (p.length + i) 0), (12, .f (iI i))] [(109, ⟨0, .row 58 4 0 0 ((p ++ List.replicate i (⟨0, 0, 0, 0⟩ : Ins)).map encI)⟩)]) (fun i => i ≤ 128) (fun i => 128 - i) 0 (by omega) (by simp [keepSt, iI]) ?_
    intro i hi
    simp [f12r21, binF, binI, iI]
    refine ccase_i (fun h => ?_) (fun h => ?_)
    · have h : i < 128 := by simp at h; omega
      have w1 : IntKind.i64.wrap ((i : Int) + 1) = (i : Int) + 1 := w64 (by omega)
      have hszi : (p.length + i + 1) * 32 ≤ 140737488355328 ∧ p.length + i + 1 ≤ i64max := by simp [i64max]; omega
      have ht : List.take (p.length + i) (p.map encI ++ List.replicate i (encI ⟨0, 0, 0, 0⟩)) = p.map encI ++ List.replicate i (encI ⟨0, 0, 0, 0⟩) := List.take_of_length_le (by simp)
      simp [f12r22, f12r23, binF, binI, hszi, ht, w1, keepSt]
      refine ⟨i + 1, by omega, by omega, ?_⟩
      simp [List.replicate_succ', encI, iI, Nat.add_assoc]
    · have h : ¬ i < 128 := by simp at h; omega
      obtain rfl : i = 128 := by omega
      have n3 := aroundF_nonneg by' 3
      have l3 := aroundF_lt by' (most := 3) (by omega)
      have w1 : IntKind.i64.wrap ((p.length : Int) + 128 - 126) = (p.length : Int) + 128 - 126 := w64 (by omega)
      have hL0 : (p ++ List.replicate 128 (⟨0, 0, 0, 0⟩ : Ins)).map encI = p.map encI ++ List.replicate 128 (encI ⟨0, 0, 0, 0⟩) := by rw [List.map_append, List.map_replicate]
      have hLl : (p.map encI ++ List.replicate 128 (encI ⟨0, 0, 0, 0⟩)).length = p.length + 128 := by rw [List.length_append, List.length_map, List.length_replicate]
      generalize hL : p.map encI ++ List.replicate 128 (encI ⟨0, 0, 0, 0⟩) = L at hL0 hLl ⊢
      generalize (p ++ List.replicate 128 (⟨0, 0, 0, 0⟩ : Ins)) = P at hL0 hb1
      have hm1 : 1 ≤ (if 1 > (p.length : Int) + 128 - 126 then 1 else (p.length : Int) + 128 - 126) ∧ (if 1 > (p.length : Int) + 128 - 126 then 1 else (p.length : Int) + 128 - 126) ≤ (p.length : Int) + 2 := by split <;> omega
      generalize hcm : (if 1 > (p.length : Int) + 128 - 126 then 1 else (p.length : Int) + 128 - 126) = cm at hm1 hb1
      have hmx : (if (p.length : Int) + 128 - 126 < 1 then 1 else (p.length : Int) + 128 - 126) = cm := hcm
      have hcm0 : ¬ cm = 0 := by omega
      have m1 : 0 ≤ (aroundF by' 3).tmod cm := Int.tmod_nonneg _ n3
      have m2 : (aroundF by' 3).tmod cm < cm := Int.tmod_lt_of_pos _ (by omega)
      simp [f12r24]
      refine pCall_pure (around_ct hP by' 3 hb (i64c (by omega))) rfl rfl rfl ?_
      simp [binF, binI, w1, hmx, hcm0, iI]
      generalize (aroundF by' 3).tmod cm = tm at hb1 m1 m2 ⊢
      have w2 : IntKind.i64.wrap (127 + tm) = 127 + tm := w64 (by omega)
      have u1 : 0 ≤ 127 + tm ∧ 127 + tm ≤ (p.length : Int) + 128 := by omega
      simp [w2, bnds, u1]
      refine fin _ _ (127 + tm).toNat 0 0 0 L _ rfl rfl (by omega) ?_
      rw [hb1, ← hL0, List.map_take]
  rw [if_neg c5] at hb1
  have hsz1 : (p.length + 1) * 32 ≤ 140737488355328 ∧ p.length + 1 ≤ i64max := by simp [i64max]; omega
  have hgn : getN ((encI q).map .f) 0 4 = some (.ag ((encI q).map .f)) := rfl
  simp [f12r9, f12r11, f12r13, f12r15, f12r17, f12r19, f12r8, binF, binI, c0, c1, c2, c3, c4, c5, hk, hk2, hg, hq, getN, encI, iI, hsz1, htk0]
  refine fin _ _ (p.length + 1) 3 0 0 _ _ rfl rfl (by simp) ?_
  rw [List.take_of_length_le (by simp), hb1]
  simp [encI, iI]
end Go.Absw
