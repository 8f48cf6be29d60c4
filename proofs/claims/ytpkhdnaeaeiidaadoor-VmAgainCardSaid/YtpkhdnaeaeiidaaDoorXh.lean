/- Contracts of the reference's reading of texts. Conditions: told at each. -/
import Derived.Test.YtpkhdnaeaeiidaaDoorXg
import Derived.Test.YtpkhdnaeaeiidaaDoorTg
import Derived.Test.YtpkhdnaeaeiidaaDoorXd
set_option linter.unusedSimpArgs false
set_option linter.unusedVariables false

/- Contracts of SamePrograms, plain, Words and Short. -/
namespace Go.Absw
open Go Go.Proofs
set_option maxRecDepth 100000

@[simp] theorem sR_eqs4 {σ : St} {ft : List Nat} (neg : Bool) (a b c d a' b' c' d' : Int) : semR σ ft (.eqs neg [0, 0, 0, 0]) [.ag [.f (.int .i64 a), .f (.int .i64 b), .f (.int .i64 c), .f (.int .i64 d)], .ag [.f (.int .i64 a'), .f (.int .i64 b'), .f (.int .i64 c'), .f (.int .i64 d')]] =
    some (.f (.bool (if neg = true then !(decide (a = a') && (decide (b = b') && (decide (c = c') && decide (d = d')))) else (decide (a = a') && (decide (b = b') && (decide (c = c') && decide (d = d'))))))) := by
  simp [semR, fvs?, eqFs]

theorem sameP_ct {G : Env} (hP : G.P = Tryd.prog) {p : List Ins} (hlen : p.length < 1000000000) : CT G 30 ⟨[.f (encP p), .f (encP p)], []⟩ ⟨.f (.bool true), [], []⟩ := by
  refine ct_of_body (N := []) (pc := f30pc) (rs := f30rs) (by rw [hP]; exact f30ok) ?_
  rw [entry_mk]
  simp [f30pc, f30r0, f30r1, f30r3, encP, binF, binI]
  unfold f30l0
  refine pwp_loop (α := Nat) (fun i => mkSt [(0, .f (encP p)), (1, .f (encP p)), (5, .f (.int .i64 (i : Int)))] []) (fun i => i ≤ p.length) (fun i => p.length - i) 0 (by omega) (by simp [keepSt, encP]) ?_
  intro i hi
  by_cases hlt : i < p.length
  · have hlt' : (i : Int) < p.length := by omega
    have hnth : nth (p.map encI) (i : Int) = some (encI p[i]) := by simp [nth, hlt]
    have w1 : IntKind.i64.wrap ((i : Int) + 1) = (i : Int) + 1 := w64 (by omega)
    generalize p[i] = q at *
    simp [f30r4, f30r6, f30r5, encP, binF, binI, hlt, hlt', hnth, w1, keepSt, encI, iI, getN]
    exact ⟨i + 1, by omega, by omega, rfl⟩
  · have hlt' : ¬ (i : Int) < p.length := by omega
    simp [f30r4, encP, binF, binI, hlt, hlt']
    simp [f30r8, retQ, outSt, f30rs, rvals, RArg.val, resPV]

theorem plain_ct' {G : Env} (hP : G.P = Tryd.prog) {p : List Ins} (hl : p.length < 1000000) : CT G 31 ⟨[.f (encP p)], []⟩ ⟨.f (encP p), [], []⟩ := by
  refine ct_of_body (N := []) (pc := f31pc) (rs := f31rs) (by rw [hP]; exact f31ok) ?_
  rw [entry_mk]
  simp [f31pc, f31r0, f31r1, f31r2, encP, ghSt]
  unfold f31l0
  refine pwp_loop (α := Nat) (fun i => mkSt [(0, .f (encP p)), (3, .ts 103 0 i 0), (4, .f (.int .i64 (i : Int)))] [(103, ⟨0, .row 58 4 0 0 ((p.take i).map encI)⟩)]) (fun i => i ≤ p.length) (fun i => p.length - i) 0 (by omega) (by simp [keepSt, encP]) ?_
  intro i hi
  by_cases hlt : i < p.length
  · have hlt' : (i : Int) < p.length := by omega
    have hnth : nth (p.map encI) (i : Int) = some (encI p[i]) := by simp [nth, hlt]
    have w1 : IntKind.i64.wrap ((i : Int) + 1) = (i : Int) + 1 := w64 (by omega)
    have htk : (p.map encI).take (i + 1) = (p.map encI).take i ++ [encI p[i]] := by rw [List.take_succ_eq_append_getElem (by simpa using hlt)]; simp
    generalize p[i] = q at *
    have hszi : (i + 1) * 32 ≤ 140737488355328 ∧ i + 1 ≤ i64max := by simp [i64max]; omega
    have htki : List.take i (List.take i (p.map encI)) = List.take i (p.map encI) := by rw [List.take_take]; simp
    have hmin : min i p.length = i := by omega
    simp [f31r3, f31r5, f31r4, encP, binF, binI, hlt, hlt', hnth, w1, keepSt, encI, iI, htki, hszi, hmin, hi]
    refine ⟨i + 1, by omega, by omega, ?_⟩
    rw [htk]; simp [encI, iI]
  · have hil : i = p.length := by omega
    subst hil
    have hte : List.take p.length (p.map encI) = p.map encI := List.take_of_length_le (by simp)
    simp [f31r3, encP, binF, binI]
    simp [f31r6, retQ, outSt, f31rs, rvals, RArg.val, resPV, ghSt, hte, encP]

def wordsR : List (List UInt8) := opsT.map (·.word)
theorem words_ct {G : Env} (hP : G.P = Tryd.prog) : CT G 51 ⟨[], []⟩ ⟨.f (encS wordsR), [], []⟩ := by
  refine ct_of_body (N := []) (pc := f51pc) (rs := f51rs) (by rw [hP]; exact f51ok) ?_
  rw [entry_mk]
  simp [f51pc, f51r0, f51r1, retQ, outSt, f51rs, rvals, RArg.val, resPV, ghSt, encS, wordsR, opsT, List.replicate]

theorem short_ct {G : Env} (hP : G.P = Tryd.prog) (s : List UInt8) (most : Nat) : CT G 25 ⟨[.f (.str s), .f (.int .i64 (most : Int))], []⟩ ⟨.f (.str (s.take most)), [], []⟩ := by
  refine ct_of_body (N := []) (pc := f25pc) (rs := f25rs) (by rw [hP]; exact f25ok) ?_
  rw [entry_mk]
  by_cases h : most < s.length
  · have h' : (most : Int) < s.length := by omega
    have h0 : (0 : Int) ≤ most := by omega
    have h1 : (most : Int) ≤ s.length := by omega
    have h2 : most ≤ s.length := by omega
    simp [f25pc, f25r0, f25r1, f25r2, retQ, outSt, f25rs, rvals, RArg.val, resPV, binF, binI, h, h', bnds, h0, h1, h2]
  · have h' : ¬ (most : Int) < s.length := by omega
    have ht : s.take most = s := List.take_of_length_le (by omega)
    simp [f25pc, f25r0, f25r1, f25r3, retQ, outSt, f25rs, rvals, RArg.val, resPV, binF, binI, h, h', ht]
end Go.Absw

/- Contract of dioramaref29.Number. -/
namespace Go.Absw
open Go Go.Proofs
set_option maxRecDepth 100000

theorem rnumber_ct {G : Env} (hP : G.P = Tryd.prog) (s : List UInt8) (hs : s.length < 1000000000) :
    CT G 63 ⟨[.f (.str s)], []⟩ ⟨.tup [.f (.int .i64 ((numberF s).getD 0)), .f (.bool (numberF s).isSome)], [], []⟩ := by
  refine ct_of_body (N := []) (pc := f63pc) (rs := f63rs) (by rw [hP]; exact f63ok) ?_
  rw [entry_mk]
  simp [f63pc, f63r0, f63r1]
  refine join_k (mkSt [(0, .f (.str (tpF s [45]))), (4, .f (.int .i64 (if s.head? = some 45 then -1 else 1)))] []) ?_ ?_
  · cases s with
    | nil => simp [f63r2, binF, binI, keepSt, tpF]
    | cons c r =>
      have hp : (0 : Int) < (r.length : Int) + 1 := by omega
      have hn : nth (c :: r) (0 : Int) = some c := rfl
      by_cases hc : c = 45
      · subst hc
        have e1 : (0 : Int) ≤ (r.length : Int) + 1 := by omega
        have e2 : (1 : Int) ≤ (r.length : Int) + 1 := by omega
        simp [f63r2, f63r3, f63r4, f63r5, binF, binI, keepSt, tpF, hp, hn, bnds, e1, e2]
      · have hc' : ¬ (c.toNat : Int) = 45 := fun e => hc (UInt8.toNat_inj.1 (by simpa using (by omega : c.toNat = 45)))
        have hc2 : ¬ c.toNat = 45 := by omega
        simp [f63r2, f63r3, binF, binI, keepSt, tpF, hp, hn, hc, hc', hc2]
  have hval : atoiF s = (if s.head? = some 45 then -1 else 1) * decN (tpF s [45]) 0 := by
    obtain ⟨d, rfl, ed⟩ | ⟨hne, ed⟩ := tp45 s
    · rw [ed]; simp [atoiF]
    · rw [ed]; simp [atoiF, hne]
  have hnum : numberF s = if (tpF s [45]).length < 1 ∨ 7 < (tpF s [45]).length ∨ (tpF s [45]).all isDig = false then none else some (atoiF s) := rfl
  have hdl : (tpF s [45]).length ≤ s.length := by
    unfold tpF; split
    · simp
    · exact Nat.le_refl _
  have hsg : (if s.head? = some 45 then (-1 : Int) else 1) = -1 ∨ (if s.head? = some 45 then (-1 : Int) else 1) = 1 := by split <;> simp
  generalize tpF s [45] = d at *
  generalize (if s.head? = some 45 then (-1 : Int) else 1) = sg at *
  generalize numberF s = R at *
  generalize atoiF s = V at *
  simp [f63r6, f63r7]
  unfold f63l0
  have hbnd : ∀ i, i ≤ 7 → (d.take i).all isDig = true → 0 ≤ decN (d.take i) 0 ∧ decN (d.take i) 0 < 10000000 := by
    intro i hi ha
    have h := decN_bnd (d.take i) 0 (List.all_eq_true.1 ha) (by omega)
    have := pow7 (d.take i).length (by rw [List.length_take]; omega)
    omega
  refine pwp_loop (α := Nat) (fun i => mkSt [(0, .f (.str d)), (4, .f (.int .i64 sg)), (5, .f (.int .i64 (decN (d.take i) 0))), (6, .f (.int .i64 (i : Int)))] []) (fun i => i ≤ d.length ∧ i ≤ 7 ∧ (d.take i).all isDig = true) (fun i => d.length - i) 0 ⟨by omega, by omega, by simp⟩ (by simp [keepSt, decN]) ?_
  rintro i ⟨hi, hi7, hall⟩
  have hv := hbnd i hi7 hall
  by_cases hlt : i < d.length
  · have hlt' : (i : Int) < d.length := by omega
    have hn : nth d (i : Int) = some d[i] := nthN d i hlt
    have htk : d.take (i + 1) = d.take i ++ [d[i]] := by rw [List.take_succ_eq_append_getElem hlt]
    have hmem := List.getElem_mem hlt
    have hcode : isDig d[i] = (decide (48 ≤ d[i].toNat) && decide (d[i].toNat ≤ 57)) := rfl
    generalize d[i] = b at *
    by_cases hb1 : b.toNat < 48
    · have hb1' : (b.toNat : Int) < 48 := by omega
      have hR : R = none := by
        rw [hnum, if_pos]
        right; right
        rw [List.all_eq_false]
        exact ⟨b, hmem, by simp [isDig]; omega⟩
      simp [f63r8, f63r10, f63r11, retQ, outSt, f63rs, rvals, RArg.val, resPV, binF, binI, hlt, hlt', hn, hb1, hb1', hR]
    have hb1' : ¬ (b.toNat : Int) < 48 := by omega
    by_cases hb2 : 57 < b.toNat
    · have hb2' : (57 : Int) < (b.toNat : Int) := by omega
      have hR : R = none := by
        rw [hnum, if_pos]
        right; right
        rw [List.all_eq_false]
        exact ⟨b, hmem, by simp [isDig]; omega⟩
      simp [f63r8, f63r10, f63r11, retQ, outSt, f63rs, rvals, RArg.val, resPV, binF, binI, hlt, hlt', hn, hb1, hb1', hb2, hb2', hR]
    have hb2' : ¬ (57 : Int) < (b.toNat : Int) := by omega
    by_cases h6 : 6 < i
    · have h6' : (6 : Int) < (i : Int) := by omega
      have hR : R = none := by
        rw [hnum, if_pos]
        right; left; omega
      simp [f63r8, f63r10, f63r11, retQ, outSt, f63rs, rvals, RArg.val, resPV, binF, binI, hlt, hlt', hn, hb1, hb1', hb2, hb2', h6, h6', hR]
    have h6' : ¬ (6 : Int) < (i : Int) := by omega
    have hall' : (d.take (i + 1)).all isDig = true := by
      rw [htk, List.all_append, hall]
      simp [isDig]; omega
    have hv' := hbnd (i + 1) (by omega) hall'
    have hnx : decN (d.take (i + 1)) 0 = decN (d.take i) 0 * 10 + ((b.toNat : Int) - 48) := by rw [htk, decN_app]
    rw [hnx] at hv'
    have w1 : IntKind.u8.wrap ((b.toNat : Int) - 48) = (b.toNat : Int) - 48 := wrapu8 (by omega)
    have w2 : IntKind.i64.wrap (10 * decN (d.take i) 0) = 10 * decN (d.take i) 0 := w64 (by omega)
    have w3 : IntKind.i64.wrap ((b.toNat : Int) - 48) = (b.toNat : Int) - 48 := w64 (by omega)
    have w4 : IntKind.i64.wrap (10 * decN (d.take i) 0 + ((b.toNat : Int) - 48)) = decN (d.take i) 0 * 10 + ((b.toNat : Int) - 48) := by rw [w64 (by omega)]; omega
    have w5 : IntKind.i64.wrap ((i : Int) + 1) = (i : Int) + 1 := w64 (by omega)
    simp [f63r8, f63r10, f63r12, f63r9, binF, binI, hlt, hlt', hn, hb1, hb1', hb2, hb2', h6, h6', w1, w2, w3, w4, w5, keepSt]
    exact ⟨i + 1, ⟨by omega, by omega, by simpa using hall'⟩, by omega, by rw [hnx]; rfl⟩
  · have hil : i = d.length := by omega
    subst hil
    rw [List.take_length] at *
    have w1 : IntKind.i64.wrap (sg * decN d 0) = sg * decN d 0 := w64 (by rcases hsg with h | h <;> rw [h] <;> omega)
    have hall2 : ¬ d.all isDig = false := by rw [hall]; simp
    by_cases h0 : d.length = 0
    · have hd0 : d = [] := List.eq_nil_of_length_eq_zero h0
      subst hd0
      have hR : R = none := by rw [hnum, if_pos]; left; simp
      simp [f63r8, f63r13, retQ, outSt, f63rs, rvals, RArg.val, resPV, binF, binI, hR, decN]
      exact w64 (by omega)
    · have h0' : (0 : Int) < d.length := by omega
      have h0'' : 0 < d.length := by omega
      have hR : R = some V := by rw [hnum, if_neg]; rintro (h | h | h); omega; omega; exact hall2 h
      simp [f63r8, f63r13, retQ, outSt, f63rs, rvals, RArg.val, resPV, binF, binI, hR, w1, h0', h0'', hval]
end Go.Absw

/- Contract of dioramaref09.Scan. -/
namespace Go.Absw
open Go Go.Proofs
set_option maxRecDepth 100000

def scanF (s : List UInt8) : Nat → Nat → List (Nat × Nat) × Nat
  | 0, i => ([], i)
  | f + 1, i => if tokW s (tokA s i) = [] then ([], tokA s i) else
    ((tokA s i, tokA s i + (tokW s (tokA s i)).length) :: (scanF s f (tokA s i + (tokW s (tokA s i)).length)).1, (scanF s f (tokA s i + (tokW s (tokA s i)).length)).2)
def scanA (s : List UInt8) : List (Nat × Nat) × Nat := scanF s (s.length + 1) 0
def encT (t : Nat × Nat) : List FV := [.int .i64 (t.1 : Int), .int .i64 (t.2 : Int)]

theorem tokA_blank {s : List UInt8} {i : Nat} (h : i < s.length) (hb : blank s[i] = true) : tokA s i = tokA s (i + 1) := by
  unfold tokA; rw [drop_cons s i h, List.takeWhile_cons, if_pos hb, List.length_cons]; omega
theorem tokA_self {s : List UInt8} {i : Nat} (h : i < s.length) (hb : blank s[i] = false) : tokA s i = i := by
  unfold tokA; rw [drop_cons s i h, List.takeWhile_cons, hb]; simp
theorem tokA_stop {s : List UInt8} {i : Nat} (h : s.length ≤ i) : tokA s i = i ∧ tokW s i = [] := by
  constructor
  · unfold tokA; rw [List.drop_eq_nil_of_le h]; simp
  · unfold tokW; rw [List.drop_eq_nil_of_le h]; simp
theorem scanF_len (s : List UInt8) : ∀ (f i : Nat), i ≤ s.length → (scanF s f i).1.length + i ≤ s.length
  | 0, i, h => by simpa [scanF] using h
  | f + 1, i, h => by
    unfold scanF
    have h1 := tokA_le s i h
    have h0 := tokA_ge s i
    have h2 := tokW_le s (tokA s i) h1
    split
    · simpa using h
    · rename_i hne
      have := scanF_len s f (tokA s i + (tokW s (tokA s i)).length) h2
      have hp : 1 ≤ (tokW s (tokA s i)).length := by
        cases hw : tokW s (tokA s i) with
        | nil => exact absurd hw hne
        | cons a b => simp
      simp only [List.length_cons]
      omega

/-- The loop over a token's bytes. -/
theorem scan1 {G : Env} (s : List UInt8) (hs : s.length < 1000000000) (i n : Nat) (hi : i ≤ s.length) (rows : List (List FV)) {σ : St} {Q : PX → St → Prop}
    (h0 : keepSt σ [0, 4, 5, 6] [104] = mkSt [(0, .f (.str s)), (4, .ts 104 0 n 0), (5, .f (.int .i64 (i : Int))), (6, .f (.int .i64 (i : Int)))] [(104, ⟨0, .row 133 2 0 0 rows⟩)])
    (hQ : ∀ l, lkS l 0 = .f (.str s) → lkS l 4 = .ts 104 0 n 0 → lkS l 5 = .f (.int .i64 (i : Int)) → lkS l 6 = .f (.int .i64 ((i + (tokW s i).length : Nat) : Int)) → Q .normal (mkSt l [(104, ⟨0, .row 133 2 0 0 rows⟩)])) :
    pwp G (.loop f58l1) (PX.inBlock 2 Q) σ := by
  unfold f58l1
  refine pwp_loop (α := Nat) (fun e => mkSt [(0, .f (.str s)), (4, .ts 104 0 n 0), (5, .f (.int .i64 (i : Int))), (6, .f (.int .i64 (e : Int)))] [(104, ⟨0, .row 133 2 0 0 rows⟩)])
    (fun e => e ≤ s.length ∧ e + (tokW s e).length = i + (tokW s i).length) (fun e => s.length - e) i ⟨hi, rfl⟩ h0 ?_
  rintro e ⟨hes, hew⟩
  by_cases hle : e < s.length
  · have hle' : (e : Int) < s.length := by omega
    have hne := nthN s e hle
    have hd := drop_cons s e hle
    have w2 : IntKind.i64.wrap ((e : Int) + 1) = (e : Int) + 1 := w64 (by omega)
    by_cases hk : ink s[e] = true
    · have hew' : e + 1 + (tokW s (e + 1)).length = i + (tokW s i).length := by
        rw [← hew]; unfold tokW; rw [hd, List.takeWhile_cons, if_pos hk, List.length_cons]; omega
      simp only [ink, Bool.and_eq_true, decide_eq_true_eq] at hk
      generalize s[e] = b at *
      have c1 : (32 : Int) < (b.toNat : Int) := by omega
      have c2 : (b.toNat : Int) < 127 := by omega
      simp [f58r7, f58r8, binF, binI, hle, hle', hne, c1, c2, show 32 < b.toNat by omega, show b.toNat < 127 by omega, w2, keepSt]
      exact ⟨e + 1, ⟨by omega, hew'⟩, by omega, rfl⟩
    · have hw0 : tokW s e = [] := by unfold tokW; rw [hd, List.takeWhile_cons, if_neg hk]
      rw [hw0] at hew
      have he : e = i + (tokW s i).length := by simpa using hew
      simp only [ink, Bool.and_eq_true, decide_eq_true_eq] at hk
      generalize s[e] = b at *
      by_cases h1 : 32 < b.toNat
      · have c1 : (32 : Int) < (b.toNat : Int) := by omega
        have c2 : ¬ (b.toNat : Int) < 127 := by omega
        simp [f58r7, binF, binI, hle, hle', hne, c1, c2, h1, show ¬ b.toNat < 127 by omega]
        exact hQ _ rfl rfl rfl (by rw [← he]; rfl)
      · have c1 : ¬ (32 : Int) < (b.toNat : Int) := by omega
        simp [f58r7, binF, binI, hle, hle', hne, c1, h1]
        exact hQ _ rfl rfl rfl (by rw [← he]; rfl)
  · have hle' : ¬ (e : Int) < s.length := by omega
    have hw0 := (tokA_stop (s := s) (i := e) (by omega)).2
    rw [hw0] at hew
    have he : e = i + (tokW s i).length := by simpa using hew
    simp [f58r7, binF, binI, hle, hle']
    exact hQ _ rfl rfl rfl (by rw [← he]; rfl)

theorem scan_ct {G : Env} (hP : G.P = Tryd.prog) (s : List UInt8) (hs : s.length < 1000000000) :
    CT G 58 ⟨[.f (.str s)], []⟩ ⟨.tup [.f (.sl 2 ((scanA s).1.map encT)), .f (.int .i64 ((scanA s).2 : Int))], [], []⟩ := by
  refine ct_of_body (N := []) (pc := f58pc) (rs := f58rs) (by rw [hP]; exact f58ok) ?_
  rw [entry_mk]
  simp [f58pc, f58r0, f58r1, f58r2, ghSt]
  unfold f58l0
  have hfull : scanA s = scanF s (s.length + 1) 0 := rfl
  have hlenA : (scanA s).1.length ≤ s.length := by have := scanF_len s (s.length + 1) 0 (by omega); rw [← hfull] at this; omega
  generalize scanA s = R at *
  refine pwp_loop (α := List (Nat × Nat) × Nat × Nat) (fun x => mkSt [(0, .f (.str s)), (4, .ts 104 0 x.1.length 0), (5, .f (.int .i64 (x.2.1 : Int)))] [(104, ⟨0, .row 133 2 0 0 (x.1.map encT)⟩)])
    (fun x => x.2.1 ≤ s.length ∧ s.length < x.2.1 + x.2.2 ∧ x.1 ++ (scanF s x.2.2 x.2.1).1 = R.1 ∧ (scanF s x.2.2 x.2.1).2 = R.2) (fun x => s.length - x.2.1) ([], 0, s.length + 1) ⟨by simp, by simp, by rw [hfull]; rfl, by rw [hfull]⟩ (by simp [keepSt]) ?_
  rintro ⟨out, i, f⟩ ⟨hi, hf, h1, h2⟩
  simp only at hi hf h1 h2
  obtain ⟨f, rfl⟩ : ∃ f', f = f' + 1 := ⟨f - 1, by omega⟩
  have hol : out.length ≤ s.length := by rw [← h1, List.length_append] at hlenA; omega
  by_cases hlt : i < s.length
  · have hlt' : (i : Int) < s.length := by omega
    have hn := nthN s i hlt
    have w1 : IntKind.i64.wrap ((i : Int) + 1) = (i : Int) + 1 := w64 (by omega)
    by_cases hb : blank s[i] = true
    · have hA := tokA_blank hlt hb
      have hsc : scanF s (f + 1) i = scanF s (f + 1) (i + 1) := by unfold scanF; rw [hA]
      rw [hsc] at h1 h2
      simp only [blank, Bool.or_eq_true, decide_eq_true_eq] at hb
      generalize s[i] = b at *
      by_cases h32 : b.toNat = 32
      · simp [f58r3, f58r4, f58r5, binF, binI, hlt, hlt', hn, h32, w1, keepSt]
        exact ⟨out, i + 1, ⟨by omega, f + 1, by omega, h1, h2⟩, by omega, rfl⟩
      · have h10 : b.toNat = 10 := by omega
        simp [f58r3, f58r4, f58r5, binF, binI, hlt, hlt', hn, h10, w1, keepSt]
        exact ⟨out, i + 1, ⟨by omega, f + 1, by omega, h1, h2⟩, by omega, rfl⟩
    · have hb' : blank s[i] = false := by simpa using hb
      have hA := tokA_self hlt hb'
      have hWl := tokW_le s i hi
      unfold scanF at h1 h2
      rw [hA] at h1 h2
      simp only [blank, Bool.or_eq_false_iff, decide_eq_false_iff_not] at hb'
      have n1 : ¬ ((s[i].toNat : Nat) : Int) = 32 := by omega
      have n2 : ¬ ((s[i].toNat : Nat) : Int) = 10 := by omega
      have m1 : ¬ s[i].toNat = 32 := by omega
      have m2 : ¬ s[i].toNat = 10 := by omega
      simp [f58r3, f58r4, f58r6, binF, binI, hlt, hlt', hn, n1, n2, m1, m2]
      refine scan1 s hs i out.length hi (out.map encT) (by simp [keepSt]) ?_
      intro l e0 e4 e5 e6
      by_cases hw : tokW s i = []
      · rw [if_pos hw] at h1 h2
        rw [hw] at e6
        simp at h1 h2 e6
        have hte : List.take out.length (out.map encT) = out.map encT := List.take_of_length_le (by simp)
        simp [f58r9, f58r10, e0, e4, e5, e6, binF, binI, ghSt]
        simp [retQ, outSt, f58rs, rvals, RArg.val, resPV, hte, ← h1, ← h2]
      · rw [if_neg hw] at h1 h2
        have hwp : ¬ ((i + (tokW s i).length : Nat) : Int) = (i : Int) := by
          cases hw2 : tokW s i with
          | nil => exact absurd hw2 hw
          | cons a b => simp; omega
        have hwl : 1 ≤ (tokW s i).length := by
          cases hw2 : tokW s i with
          | nil => exact absurd hw2 hw
          | cons a b => simp
        generalize (tokW s i).length = wl at *
        have hte : List.take out.length (out.map encT) = out.map encT := List.take_of_length_le (by simp)
        have hszo : (out.length + 1) * 16 ≤ 140737488355328 ∧ out.length + 1 ≤ i64max := by simp [i64max]; omega
        have hee : ((i + wl : Nat) : Int) = (i : Int) + wl := by omega
        generalize hE : ((i + wl : Nat) : Int) = E at *
        simp [f58r9, f58r11, f58r12, e0, e4, e5, e6, binF, binI, hwp, hte, hszo, keepSt]
        refine ⟨out ++ [(i, i + wl)], i + wl, ⟨by omega, f, by omega, by simpa using h1, by simpa using h2⟩, by omega, ?_⟩
        simp [encT, hE]
  · have hil : i = s.length := by omega
    subst hil
    obtain ⟨a1, a2⟩ := tokA_stop (s := s) (i := s.length) (Nat.le_refl _)
    unfold scanF at h1 h2
    rw [a1, if_pos a2] at h1 h2
    simp at h1 h2
    have hte : List.take out.length (out.map encT) = out.map encT := List.take_of_length_le (by simp)
    simp [f58r3, binF, binI]
    simp [f58r13, retQ, outSt, f58rs, rvals, RArg.val, resPV, ghSt, hte, ← h1, ← h2]
end Go.Absw

/- dioramaref29.Parse: what it needs of the sorts, and the search for a word. -/
namespace Go.Absw
open Go Go.Proofs
set_option maxRecDepth 100000

/-- The text of the sorts that are left, and their numbers. -/
inductive Gd : List UInt8 → List Int → Prop
  | nil : Gd [] []
  | zero (r : List UInt8) (t : List Int) (h : ∀ x ∈ t, x = 0) : Gd (45 :: r) (0 :: t)
  | cons (c : UInt8) (r : List UInt8) (l : Int) (t : List Int) (hc : c ≠ 45) (hl : l ≠ 0) (h : Gd r t) : Gd (c :: r) (l :: t)
theorem argF_zero (s : List UInt8) : ∀ (t : List Int) (k : Nat) (v : List Int) (a : Nat) (w : List UInt8), (∀ x ∈ t, x = 0) → argF s t k v a w = .ok v a w
  | [], k, v, a, w, _ => rfl
  | x :: t, k, v, a, w, h => by
    rw [argF, if_pos (h x (by simp))]
    exact argF_zero s t (k + 1) v a w (fun y hy => h y (by simp [hy]))
theorem sorts_gd : ∀ m : Nat, m < 9 → ∃ c r l t, sortsR[m]? = some (c :: r) ∧ opArgs (nth0 opsT (m : Int)) = l :: t ∧ c ≠ 45 ∧ l ≠ 0 ∧ Gd r t ∧ t.length = 2 := by
  intro m hm
  have z2 : Gd [45, 45] [0, 0] := .zero _ _ (by simp)
  have z1 : Gd [45] [0] := .zero _ _ (by simp)
  match m, hm with
  | 0, _ => exact ⟨99, [45, 45], 1, [0, 0], rfl, rfl, by decide, by decide, z2, rfl⟩
  | 1, _ => exact ⟨114, [110, 45], 2, [3, 0], rfl, rfl, by decide, by decide, .cons _ _ _ _ (by decide) (by decide) z1, rfl⟩
  | 2, _ => exact ⟨114, [114, 114], 2, [2, 2], rfl, rfl, by decide, by decide, .cons _ _ _ _ (by decide) (by decide) (.cons _ _ _ _ (by decide) (by decide) .nil), rfl⟩
  | 3, _ => exact ⟨114, [114, 114], 2, [2, 2], rfl, rfl, by decide, by decide, .cons _ _ _ _ (by decide) (by decide) (.cons _ _ _ _ (by decide) (by decide) .nil), rfl⟩
  | 4, _ => exact ⟨114, [107, 45], 2, [4, 0], rfl, rfl, by decide, by decide, .cons _ _ _ _ (by decide) (by decide) z1, rfl⟩
  | 5, _ => exact ⟨114, [107, 102], 2, [4, 5], rfl, rfl, by decide, by decide, .cons _ _ _ _ (by decide) (by decide) (.cons _ _ _ _ (by decide) (by decide) .nil), rfl⟩
  | 6, _ => exact ⟨105, [45, 45], 6, [0, 0], rfl, rfl, by decide, by decide, z2, rfl⟩
  | 7, _ => exact ⟨114, [114, 105], 2, [2, 6], rfl, rfl, by decide, by decide, .cons _ _ _ _ (by decide) (by decide) (.cons _ _ _ _ (by decide) (by decide) .nil), rfl⟩
  | 8, _ => exact ⟨114, [114, 105], 2, [2, 6], rfl, rfl, by decide, by decide, .cons _ _ _ _ (by decide) (by decide) (.cons _ _ _ _ (by decide) (by decide) .nil), rfl⟩

/-- The last of the first k words that is w. -/
def rIx (w : List UInt8) : Nat → Int
  | 0 => -1
  | k + 1 => if wordsR.getD k [] = w then (k : Int) else rIx w k
theorem rIx_eq (w : List UInt8) : rIx w 9 = opIx w opsT 0 := by
  have hnf : ∀ i j : Fin 9, wordsR.getD i [] = wordsR.getD j [] → i = j := by decide
  have hnd : ∀ i j : Nat, i < 9 → j < 9 → wordsR.getD i [] = wordsR.getD j [] → i = j := fun i j hi hj h => congrArg Fin.val (hnf ⟨i, hi⟩ ⟨j, hj⟩ h)
  have e : ∀ k, k ≤ 9 → rIx w k = -1 ∨ ∃ j, j < k ∧ rIx w k = (j : Int) ∧ wordsR.getD j [] = w := by
    intro k
    induction k with
    | zero => intro _; exact .inl rfl
    | succ k ih =>
      intro hk
      by_cases h : wordsR.getD k [] = w
      · right; exact ⟨k, by omega, by rw [rIx, if_pos h], h⟩
      · rw [rIx, if_neg h]
        rcases ih (by omega) with h1 | ⟨j, hj, h1, h2⟩
        · exact .inl h1
        · exact .inr ⟨j, by omega, h1, h2⟩
  have e2 : ∀ k, k ≤ 9 → ∀ j, j < k → wordsR.getD j [] = w → rIx w k = (j : Int) := by
    intro k
    induction k with
    | zero => intro _ j hj; omega
    | succ k ih =>
      intro hk j hj hw
      by_cases h : wordsR.getD k [] = w
      · have : k = j := hnd k j (by omega) (by omega) (h.trans hw.symm)
        subst this; rw [rIx, if_pos h]
      · rw [rIx, if_neg h]
        have : j ≠ k := fun e => h (e ▸ hw)
        exact ih (by omega) j (by omega) hw
  have gen : ∀ (l : List OpD) (n : Nat), (opIx w l n = -1 ∧ ∀ o ∈ l, o.word ≠ w) ∨ ∃ j o, l[j]? = some o ∧ o.word = w ∧ opIx w l n = ((n + j : Nat) : Int) := by
    intro l
    induction l with
    | nil => intro n; exact .inl ⟨rfl, by simp⟩
    | cons o r ih =>
      intro n
      by_cases h : o.word = w
      · exact .inr ⟨0, o, rfl, h, by rw [opIx, if_pos h]; simp⟩
      · rw [opIx, if_neg h]
        rcases ih (n + 1) with ⟨h1, h2⟩ | ⟨j, o', h1, h2, h3⟩
        · exact .inl ⟨h1, fun o' ho' => by rcases List.mem_cons.1 ho' with rfl | h'; exact h; exact h2 o' h'⟩
        · exact .inr ⟨j + 1, o', by simpa using h1, h2, by rw [h3]; congr 1; omega⟩
  rcases gen opsT 0 with ⟨h1, h2⟩ | ⟨j, o, h1, h2, h3⟩
  · rw [h1]
    rcases e 9 (by omega) with h | ⟨j, hj, _, hw⟩
    · exact h
    · exfalso
      have hj' : j < opsT.length := hj
      have : wordsR.getD j [] = opsT[j].word := by simp [wordsR, List.getD, hj']
      exact h2 opsT[j] (List.getElem_mem hj') (by rw [← this]; exact hw)
  · rw [h3]
    have hj : j < opsT.length := (List.getElem?_eq_some_iff.1 h1).1
    have hj9 : j < 9 := hj
    rw [e2 9 (by omega) j hj9 (by simp [wordsR, List.getD, h1, h2])]
    simp

end Go.Absw

/- Contract of dioramaref29.Parse. -/
namespace Go.Absw
open Go Go.Proofs
set_option maxRecDepth 100000

section
variable {s : List UInt8}
/-- What is read of a text once the instruction under way is complete. -/
def contF (s : List UInt8) (g : Nat) (p : List Ins) (m : Int) : ArgR → PRes
  | .bad a' => ⟨none, a', 2⟩
  | .ok v a' w' => goF s g (p ++ [⟨m, v.getD 0 0, v.getD 1 0, v.getD 2 0⟩]) (tokA s (a' + w'.length)) (tokW s (tokA s (a' + w'.length)))
theorem goF_op {g : Nat} {p : List Ins} {a : Nat} {w : List UInt8} (hw : w ≠ []) {m : Nat} (hm : opIx w opsT 0 = m) : goF s (g + 1) p a w = contF s g p m (argF s (opArgs (nth0 opsT (m : Int))) 0 [0, 0, 0] a w) := by
  rw [goF, if_neg hw, hm, if_neg (by omega)]
  rfl
/-- Where the text is read on. -/
inductive Md (s : List UInt8) (pos : Nat) (F : PRes) : List UInt8 → List Ins → PV → TC → Int → Prop
  | idle (g : Nat) (p : List Ins) (n9 : Nat) (r9 : List (List FV)) (op : Int) (hg : s.length < tokA s pos + g) (hF : goF s g p (tokA s pos) (tokW s (tokA s pos)) = F) : Md s pos F [] p (.ts 109 0 n9 0) (.row 3 1 0 0 r9) op
  | read (g : Nat) (p : List Ins) (m : Nat) (c : UInt8) (r : List UInt8) (l : Int) (t : List Int) (nums : List Int) (v : List Int) (a : Nat) (w : List UInt8) (x9 : PV) (t9 : TC)
      (hg : s.length < pos + g) (hc : c ≠ 45) (hl : l ≠ 0) (hgd : Gd r t) (hk : nums.length + t.length = 2) (hv : v = nums ++ List.replicate (3 - nums.length) 0) (hpos : a + w.length = pos)
      (hF : contF s g p m (argF s (l :: t) nums.length v a w) = F) (h9 : (nums = [] ∧ x9 = .f .nils ∧ t9 = .gone) ∨ (nums ≠ [] ∧ x9 = .ts 109 0 nums.length 0 ∧ t9 = .row 3 1 0 0 (nums.map fun n => [iI n]))) :
      Md s pos F (c :: r) p x9 t9 (m : Int)
end

theorem take_tok (s : List UInt8) (a : Nat) : List.take (tokW s a).length (List.drop a s) = tokW s a := take_tw ink _

/-- The search for a word. -/
theorem rloop1 {G : Env} (hP : G.P = Tryd.prog) (W : List UInt8) (s : List UInt8) (T : FV) (E i n : Nat) (rows : List (List FV)) {σ : St} {Q : PX → St → Prop}
    (h0 : keepSt σ [0, 5, 6, 7, 10, 11, 12, 13] [107] = mkSt [(0, .f (.str s)), (5, .f T), (6, .f (.int .i64 (E : Int))), (7, .ts 107 0 n 0), (10, .f (.int .i64 (-1))), (11, .f (.int .i64 (i : Int))), (12, .f (.str W)), (13, .f (.int .i64 0))] [(107, ⟨0, .row 58 4 0 0 rows⟩)])
    (hQ : ∀ l, lkS l 0 = .f (.str s) → lkS l 5 = .f T → lkS l 6 = .f (.int .i64 (E : Int)) → lkS l 7 = .ts 107 0 n 0 → lkS l 10 = .f (.int .i64 (opIx W opsT 0)) → lkS l 11 = .f (.int .i64 (i : Int)) → Q .normal (mkSt l [(107, ⟨0, .row 58 4 0 0 rows⟩)])) :
    pwp G (.loop f29l1) (PX.inBlock 2 Q) σ := by
  unfold f29l1
  refine pwp_loop (α := Nat) (fun k => mkSt [(0, .f (.str s)), (5, .f T), (6, .f (.int .i64 (E : Int))), (7, .ts 107 0 n 0), (10, .f (.int .i64 (rIx W k))), (11, .f (.int .i64 (i : Int))), (12, .f (.str W)), (13, .f (.int .i64 (k : Int)))] [(107, ⟨0, .row 58 4 0 0 rows⟩)])
    (fun k => k ≤ 9) (fun k => 9 - k) 0 (by omega) h0 ?_
  intro k hk
  by_cases hlt : k < 9
  · have hlt' : (k : Int) < 9 := by omega
    have w1 : IntKind.i64.wrap ((k : Int) + 1) = (k : Int) + 1 := w64 (by omega)
    have hwl : wordsR.length = 9 := rfl
    have hnth : nth (wordsR.map fun s => [FV.str s]) (k : Int) = some [.str (wordsR.getD k [])] := by
      unfold nth; rw [if_pos (by omega)]; simp [List.getD, hlt, hwl]
    have hrx : rIx W (k + 1) = if wordsR.getD k [] = W then (k : Int) else rIx W k := rfl
    generalize wordsR.getD k [] = wk at *
    simp [f29r15, binF, binI, hlt, hlt', f29r17]
    refine pCall_pure (words_ct hP) rfl rfl rfl ?_
    by_cases he : wk = W
    · rw [if_pos he] at hrx
      simp [encS, hnth, binF, binS, he, f29r18, f29r16, binI, w1, keepSt]
      exact ⟨k + 1, by omega, by omega, by rw [hrx]; rfl⟩
    · rw [if_neg he] at hrx
      simp [encS, hnth, binF, binS, he, f29r16, binI, w1, keepSt]
      exact ⟨k + 1, by omega, by omega, by rw [hrx]; rfl⟩
  · have hk9 : k = 9 := by omega
    subst hk9
    simp [f29r15, binF, binI]
    exact hQ _ rfl rfl rfl rfl (by rw [← rIx_eq]; rfl) rfl

theorem rparse_ct {G : Env} (hP : G.P = Tryd.prog) (s : List UInt8) (hsz : s.length < 1000000000) : CT G 29 ⟨[.f (.str s)], []⟩ (parseOut (parseF s)) := by
  refine ct_of_body (N := []) (pc := f29pc) (rs := f29rs) (by rw [hP]; exact f29ok) ?_
  rw [entry_mk]
  by_cases hlim : 8192 < s.length
  · have h' : (8192 : Int) < s.length := by omega
    have hr : parseF s = ⟨none, 8192, 4⟩ := by unfold parseF; rw [if_pos hlim]
    simp [f29pc, f29r0, f29r1, f29r2, binF, binI, hlim, h', ghSt, hr]
    simp [retQ, outSt, f29rs, rvals, RArg.val, resPV, parseOut, encPo, iI, encP]
  have h' : ¬ (8192 : Int) < s.length := by omega
  have hr : parseF s = goF s (s.length + 2) [] (tokA s 0) (tokW s (tokA s 0)) := by unfold parseF; rw [if_neg hlim]
  rw [hr]
  obtain ⟨F, hF⟩ : ∃ F, goF s (s.length + 2) [] (tokA s 0) (tokW s (tokA s 0)) = F := ⟨_, rfl⟩
  rw [hF]
  have hscan : scanA s = scanF s (s.length + 1) 0 := rfl
  simp [f29pc, f29r0, f29r1, f29r3, binF, binI, hlim, h']
  refine pCall_pure (scan_ct hP s hsz) rfl rfl rfl ?_
  have hTl : (scanA s).1.length ≤ s.length := by have := scanF_len s (s.length + 1) 0 (by omega); rw [← hscan] at this; omega
  generalize scanA s = R at *
  obtain ⟨T, E⟩ := R
  simp only at hTl
  simp [f29r4, f29r5, f29r6, f29r7, f29r8, ghSt]
  unfold f29l0
  refine pwp_loop (α := Nat × Nat × List Ins × List UInt8 × PV × TC × Int) (fun x => mkSt [(0, .f (.str s)), (5, .f (.sl 2 (T.map encT))), (6, .f (.int .i64 (E : Int))), (7, .ts 107 0 x.2.2.1.length 0), (8, .f (.str x.2.2.2.1)), (9, x.2.2.2.2.1), (10, .f (.int .i64 x.2.2.2.2.2.2)), (11, .f (.int .i64 (x.1 : Int)))]
      [(107, ⟨0, .row 58 4 0 0 (x.2.2.1.map encI)⟩), (109, ⟨0, x.2.2.2.2.2.1⟩)])
    (fun x => x.1 ≤ T.length ∧ (∃ f, scanF s f x.2.1 = (T.drop x.1, E) ∧ s.length < x.2.1 + f) ∧ x.2.1 ≤ s.length ∧ x.2.2.1.length ≤ x.2.1 ∧ Md s x.2.1 F x.2.2.2.1 x.2.2.1 x.2.2.2.2.1 x.2.2.2.2.2.1 x.2.2.2.2.2.2) (fun x => T.length - x.1)
    (0, 0, [], [], .ts 109 0 0 0, .row 3 1 0 0 [], 0) ?_ ?_ ?_
  · exact ⟨by simp, ⟨s.length + 1, by rw [← hscan]; rfl, by simp⟩, by simp, by simp, .idle (s.length + 2) [] 0 [] 0 (by simp; omega) hF⟩
  · simp [keepSt]
  rintro ⟨i, pos, p, left, x9, t9, op⟩ ⟨hi, ⟨f, hsc, hf⟩, hpos, hpl, hmd⟩
  simp only at hi hsc hf hpos hpl hmd
  obtain ⟨f, rfl⟩ : ∃ f', f = f' + 1 := ⟨f - 1, by omega⟩
  have hA1 := tokA_le s pos hpos
  have hA0 := tokA_ge s pos
  have hW1 := tokW_le s (tokA s pos) hA1
  have hWi := tokW_ink s (tokA s pos)
  have hWt := take_tok s (tokA s pos)
  rw [scanF] at hsc
  by_cases hlt : i < T.length
  case neg =>
    have hil : i = T.length := by omega
    subst hil
    have hw0 : tokW s (tokA s pos) = [] := by
      by_cases hw : tokW s (tokA s pos) = []
      · exact hw
      · rw [if_neg hw] at hsc
        simp at hsc
    rw [if_pos hw0] at hsc
    simp at hsc
    have htkp : List.take p.length (p.map encI) = p.map encI := List.take_of_length_le (by simp)
    cases hmd with
    | idle g p n9 r9 op hg hFg =>
      obtain ⟨g, rfl⟩ : ∃ g', g = g' + 1 := ⟨g - 1, by omega⟩
      rw [goF, if_pos hw0, hsc] at hFg
      by_cases hE : E < s.length
      · have hE' : (E : Int) < s.length := by omega
        rw [if_pos hE] at hFg
        simp [f29r9, f29r32, f29r33, binF, binI, binS, hE, hE', ghSt]
        simp [retQ, outSt, f29rs, rvals, RArg.val, resPV, ← hFg, parseOut, encPo, encP, iI]
      have hE' : ¬ (E : Int) < s.length := by omega
      rw [if_neg hE] at hFg
      simp [f29r9, f29r32, f29r34, binF, binI, binS, hE, hE', ghSt, htkp]
      refine pCall_pure (rvalid_ct hP p (by omega)) rfl rfl rfl ?_
      by_cases hv : validF p = 0
      · rw [if_pos hv] at hFg
        simp [f29r35, f29r37, binF, binI, iI, hv, ghSt, htkp]
        simp [retQ, outSt, f29rs, rvals, RArg.val, resPV, ← hFg, parseOut, encPo, encP, iI, htkp]
      · rw [if_neg hv] at hFg
        simp [f29r35, f29r36, binF, binI, iI, hv, ghSt]
        simp [retQ, outSt, f29rs, rvals, RArg.val, resPV, ← hFg, parseOut, encPo, encP, iI]
    | read g p m c r l t nums v a w x9 t9 hg hc hl hgd hk hv hps hFr h9 =>
      rw [argF, if_neg hl, hps, hw0, hsc] at hFr
      have hFn : F = ⟨none, E, 2⟩ := hFr.symm
      simp [f29r9, f29r32, f29r33, binF, binI, binS, ghSt]
      simp [retQ, outSt, f29rs, rvals, RArg.val, resPV, hFn, parseOut, encPo, encP, iI]
  have hlt' : (i : Int) < T.length := by omega
  by_cases hw0 : tokW s (tokA s pos) = []
  · rw [if_pos hw0] at hsc
    simp only [Prod.mk.injEq] at hsc
    have := congrArg List.length hsc.1
    simp at this; omega
  rw [if_neg hw0] at hsc
  simp only [Prod.mk.injEq] at hsc
  obtain ⟨hsc1, hsc2⟩ := hsc
  have hTi : T[i]? = some (tokA s pos, tokA s pos + (tokW s (tokA s pos)).length) := by
    have := congrArg (fun l => l[0]?) hsc1
    simpa using this.symm
  have hrest : (scanF s f (tokA s pos + (tokW s (tokA s pos)).length)).1 = T.drop (i + 1) := by
    have := congrArg List.tail hsc1
    simpa using this
  have hscn : scanF s f (tokA s pos + (tokW s (tokA s pos)).length) = (T.drop (i + 1), E) := Prod.ext hrest hsc2
  have hwl : 1 ≤ (tokW s (tokA s pos)).length := by
    cases hw2 : tokW s (tokA s pos) with
    | nil => exact absurd hw2 hw0
    | cons x y => simp
  have hnT : nth (T.map encT) (i : Int) = some (encT (tokA s pos, tokA s pos + (tokW s (tokA s pos)).length)) := by
    unfold nth; rw [if_pos (by omega)]; simp [hTi]
  have w1 : IntKind.i64.wrap ((i : Int) + 1) = (i : Int) + 1 := w64 (by omega)
  clear hsc1 hsc2 hrest hTi
  have hnum := rnumber_ct hP (tokW s (tokA s pos)) (by omega)
  generalize hWdef : tokW s (tokA s pos) = W at *
  generalize hAdef : tokA s pos = A at *
  have hcast : ((A + W.length : Nat) : Int) = (A : Int) + W.length := by omega
  have b1 : (0 : Int) ≤ A := by omega
  have b2 : (A : Int) ≤ (A : Int) + W.length := by omega
  have b3 : (A : Int) + W.length ≤ s.length := by omega
  have b4 : ((A : Int) + W.length).toNat - A = W.length := by omega
  have b5 : (0 : Int) ≤ (A : Int) + W.length := by omega
  cases hmd with
  | idle g p n9 r9 op hg hFg =>
    rw [hAdef, hWdef] at hFg
    rw [hAdef] at hg
    simp [f29r9, f29r11, f29r12, binF, binI, binS, hlt, hlt', hnT, encT, bnds, b1, b2, b3, b4, b5, hWt]
    simp [f29r13, f29r14]
    refine rloop1 hP W s (.sl 2 (T.map encT)) E i p.length (p.map encI) (by simp [keepSt, encT]) ?_
    intro l2 e0 e5 e6 e7 e10 e11
    have hix := opIx_lt W opsT 0
    obtain ⟨g, rfl⟩ : ∃ g', g = g' + 1 := ⟨g - 1, by omega⟩
    by_cases hneg : opIx W opsT 0 < 0
    · have hFn : F = ⟨none, A, 2⟩ := by rw [← hFg, goF, if_neg hw0, if_pos hneg]
      simp [f29r19, f29r20, e0, e5, e6, e7, e10, e11, binF, binI, hneg, hlt, hlt', hnT, encT, ghSt]
      simp [retQ, outSt, f29rs, rvals, RArg.val, resPV, hFn, parseOut, encPo, encP, iI]
    obtain ⟨m, hm⟩ : ∃ m : Nat, opIx W opsT 0 = m := ⟨(opIx W opsT 0).toNat, by omega⟩
    have hm9 : m < 9 := by
      have h9 : ((0 : Nat) : Int) + (opsT.length : Int) = 9 := rfl
      rw [h9] at hix; omega
    have hm9' : (m : Int) < 9 := by omega
    rw [goF_op hw0 hm] at hFg
    rw [hm] at e10 hneg
    obtain ⟨c, r, l, t, g1, g2, g3, g4, g5, g6⟩ := sorts_gd m hm9
    rw [g2] at hFg
    have hnS : nth (sortsR.map fun s => [FV.str s]) (m : Int) = some [.str (c :: r)] := by
      unfold nth; rw [if_pos (by omega)]; simp [g1]
    simp [f29r19, f29r21, e0, e5, e6, e7, e10, e11, binF, binI, hneg]
    refine pCall_pure (rsorts_ct hP) rfl rfl rfl ?_
    have hc45 : ¬ (c.toNat : Int) = 45 := fun e => g3 (UInt8.toNat_inj.1 (by simpa using (by omega : c.toNat = 45)))
    have hc45' : ¬ c.toNat = 45 := by omega
    have hn0 : nth (c :: r) (0 : Int) = some c := rfl
    have hmin : (if ((r.length : Int) + 1) < 0 then (r.length : Int) + 1 else 0) = 0 := by rw [if_neg (by omega)]
    simp [hnS, f29r22, e0, e5, e6, e7, e10, e11, keepSt]
    simp [f29r28, f29r10, binF, binI, binS, hmin, hn0, hc45, hc45', w1]
    refine ⟨i + 1, A + W.length, p, c :: r, .f .nils, .gone, m, ⟨by omega, ⟨f, hscn, by omega⟩, hW1, by omega, ?_⟩, by omega, by simp⟩
    exact .read g p m c r l t [] [0, 0, 0] A W _ _ (by omega) g3 g4 g5 (by simp [g6]) rfl rfl hFg (.inl ⟨rfl, rfl, rfl⟩)
  | read g p m c r l t nums v a w x9 t9 hg hc hl hgd hk hv hps hFr h9 =>
    simp [f29r9, f29r11, f29r12, binF, binI, binS, hlt, hlt', hnT, encT, bnds, b1, b2, b3, b4, b5, hWt]
    simp [f29r23]
    refine pCall_pure hnum rfl rfl rfl ?_
    rw [argF, if_neg hl, hps, hAdef, hWdef] at hFr
    cases hN : numberF W with
    | none =>
      rw [hN] at hFr
      have hFn : F = ⟨none, A, 2⟩ := hFr.symm
      simp [f29r24, f29r25, unF, hlt, hlt', hnT, encT, ghSt]
      simp [retQ, outSt, f29rs, rvals, RArg.val, resPV, hFn, parseOut, encPo, encP, iI]
    | some n =>
      rw [hN] at hFr
      simp only at hFr
      have hnl : nums.length ≤ 2 := by omega
      have hszn : (nums.length + 1) * 8 ≤ 140737488355328 ∧ nums.length + 1 ≤ i64max := by simp [i64max]; omega
      have hb1 : (0 : Int) ≤ (r.length : Int) + 1 := by omega
      have hb2 : (1 : Int) ≤ (r.length : Int) + 1 := by omega
      have htkn : List.take nums.length (nums.map fun n => [iI n]) = nums.map fun n => [iI n] := List.take_of_length_le (by simp)
      have hszp : (p.length + 1) * 32 ≤ 140737488355328 ∧ p.length + 1 ≤ i64max := by simp [i64max]; omega
      have htkp : List.take p.length (p.map encI) = p.map encI := List.take_of_length_le (by simp)
      rcases h9 with ⟨hn0, hx9, ht9⟩ | ⟨hn0, hx9, ht9⟩
      · subst hx9 ht9 hn0 hv
        simp [f29r24, f29r26, f29r27, unF, binF, binI, i64max, bnds, hb1, hb2, keepSt, List.replicate]
        cases hgd with
        | nil => simp at hk
        | zero r t h =>
          rw [argF, if_pos rfl, argF_zero _ _ _ _ _ _ h] at hFr
          simp [contF] at hFr
          have hm0 : (if ((r.length : Int) + 1) < 0 then (r.length : Int) + 1 else 0) = 0 := by rw [if_neg (by omega)]
          have hn45 : nth (45 :: r) (0 : Int) = some 45 := rfl
          have hpm : p.length ≤ 9223372036854775806 := by omega
          simp [f29r28, f29r29, binF, binI, binS, i64max, List.replicate , hm0, hn45]
          simp [f29r30, f29r31, f29r10, hszp, hpm, htkp, binF, binI, w1, keepSt, i64max]
          refine ⟨i + 1, A + W.length, p ++ [⟨m, n, 0, 0⟩], [], .ts 109 0 4 0, .row 3 1 0 0 [[.int .i64 n], [.int .i64 0], [.int .i64 0], [.int .i64 0]], m, ⟨by omega, ⟨f, hscn, by omega⟩, hW1, by simp; omega, ?_⟩, by omega, ?_⟩
          · refine .idle g _ _ _ _ ?_ hFr
            have := tokA_ge s (A + W.length)
            omega
          · simp [encI, iI]
        | cons c2 r l2 t hc2 hl2 h =>
          have hc45 : ¬ (c2.toNat : Int) = 45 := fun e => hc2 (UInt8.toNat_inj.1 (by simpa using (by omega : c2.toNat = 45)))
          have hc45' : ¬ c2.toNat = 45 := by omega
          have hm0 : (if ((r.length : Int) + 1) < 0 then (r.length : Int) + 1 else 0) = 0 := by rw [if_neg (by omega)]
          have hn2 : nth (c2 :: r) (0 : Int) = some c2 := rfl
          simp [f29r28, f29r10, binF, binI, binS, hm0, hn2, hc45, hc45', w1]
          refine ⟨i + 1, A + W.length, p, c2 :: r, .ts 109 0 1 0, .row 3 1 0 0 [[.int .i64 n]], m, ⟨by omega, ⟨f, hscn, by omega⟩, hW1, by omega, ?_⟩, by omega, by simp [iI]⟩
          exact .read g p m c2 r l2 t [n] [n, 0, 0] A W _ _ (by omega) hc2 hl2 h (by simp only [List.length_cons, List.length_nil] at hk ⊢; omega) (by simp [List.replicate]) rfl hFr (.inr ⟨by simp, rfl, by simp [iI]⟩)
      subst hx9 ht9 hv
      match nums, hn0, hnl, hk, hFr with
      | [], hn0, _, _, _ => exact absurd rfl hn0
      | [x], _, _, hk, hFr =>
        simp [f29r24, f29r26, f29r27, unF, binF, binI, i64max, bnds, hb1, hb2, keepSt, List.replicate]
        cases hgd with
        | nil => simp at hk
        | zero r t h =>
          rw [argF, if_pos rfl, argF_zero _ _ _ _ _ _ h] at hFr
          simp [contF] at hFr
          have hm0 : (if ((r.length : Int) + 1) < 0 then (r.length : Int) + 1 else 0) = 0 := by rw [if_neg (by omega)]
          have hn45 : nth (45 :: r) (0 : Int) = some 45 := rfl
          have hpm : p.length ≤ 9223372036854775806 := by omega
          simp [f29r28, f29r29, binF, binI, binS, i64max, List.replicate , hm0, hn45]
          simp [f29r30, f29r31, f29r10, hszp, hpm, htkp, binF, binI, w1, keepSt, i64max]
          refine ⟨i + 1, A + W.length, p ++ [⟨m, x, n, 0⟩], [], .ts 109 0 5 0, .row 3 1 0 0 [[.int .i64 x], [.int .i64 n], [.int .i64 0], [.int .i64 0], [.int .i64 0]], m, ⟨by omega, ⟨f, hscn, by omega⟩, hW1, by simp; omega, ?_⟩, by omega, ?_⟩
          · refine .idle g _ _ _ _ ?_ hFr
            have := tokA_ge s (A + W.length)
            omega
          · simp [encI, iI]
        | cons c2 r l2 t hc2 hl2 h =>
          have hc45 : ¬ (c2.toNat : Int) = 45 := fun e => hc2 (UInt8.toNat_inj.1 (by simpa using (by omega : c2.toNat = 45)))
          have hc45' : ¬ c2.toNat = 45 := by omega
          have hm0 : (if ((r.length : Int) + 1) < 0 then (r.length : Int) + 1 else 0) = 0 := by rw [if_neg (by omega)]
          have hn2 : nth (c2 :: r) (0 : Int) = some c2 := rfl
          simp [f29r28, f29r10, binF, binI, binS, hm0, hn2, hc45, hc45', w1]
          refine ⟨i + 1, A + W.length, p, c2 :: r, .ts 109 0 2 0, .row 3 1 0 0 [[.int .i64 x], [.int .i64 n]], m, ⟨by omega, ⟨f, hscn, by omega⟩, hW1, by omega, ?_⟩, by omega, by simp [iI]⟩
          exact .read g p m c2 r l2 t [x, n] [x, n, 0] A W _ _ (by omega) hc2 hl2 h (by simp only [List.length_cons, List.length_nil] at hk ⊢; omega) (by simp [List.replicate]) rfl hFr (.inr ⟨by simp, rfl, by simp [iI]⟩)
      | [x, y], _, _, hk, hFr =>
        simp [f29r24, f29r26, f29r27, unF, binF, binI, i64max, bnds, hb1, hb2, keepSt, List.replicate]
        cases hgd with
        | nil =>
          rw [argF] at hFr
          simp [contF] at hFr
          have hpm : p.length ≤ 9223372036854775806 := by omega
          simp [f29r28, f29r29, binF, binI, binS, i64max, List.replicate ]
          simp [f29r30, f29r31, f29r10, hszp, hpm, htkp, binF, binI, w1, keepSt, i64max]
          refine ⟨i + 1, A + W.length, p ++ [⟨m, x, y, n⟩], [], .ts 109 0 6 0, .row 3 1 0 0 [[.int .i64 x], [.int .i64 y], [.int .i64 n], [.int .i64 0], [.int .i64 0], [.int .i64 0]], m, ⟨by omega, ⟨f, hscn, by omega⟩, hW1, by simp; omega, ?_⟩, by omega, ?_⟩
          · refine .idle g _ _ _ _ ?_ hFr
            have := tokA_ge s (A + W.length)
            omega
          · simp [encI, iI]
        | zero r t h => simp at hk
        | cons c r l t hc2 hl2 h => simp at hk
      | _ :: _ :: _ :: _, _, hnl, _, _ => simp at hnl
end Go.Absw
