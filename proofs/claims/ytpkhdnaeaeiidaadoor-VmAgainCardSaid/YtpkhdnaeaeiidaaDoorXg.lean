/- Numbers and programs as bytes. Conditions: told at each. -/
import Derived.Test.YtpkhdnaeaeiidaaDoorXc
import Derived.Test.YtpkhdnaeaeiidaaDoorTf
import Derived.Test.YtpkhdnaeaeiidaaDoorXe
set_option linter.unusedSimpArgs false
set_option linter.unusedVariables false

/- Numbers as bytes: the digits to the base 256, and what the shifts and the flips come to. -/
namespace Go.Absw
open Go Go.Proofs
set_option maxRecDepth 100000

/-- The digits to the base 256, the least first. -/
def digN : Nat → Nat → List Nat
  | 0, _ => []
  | f + 1, m => if 0 < m then (m % 256) :: digN f (m / 256) else []
theorem digN_spec : ∀ (f m : Nat), m < 256 ^ f → (∀ j, j < (digN f m).length → 0 < m / 256 ^ j) ∧ m / 256 ^ (digN f m).length = 0 ∧ (∀ i, i < (digN f m).length → (digN f m)[i]? = some (m / 256 ^ i % 256)) ∧ (digN f m).length ≤ f
  | 0, m, h => by
    have : m = 0 := by simpa using h
    subst this
    simp [digN]
  | f + 1, m, h => by
    by_cases hm : 0 < m
    · have hlt : m / 256 < 256 ^ f := by
        rw [Nat.pow_succ] at h
        exact Nat.div_lt_of_lt_mul (by rw [Nat.mul_comm]; exact h)
      obtain ⟨h1, h2, h3, h4⟩ := digN_spec f (m / 256) hlt
      have e : digN (f + 1) m = (m % 256) :: digN f (m / 256) := by rw [digN, if_pos hm]
      have hd : ∀ j, m / 256 ^ (j + 1) = m / 256 / 256 ^ j := fun j => by rw [Nat.pow_succ, Nat.mul_comm, Nat.div_div_eq_div_mul]
      rw [e]
      refine ⟨fun j hj => ?_, ?_, fun i hi => ?_, by simp; omega⟩
      · cases j with
        | zero => simpa using hm
        | succ j => rw [hd]; exact h1 j (by simpa using hj)
      · rw [List.length_cons, hd]; exact h2
      · cases i with
        | zero => simp
        | succ i =>
          rw [List.getElem?_cons_succ, hd]
          exact h3 i (by simpa using hi)
    · have : m = 0 := by omega
      subst this
      simp [digN]
def magN (n : Int) : Nat := (if n < 0 then -1 - n else n).toNat
def digs (n : Int) : List Nat := digN 8 (magN n)
theorem magN_lt {n : Int} (h : In64 n) : magN n < 256 ^ 8 := by
  unfold In64 at h; unfold magN
  have : (256 : Nat) ^ 8 = 18446744073709551616 := by decide
  rw [this]
  split <;> omega
def flipB (n : Int) (d : Nat) : Int := if n < 0 then 255 - (d : Int) else d
def headB (n : Int) : Int := if n < 0 then 127 - ((digs n).length : Int) else 128 + ((digs n).length : Int)
/-- The bytes of a number. -/
def intI (n : Int) : List Int := headB n :: (digs n).reverse.map (flipB n)
def encB (l : List Int) : FV := .sl 1 (l.map fun b => [.int .u8 b])

theorem xor0 (a : Nat) (h : a < 256) : (BitVec.ofInt 8 (a : Int) ^^^ BitVec.ofInt 8 0).toNat = a := by
  have : ∀ a : Fin 256, (BitVec.ofInt 8 ((a : Nat) : Int) ^^^ BitVec.ofInt 8 0).toNat = a := by decide +kernel
  exact this ⟨a, h⟩
theorem xor255 (a : Nat) (h : a < 256) : (BitVec.ofInt 8 (a : Int) ^^^ BitVec.ofInt 8 255).toNat = 255 - a := by
  have : ∀ a : Fin 256, (BitVec.ofInt 8 ((a : Nat) : Int) ^^^ BitVec.ofInt 8 255).toNat = 255 - a := by decide +kernel
  exact this ⟨a, h⟩
theorem xor64 (x : Nat) (h : x < 18446744073709551616) : (BitVec.ofInt 64 18446744073709551615 ^^^ BitVec.ofInt 64 (x : Int)).toNat = 18446744073709551615 - x := by
  have e : BitVec.ofInt 64 18446744073709551615 = BitVec.allOnes 64 := by decide
  rw [e, BitVec.allOnes_xor, BitVec.toNat_not, BitVec.toNat_ofInt]
  have : ((x : Int) % ((2 ^ 64 : Nat) : Int)).toNat = x := by omega
  rw [this]
theorem fdiv_nat (m j : Nat) : Int.fdiv (m : Int) ((2 : Int) ^ j) = ((m / 2 ^ j : Nat) : Int) := by
  rw [Int.fdiv_eq_ediv_of_nonneg _ (Int.le_of_lt (Int.pow_pos (by omega)))]
  have : ((2 : Int) ^ j) = ((2 ^ j : Nat) : Int) := by simp
  rw [this]; exact (Int.natCast_ediv _ _).symm
end Go.Absw

/- Contract of dioramaref01.Int. -/
namespace Go.Absw
open Go Go.Proofs
set_option maxRecDepth 100000

theorem wrapu8 {n : Int} (h : 0 ≤ n ∧ n < 256) : IntKind.u8.wrap n = n := by simp [IntKind.wrap, IntKind.bits, IntKind.signed]; omega
theorem magN_eq {n : Int} (h : In64 n) : ((magN n : Nat) : Int) = if n < 0 then -1 - n else n := by
  unfold magN; split <;> omega

theorem rint_ct {G : Env} (hP : G.P = Tryd.prog) {n : Int} (hn : In64 n) :
    CT G 49 ⟨[.f (.int .i64 n)], []⟩ ⟨.ts 0 0 (intI n).length 0, [], [⟨0, .row 5 1 0 0 ((intI n).map fun b => [.int .u8 b])⟩]⟩ := by
  refine ct_of_body (N := [106]) (pc := f49pc) (rs := f49rs) (by rw [hP]; exact f49ok) ?_
  rw [entry_mk]
  obtain ⟨d1, d2, d3, d4⟩ := digN_spec 8 (magN n) (magN_lt hn)
  have hmag := magN_eq hn
  have hml := magN_lt hn
  have hD : digs n = digN 8 (magN n) := rfl
  rw [← hD] at d1 d2 d3 d4
  have hin : intI n = headB n :: (digs n).reverse.map (flipB n) := rfl
  have hhead : headB n = if n < 0 then 127 - ((digs n).length : Int) else 128 + ((digs n).length : Int) := rfl
  have hm63 : magN n < 9223372036854775808 := by unfold In64 at hn; split at hmag <;> omega
  rw [hin]
  generalize digs n = D at *
  generalize magN n = m at *
  have hw : n < 0 → IntKind.i64.wrap (-1 - n) = -1 - n := fun h => w64 (by unfold In64 at hn; omega)
  simp [f49pc, f49r0, f49r1]
  refine join_k (mkSt [(0, .f (.int .i64 n)), (3, .f (.int .i64 (m : Int)))] []) ?_ ?_
  · by_cases h0 : n < 0
    · rw [if_pos h0] at hmag
      simp [f49r2, f49r3, binF, binI, h0, hw h0, keepSt, hmag]
    · rw [if_neg h0] at hmag
      simp [f49r2, binF, binI, h0, keepSt, hmag]
  simp [f49r4, ghSt]
  unfold f49l0
  refine pwp_loop (α := Nat) (fun i => mkSt [(0, .f (.int .i64 n)), (3, .f (.int .i64 ((m / 256 ^ i : Nat) : Int))), (4, .ts 104 0 i 0)] [(104, ⟨0, .row 5 1 0 0 ((D.take i).map fun d : Nat => [.int .u8 (d : Int)])⟩)]) (fun i => i ≤ D.length) (fun i => D.length - i) 0 (by omega) (by simp [keepSt]) ?_
  intro i hi
  have hmi : m / 256 ^ i < 9223372036854775808 := Nat.lt_of_le_of_lt (Nat.div_le_self _ _) hm63
  by_cases hlt : i < D.length
  · have hpos := d1 i hlt
    have hdig := d3 i hlt
    have hnext : m / 256 ^ (i + 1) = m / 256 ^ i / 256 := by rw [Nat.pow_succ, Nat.div_div_eq_div_mul]
    have htk : D.take (i + 1) = D.take i ++ [m / 256 ^ i % 256] := by rw [List.take_add_one, hdig]; rfl
    generalize m / 256 ^ i = y at *
    have h3 : ((y : Nat) : Int).tmod 256 = ((y % 256 : Nat) : Int) := by rw [Int.tmod_eq_emod_of_nonneg (by omega)]; omega
    have h4 : ((y : Nat) : Int).tdiv 256 = ((y / 256 : Nat) : Int) := by rw [Int.tdiv_eq_ediv_of_nonneg (by omega)]; omega
    have h5 : IntKind.u8.wrap ((y : Int) % 256) = (y : Int) % 256 := wrapu8 (by omega)
    have h6 : IntKind.i64.wrap ((y : Int) / 256) = (y : Int) / 256 := w64 (by omega)
    have hszi : i + 1 ≤ 140737488355328 ∧ i + 1 ≤ i64max := by simp [i64max]; omega
    have hp' : (0 : Int) < (y : Int) := by omega
    have hmin : min i D.length = i := by omega
    have htki : List.take i (List.take i (D.map fun d : Nat => [FV.int .u8 (d : Int)])) = List.take i (D.map fun d : Nat => [FV.int .u8 (d : Int)]) := by rw [List.take_take]; simp
    have htkm : (D.map fun d : Nat => [FV.int .u8 (d : Int)]).take (i + 1) = (D.map fun d : Nat => [FV.int .u8 (d : Int)]).take i ++ [[.int .u8 ((y % 256 : Nat) : Int)]] := by
      rw [← List.map_take, htk, List.map_append, List.map_take]; rfl
    have hn' : (m : Int) / 256 ^ (i + 1) = (y : Int) / 256 := by
      have := congrArg (fun z : Nat => (z : Int)) hnext
      simpa using this
    have htkm' : (D.map fun d : Nat => [FV.int .u8 (d : Int)]).take (i + 1) = (D.map fun d : Nat => [FV.int .u8 (d : Int)]).take i ++ [[.int .u8 ((y : Int) % 256)]] := by simpa using htkm
    simp [f49r5, f49r6, f49r7, binF, binI, hp', hpos, h3, h4, h5, h6, hszi, hmin, hi, htki, keepSt]
    exact ⟨i + 1, by omega, by omega, by rw [hn', htkm']⟩
  · have hil : i = D.length := by omega
    subst hil
    simp [f49r5, binF, binI, d2]
    simp [f49r8, f49r9, ghSt]
    have hk8 : (D.length : Int) ≤ 8 := by omega
    have hh : 0 ≤ headB n ∧ headB n < 256 := by rw [hhead]; split <;> omega
    have hd256 : ∀ j, ∀ h : j < D.length, D[j] < 256 := by
      intro j h
      have := d3 j h
      rw [List.getElem?_eq_getElem h] at this
      have := Option.some.inj this
      omega
    clear d1 d2 d3 hmag hml hm63 hD hmi hw
    refine join_k (mkSt [(0, .f (.int .i64 n)), (4, .ts 104 0 D.length 0), (5, .f (.int .i64 (D.length : Int))), (6, .ts 106 0 1 0)]
      [(104, ⟨0, .row 5 1 0 0 (D.map fun d : Nat => [.int .u8 (d : Int)])⟩), (106, ⟨0, .row 5 1 0 0 [[.int .u8 (headB n)]]⟩)]) ?_ ?_
    · by_cases h0 : n < 0
      · have h0' : ¬ 0 ≤ n := by omega
        rw [if_pos h0] at hhead
        have e1 : IntKind.i64.wrap (127 - (D.length : Int)) = headB n := by rw [w64 (by omega), hhead]
        have e2 : IntKind.u8.wrap (headB n) = headB n := wrapu8 hh
        simp [f49r10, f49r12, binF, binI, h0, h0', e1, e2, keepSt, i64max]
      · have h0' : 0 ≤ n := by omega
        rw [if_neg h0] at hhead
        have e1 : IntKind.i64.wrap (128 + (D.length : Int)) = headB n := by rw [w64 (by omega), hhead]
        have e2 : IntKind.u8.wrap (headB n) = headB n := wrapu8 hh
        simp [f49r10, f49r11, binF, binI, h0, h0', e1, e2, keepSt, i64max]
    generalize headB n = H at *
    have e3 : IntKind.i64.wrap ((D.length : Int) - 1) = (D.length : Int) - 1 := w64 (by omega)
    simp [f49r13, binF, binI, e3]
    unfold f49l1
    refine pwp_loop (α := Nat) (fun j => mkSt [(0, .f (.int .i64 n)), (4, .ts 104 0 D.length 0), (6, .ts 106 0 (j + 1) 0), (7, .f (.int .i64 ((D.length : Int) - 1 - j)))]
      [(104, ⟨0, .row 5 1 0 0 (D.map fun d : Nat => [.int .u8 (d : Int)])⟩), (106, ⟨0, .row 5 1 0 0 ([.int .u8 H] :: (D.map fun d => [FV.int .u8 (flipB n d)]).reverse.take j)⟩)]) (fun j => j ≤ D.length) (fun j => D.length - j) 0 (by omega) (by simp [keepSt]) ?_
    intro j hj
    by_cases hlt : j < D.length
    · have c1 : (0 : Int) ≤ (D.length : Int) - 1 - j := by omega
      have c2 : ((D.length : Int) - 1 - j).toNat = D.length - 1 - j := by omega
      have c3 : D.length - 1 - j < D.length := by omega
      have c4 : (D.length : Int) - 1 - j < D.length := by omega
      have hdl := hd256 _ c3
      obtain ⟨d, hd⟩ : ∃ d : Nat, ∀ h', D[D.length - 1 - j]'h' = d := ⟨D[D.length - 1 - j], fun _ => rfl⟩
      rw [hd] at hdl
      have hrow : ∀ h', (D.map fun d : Nat => [FV.int .u8 (d : Int)])[D.length - 1 - j]'h' = [.int .u8 (d : Int)] := fun h' => by rw [List.getElem_map, hd]
      have htk : (D.map fun d => [FV.int .u8 (flipB n d)]).reverse.take (j + 1) = (D.map fun d => [FV.int .u8 (flipB n d)]).reverse.take j ++ [[.int .u8 (flipB n d)]] := by
        rw [List.take_succ_eq_append_getElem (by simpa using hlt)]
        simp [hd]
      have c5 : IntKind.i64.wrap ((D.length : Int) - 1 - j - 1) = (D.length : Int) - 1 - (j + 1 : Nat) := by rw [w64 (by omega)]; omega
      generalize (D.length : Int) - 1 - j = v at *
      simp [f49r14, f49r16, binF, binI, c1, c2, c3, c4, hrow, hd]
      refine join_k (mkSt [(0, .f (.int .i64 n)), (4, .ts 104 0 D.length 0), (6, .ts 106 0 (j + 1) 0), (7, .f (.int .i64 v)), (8, .f (.int .u8 (flipB n d)))]
        [(104, ⟨0, .row 5 1 0 0 (D.map fun d : Nat => [.int .u8 (d : Int)])⟩), (106, ⟨0, .row 5 1 0 0 ([.int .u8 H] :: (D.map fun d => [FV.int .u8 (flipB n d)]).reverse.take j)⟩)]) ?_ ?_
      · by_cases h0 : n < 0
        · have e4 : IntKind.u8.wrap (255 - (d : Int)) = 255 - (d : Int) := wrapu8 (by omega)
          simp [f49r17, f49r18, binF, binI, h0, e4, keepSt, flipB]
        · simp [f49r17, binF, binI, h0, keepSt, flipB]
      generalize flipB n d = g at *
      have hszj : j + 1 + 1 ≤ 140737488355328 ∧ j + 1 + 1 ≤ i64max := by simp [i64max]; omega
      have hlj : min j D.length = j := by omega
      simp [f49r19, f49r15, binF, binI, hszj, hlj, keepSt]
      refine ⟨j + 1, by omega, by omega, ?_⟩
      rw [c5, htk, List.take_take, Nat.min_self]
    · have hjl : j = D.length := by omega
      subst hjl
      have c1 : ¬ (0 : Int) ≤ (D.length : Int) - 1 - D.length := by omega
      generalize (D.length : Int) - 1 - D.length = v at *
      simp [f49r14, binF, binI, c1]
      have htke : List.take D.length (D.map fun x => [FV.int .u8 (flipB n x)]).reverse = (D.map fun x => [FV.int .u8 (flipB n x)]).reverse := List.take_of_length_le (by simp)
      simp [f49r20, retQ, outSt, f49rs, rvals, RArg.val, resPV, Function.comp_def, oM, pos, htke]
end Go.Absw

/- Contract of wire.Int. -/
namespace Go.Absw
open Go Go.Proofs
set_option maxRecDepth 100000

theorem wrap_u8n (x : Nat) : IntKind.u8.wrap (x : Int) = ((x % 256 : Nat) : Int) := by simp [IntKind.wrap, IntKind.bits, IntKind.signed]
theorem wrap_u64 {n : Int} (h : 0 ≤ n ∧ n < 18446744073709551616) : IntKind.u64.wrap n = n := by simp [IntKind.wrap, IntKind.bits, IntKind.signed]; omega
theorem wrap_u64n {n : Int} (h : -9223372036854775808 ≤ n ∧ n < 0) : IntKind.u64.wrap n = n + 18446744073709551616 := by simp [IntKind.wrap, IntKind.bits, IntKind.signed]; omega
theorem shr_u64 (m k : Nat) (hk : k ≤ 7) (y : Int) (hy : y = 8 * (k : Int)) : binF .shr (.int .u64 (m : Int)) (.int .i64 y) = some (.int .u64 ((m / 256 ^ k : Nat) : Int)) := by
  subst hy
  have e1 : ¬ (8 * (k : Int)) < 0 := by omega
  have e2 : min (8 * (k : Int)).toNat IntKind.u64.bits = 8 * k := by simp [IntKind.bits]; omega
  have e3 : (2 : Nat) ^ (8 * k) = 256 ^ k := by rw [Nat.pow_mul]
  simp only [binF, shiftI, e1, if_false, e2]
  rw [fdiv_nat, e3]
theorem xor_u8 {n : Int} {d : Nat} (hd : d < 256) : binF .xor (.int .u8 (d : Int)) (.int .u8 (if n < 0 then 255 else 0)) = some (.int .u8 (flipB n d)) := by
  unfold flipB
  by_cases h : n < 0
  · have e : binF .xor (.int .u8 (d : Int)) (.int .u8 255) = some (.int .u8 (IntKind.u8.wrap ((BitVec.ofInt 8 (d : Int) ^^^ BitVec.ofInt 8 255).toNat : Int))) := rfl
    rw [if_pos h, if_pos h, e, xor255 d hd, wrapu8 (by omega)]
    have : ((255 - d : Nat) : Int) = 255 - (d : Int) := by omega
    rw [this]
  · have e : binF .xor (.int .u8 (d : Int)) (.int .u8 0) = some (.int .u8 (IntKind.u8.wrap ((BitVec.ofInt 8 (d : Int) ^^^ BitVec.ofInt 8 0).toNat : Int))) := rfl
    rw [if_neg h, if_neg h, e, xor0 d hd, wrapu8 (by omega)]
theorem digs_len {m k : Nat} {D : List Nat} (d1 : ∀ j, j < D.length → 0 < m / 256 ^ j) (d2 : m / 256 ^ D.length = 0) (h0 : m / 256 ^ k = 0) (h1 : k = 0 ∨ 0 < m / 256 ^ (k - 1)) : k = D.length := by
  have hmono : ∀ i j, i ≤ j → m / 256 ^ i = 0 → m / 256 ^ j = 0 := by
    intro i j hij h
    have hlt : m < 256 ^ i := by
      rcases Nat.div_eq_zero_iff.1 h with h | h
      · have := Nat.pow_pos (n := i) (show 0 < 256 by omega); omega
      · exact h
    exact Nat.div_eq_of_lt (Nat.lt_of_lt_of_le hlt (Nat.pow_le_pow_right (by omega) hij))
  rcases Nat.lt_trichotomy k D.length with h | h | h
  · have := d1 k h; omega
  · exact h
  · rcases h1 with h1 | h1
    · omega
    · have := hmono D.length (k - 1) (by omega) d2
      omega

theorem notu64 {x : Nat} (h : x < 18446744073709551616) : unF .xor (.int .u64 (x : Int)) = some (.int .u64 (18446744073709551615 - (x : Int))) := by
  have e : unF .xor (.int .u64 (x : Int)) = some (.int .u64 (IntKind.u64.wrap ((BitVec.ofInt 64 18446744073709551615 ^^^ BitVec.ofInt 64 (x : Int)).toNat : Int))) := rfl
  rw [e, xor64 x h, wrap_u64 (by omega)]
  have : ((18446744073709551615 - x : Nat) : Int) = 18446744073709551615 - (x : Int) := by omega
  rw [this]

theorem wint_ct {G : Env} (hP : G.P = Tryd.prog) {n : Int} (hn : In64 n) :
    CT G 47 ⟨[.f (.int .i64 n)], []⟩ ⟨.ts 0 0 (intI n).length 0, [], [⟨0, .row 5 1 0 0 ((intI n).map fun b => [.int .u8 b])⟩]⟩ := by
  refine ct_of_body (N := [129]) (pc := f47pc) (rs := f47rs) (by rw [hP]; exact f47ok) ?_
  rw [entry_mk]
  obtain ⟨d1, d2, d3, d4⟩ := digN_spec 8 (magN n) (magN_lt hn)
  have hmag := magN_eq hn
  have hml := magN_lt hn
  have hD : digs n = digN 8 (magN n) := rfl
  rw [← hD] at d1 d2 d3 d4
  have hin : intI n = headB n :: (digs n).reverse.map (flipB n) := rfl
  have hhead : headB n = if n < 0 then 127 - ((digs n).length : Int) else 128 + ((digs n).length : Int) := rfl
  rw [hin]
  generalize headB n = H at *
  generalize digs n = D at *
  generalize magN n = m at *
  unfold In64 at hn
  have hpow : (256 : Nat) ^ 8 = 18446744073709551616 := by decide
  simp [f47pc, f47r0, f47r1]
  refine join_k (mkSt [(3, .f (.int .u64 (m : Int))), (4, .f (.int .u8 (if n < 0 then 255 else 0)))] []) ?_ ?_
  · by_cases h0 : n < 0
    · rw [if_pos h0] at hmag
      have e1 : IntKind.u64.wrap n = ((18446744073709551615 - m : Nat) : Int) := by rw [wrap_u64n (by omega)]; omega
      have e2 := notu64 (x := 18446744073709551615 - m) (by omega)
      have e3 : (18446744073709551615 : Int) - ((18446744073709551615 - m : Nat) : Int) = (m : Int) := by omega
      rw [e3] at e2
      rw [e1]
      generalize ((18446744073709551615 - m : Nat) : Int) = z at *
      simp [f47r2, f47r3, binF, binI, h0, e2, keepSt]
    · rw [if_neg h0] at hmag
      have e1 : IntKind.u64.wrap n = (m : Int) := by rw [wrap_u64 (by omega)]; omega
      rw [e1]
      simp [f47r2, binF, binI, h0, keepSt]
  have hfl : ∀ d : Nat, d < 256 → binF .xor (.int .u8 (d : Int)) (.int .u8 (if n < 0 then 255 else 0)) = some (.int .u8 (flipB n d)) := fun d hd => xor_u8 hd
  have hH : binF .xor (.int .u8 (IntKind.u8.wrap (128 + (D.length : Int)))) (.int .u8 (if n < 0 then 255 else 0)) = some (.int .u8 H) := by
    have e1 : IntKind.u8.wrap (128 + (D.length : Int)) = ((128 + D.length : Nat) : Int) := by rw [wrapu8 (by omega)]; omega
    rw [e1, xor_u8 (by omega), hhead]
    unfold flipB
    split
    · have : (255 : Int) - ((128 + D.length : Nat) : Int) = 127 - (D.length : Int) := by omega
      rw [this]
    · have : ((128 + D.length : Nat) : Int) = 128 + (D.length : Int) := by omega
      rw [this]
  generalize (if n < 0 then (255 : Int) else 0) = fl at *
  have hshr : ∀ (k : Nat) (y : Int), k ≤ 7 → y = 8 * (k : Int) → binF .shr (.int .u64 (m : Int)) (.int .i64 y) = some (.int .u64 ((m / 256 ^ k : Nat) : Int)) := fun k y hk hy => shr_u64 m k hk y hy
  simp [f47r4]
  unfold f47l0
  refine pwp_loop (α := Nat) (fun k => mkSt [(3, .f (.int .u64 (m : Int))), (4, .f (.int .u8 fl)), (5, .f (.int .i64 (k : Int)))] []) (fun k => k ≤ 8 ∧ m / 256 ^ k = 0) (fun k => k) 8 ⟨by omega, Nat.div_eq_of_lt hml⟩ (by simp [keepSt]) ?_
  rintro k ⟨hk8, hk0⟩
  have tail : ∀ (l : List (Nat × PV)) (t : List (Nat × Tok)), lkS l 3 = .f (.int .u64 (m : Int)) → lkS l 4 = .f (.int .u8 fl) → lkS l 5 = .f (.int .i64 (D.length : Int)) → lkK t 129 = ⟨0, .gone⟩ →
      pwp G (.seq (.region f47r8 []) (.seq (.seq (.region f47r9 []) (.block 2 (.loop f47l1))) (.seq (.region f47r13 []) (.ret)))) (retQ 0 [129] f47rs (· = ⟨.ts 0 0 (D.length + 1) 0, [], [⟨0, .row 5 1 0 0 ([.int .u8 H] :: (D.map ((fun b => [FV.int .u8 b]) ∘ flipB n)).reverse)⟩]⟩)) (mkSt l t) := by
    intro l t h3 h4 h5 h129
    have b1 : binF .add (.int .i64 128) (.int .i64 (D.length : Int)) = some (.int .i64 (128 + (D.length : Int))) := by simp only [binF, binI, if_true]; rw [w64 (by omega)]
    have b2 : binF .sub (.int .i64 (D.length : Int)) (.int .i64 1) = some (.int .i64 ((D.length : Int) - 1)) := by simp only [binF, binI, if_true]; rw [w64 (by omega)]
    simp [f47r8, f47r9, h3, h4, h5, h129, b1, b2, hH]
    unfold f47l1
    refine pwp_loop (α := Nat) (fun j => mkSt [(3, .f (.int .u64 (m : Int))), (4, .f (.int .u8 fl)), (6, .ts 129 0 (j + 1) 0), (7, .f (.int .i64 ((D.length : Int) - 1 - j)))]
      [(129, ⟨0, .row 5 1 0 0 ([.int .u8 H] :: (D.map fun d => [FV.int .u8 (flipB n d)]).reverse.take j)⟩)]) (fun j => j ≤ D.length) (fun j => D.length - j) 0 (by omega) (by simp [keepSt, h3, h4]) ?_
    intro j hj
    by_cases hlt : j < D.length
    · have c1 : (0 : Int) ≤ (D.length : Int) - 1 - j := by omega
      have c3 : D.length - 1 - j < D.length := by omega
      have hdg := d3 _ c3
      have b3 : binF .geq (.int .i64 ((D.length : Int) - 1 - j)) (.int .i64 0) = some (.bool true) := by simp only [binF, binI, if_true]; rw [decide_eq_true (by omega)]
      have b4 : binF .mul (.int .i64 8) (.int .i64 ((D.length : Int) - 1 - j)) = some (.int .i64 (8 * ((D.length : Int) - 1 - j))) := by simp only [binF, binI, if_true]; rw [w64 (by omega)]
      have b5 := hshr (D.length - 1 - j) (8 * ((D.length : Int) - 1 - j)) (by omega) (by omega)
      have b6 : binF .sub (.int .i64 ((D.length : Int) - 1 - j)) (.int .i64 1) = some (.int .i64 ((D.length : Int) - 1 - (j + 1 : Nat))) := by simp only [binF, binI, if_true]; rw [w64 (by omega)]; congr 2; omega
      have b7 := wrap_u8n (m / 256 ^ (D.length - 1 - j))
      have b8 := hfl (m / 256 ^ (D.length - 1 - j) % 256) (Nat.mod_lt _ (by omega))
      generalize m / 256 ^ (D.length - 1 - j) = y at *
      generalize y % 256 = d at *
      have htk : (D.map fun d => [FV.int .u8 (flipB n d)]).reverse.take (j + 1) = (D.map fun d => [FV.int .u8 (flipB n d)]).reverse.take j ++ [[.int .u8 (flipB n d)]] := by
        rw [List.getElem?_eq_getElem c3] at hdg
        have hdg := Option.some.inj hdg
        rw [List.take_succ_eq_append_getElem (by simpa using hlt)]
        simp [hdg]
      have hszj : j + 1 + 1 ≤ 140737488355328 ∧ j + 1 + 1 ≤ i64max := by simp [i64max]; omega
      have hlj : min j D.length = j := by omega
      generalize ((y : Nat) : Int) = Y at *
      generalize ((d : Nat) : Int) = d' at *
      generalize flipB n d = g at *
      generalize (D.length : Int) - 1 - j = v at *
      generalize 8 * v = v8 at *
      simp [f47r10, f47r12, f47r11, b3, b4, b5, b6, b7, b8, hszj, hlj, keepSt]
      refine ⟨j + 1, by omega, by omega, ?_⟩
      rw [htk, List.take_take, Nat.min_self]
      simp
    · have hjl : j = D.length := by omega
      subst hjl
      have b3 : binF .geq (.int .i64 ((D.length : Int) - 1 - D.length)) (.int .i64 0) = some (.bool false) := by simp only [binF, binI, if_true]; rw [decide_eq_false (by omega)]
      generalize (D.length : Int) - 1 - D.length = v at *
      have htke : List.take D.length (D.map fun x => [FV.int .u8 (flipB n x)]).reverse = (D.map fun x => [FV.int .u8 (flipB n x)]).reverse := List.take_of_length_le (by simp)
      simp [f47r10, b3]
      simp [f47r13, retQ, outSt, f47rs, rvals, RArg.val, resPV, Function.comp_def, oM, pos, htke]
  by_cases hkz : k = 0
  · subst hkz
    have hl := digs_len d1 d2 hk0 (.inl rfl)
    simp [f47r5, binF, binI]
    exact tail _ _ rfl rfl (by rw [← hl]; rfl) rfl
  · have hkp : (0 : Int) < (k : Int) := by omega
    have hkp' : 0 < k := by omega
    have b1 : binF .sub (.int .i64 (k : Int)) (.int .i64 1) = some (.int .i64 ((k : Int) - 1)) := by simp only [binF, binI, if_true]; rw [w64 (by omega)]
    have b2 : binF .mul (.int .i64 8) (.int .i64 ((k : Int) - 1)) = some (.int .i64 (8 * ((k : Int) - 1))) := by simp only [binF, binI, if_true]; rw [w64 (by omega)]
    have b3 := hshr (k - 1) (8 * ((k : Int) - 1)) (by omega) (by omega)
    have b4 : binF .gtr (.int .i64 (k : Int)) (.int .i64 0) = some (.bool true) := by simp only [binF, binI, if_true]; rw [decide_eq_true (by omega)]
    have b5 : (k : Int) - 1 = ((k - 1 : Nat) : Int) := by omega
    by_cases hz : m / 256 ^ (k - 1) = 0
    · have b6 : binF .gtr (.int .u64 ((m / 256 ^ (k - 1) : Nat) : Int)) (.int .u64 0) = some (.bool false) := by rw [hz]; rfl
      have hz' : m < 256 ^ (k - 1) := by
        rcases Nat.div_eq_zero_iff.1 hz with h | h
        · have := Nat.pow_pos (n := k - 1) (show 0 < 256 by omega); omega
        · exact h
      generalize ((m / 256 ^ (k - 1) : Nat) : Int) = Y at *
      simp [f47r5, f47r6, f47r7, b1, b2, b3, b4, b6, keepSt]
      exact ⟨k - 1, ⟨by omega, hz'⟩, by omega, by rw [b5]⟩
    · have hl := digs_len d1 d2 hk0 (.inr (Nat.pos_of_ne_zero hz))
      have b6 : binF .gtr (.int .u64 ((m / 256 ^ (k - 1) : Nat) : Int)) (.int .u64 0) = some (.bool true) := by
        generalize m / 256 ^ (k - 1) = y at hz
        simp only [binF, binI, if_true]; rw [decide_eq_true (by omega)]
      generalize ((m / 256 ^ (k - 1) : Nat) : Int) = Y at *
      simp [f47r5, f47r6, b1, b2, b3, b4, b6]
      exact tail _ _ rfl rfl (by rw [← hl]; rfl) rfl
end Go.Absw

/- Contracts of wire.Ints and dioramaref01.Ints. -/
namespace Go.Absw
open Go Go.Proofs
set_option maxRecDepth 100000

def rowB (l : List Int) : List (List FV) := l.map fun b => [.int .u8 b]
theorem encB_row (l : List Int) : encB l = .sl 1 (rowB l) := rfl
theorem rowB_len (l : List Int) : (rowB l).length = l.length := by simp [rowB]
theorem rowB_app (a b : List Int) : rowB a ++ rowB b = rowB (a ++ b) := by simp [rowB]
theorem intI_len {n : Int} (h : In64 n) : (intI n).length ≤ 9 := by
  obtain ⟨_, _, _, d4⟩ := digN_spec 8 (magN n) (magN_lt h)
  simp only [intI, List.length_cons, List.length_map, List.length_reverse, digs]
  omega
def intsI (l : List Int) : List Int := intI l.length ++ l.flatMap intI
theorem flat_len {α : Type} (f : α → List Int) (c : Nat) : ∀ l : List α, (∀ x ∈ l, (f x).length ≤ c) → (l.flatMap f).length ≤ c * l.length
  | [], _ => by simp
  | x :: r, h => by
    have h1 := h x (by simp)
    have h2 := flat_len f c r (fun y hy => h y (by simp [hy]))
    rw [List.flatMap_cons, List.length_append, List.length_cons, Nat.mul_add, Nat.mul_one]
    omega

section
variable {G : Env} (hP : G.P = Tryd.prog) {n : Int} {a : List (Nat × PV)} {b : List (Nat × Tok)} {K : St → Prop} {d T : Nat}
include hP
theorem pRint (hn : In64 n) (hb : lkK b T = ⟨0, .gone⟩) (hK : K (mkSt ((d, .ts T 0 (intI n).length 1) :: a) ((T, ⟨1, .row 5 1 0 0 (rowB (intI n))⟩) :: b))) :
    pCall G .f [] [T] (some d) [.f (.fn (.func 49)), .f (.int .i64 n)] (mkSt a b) K := by
  refine pCall_tok (rint_ct hP hn) rfl ?_ ⟨rfl, rfl⟩ ?_
  · simp [callInp]
  · simpa [newT, pos, mUp, upC, hb, rowB] using hK
theorem pWint (hn : In64 n) (hb : lkK b T = ⟨0, .gone⟩) (hK : K (mkSt ((d, .ts T 0 (intI n).length 1) :: a) ((T, ⟨1, .row 5 1 0 0 (rowB (intI n))⟩) :: b))) :
    pCall G .f [] [T] (some d) [.f (.fn (.func 47)), .f (.int .i64 n)] (mkSt a b) K := by
  refine pCall_tok (wint_ct hP hn) rfl ?_ ⟨rfl, rfl⟩ ?_
  · simp [callInp]
  · simpa [newT, pos, mUp, upC, hb, rowB] using hK
end

/-- The bytes behind i numbers. -/
def accI (l : List Int) (i : Nat) : List Int := intI l.length ++ (l.take i).flatMap intI
theorem accI_zero (l : List Int) : accI l 0 = intI l.length := by simp [accI]
theorem accI_end (l : List Int) : accI l l.length = intsI l := by simp [accI, intsI]
theorem accI_len {l : List Int} (hl : ∀ n ∈ l, In64 n) (hlen : l.length < 1000000) (i : Nat) : (accI l i).length ≤ 9 + 9 * l.length := by
  have h1 := intI_len (n := (l.length : Int)) (i64c (by omega))
  have h2 := flat_len intI 9 (l.take i) (fun x hx => intI_len (hl x (List.mem_of_mem_take hx)))
  rw [List.length_take] at h2
  have h3 : 9 * min i l.length ≤ 9 * l.length := Nat.mul_le_mul_left _ (by omega)
  rw [accI, List.length_append]
  omega
theorem accI_succ {l : List Int} {i : Nat} (h : i < l.length) : accI l (i + 1) = accI l i ++ intI l[i] := by
  unfold accI
  rw [List.take_succ_eq_append_getElem h, List.flatMap_append, List.append_assoc]; simp
theorem take_rowB (a : List Int) : List.take a.length (rowB a) = rowB a := List.take_of_length_le (by rw [rowB_len]; exact Nat.le_refl _)

theorem rints_ct {G : Env} (hP : G.P = Tryd.prog) {l : List Int} (hl : ∀ n ∈ l, In64 n) (hlen : l.length < 1000000) : CT G 50 ⟨[.f (encL l)], []⟩ ⟨.f (encB (intsI l)), [], []⟩ := by
  refine ct_of_body (N := []) (pc := f50pc) (rs := f50rs) (by rw [hP]; exact f50ok) ?_
  rw [entry_mk]
  have hn0 : In64 (l.length : Int) := i64c (by omega)
  simp [f50pc, f50r0, f50r1, encL]
  refine pRint hP hn0 rfl ?_
  simp [f50r2]
  unfold f50l0
  refine pwp_loop (α := Nat) (fun i => mkSt [(0, .f (encL l)), (3, .ts 107 0 (accI l i).length 0), (4, .f (.int .i64 (i : Int)))] [(107, ⟨0, .row 5 1 0 0 (rowB (accI l i))⟩)])
    (fun i => i ≤ l.length) (fun i => l.length - i) 0 (by omega) (by simp [keepSt, encL, iI, accI_zero]) ?_
  intro i hi
  have hal := accI_len hl hlen i
  by_cases hlt : i < l.length
  · have hlt' : (i : Int) < l.length := by omega
    have hmem := List.getElem_mem hlt
    have hin := hl _ hmem
    have h9i := intI_len hin
    have hnth : nth (l.map fun n => [FV.int .i64 n]) (i : Int) = some [.int .i64 l[i]] := by simp [nth, hlt]
    have hnext := accI_succ hlt
    have w1 : IntKind.i64.wrap ((i : Int) + 1) = (i : Int) + 1 := w64 (by omega)
    generalize accI l i = acc at *
    generalize l[i] = v at *
    have hszi : acc.length + (intI v).length ≤ 140737488355328 ∧ acc.length + (intI v).length ≤ i64max := by simp [i64max]; omega
    simp [f50r3, f50r5, encL, iI, binF, binI, hlt, hlt', hnth]
    refine pRint hP hin rfl ?_
    simp [f50r4, binF, binI, w1, hszi, take_rowB, rowB_len, keepSt]
    refine ⟨i + 1, by omega, by omega, ?_⟩
    rw [hnext, rowB_app, List.length_append]
    rfl
  · have hil : i = l.length := by omega
    subst hil
    rw [accI_end] at *
    simp [f50r3, encL, iI, binF, binI, ghSt]
    simp [f50r6, retQ, outSt, f50rs, rvals, RArg.val, resPV, ghSt, take_rowB, encB_row, rowB_len]

theorem wints_ct {G : Env} (hP : G.P = Tryd.prog) {l : List Int} (hl : ∀ n ∈ l, In64 n) (hlen : l.length < 1000000) : CT G 48 ⟨[.f (encL l)], []⟩ ⟨.f (encB (intsI l)), [], []⟩ := by
  refine ct_of_body (N := []) (pc := f48pc) (rs := f48rs) (by rw [hP]; exact f48ok) ?_
  rw [entry_mk]
  have hn0 : In64 (l.length : Int) := i64c (by omega)
  simp [f48pc, f48r0, f48r1, encL]
  refine pWint hP hn0 rfl ?_
  simp [f48r2]
  unfold f48l0
  refine pwp_loop (α := Nat) (fun i => mkSt [(3, .ts 108 0 (accI l i).length 0), (9, .f (encL l)), (10, .f (.int .i64 (l.length : Int))), (11, .f (.int .i64 (i : Int)))] [(108, ⟨0, .row 5 1 0 0 (rowB (accI l i))⟩)])
    (fun i => i ≤ l.length) (fun i => l.length - i) 0 (by omega) (by simp [keepSt, encL, iI, accI_zero]) ?_
  intro i hi
  have hal := accI_len hl hlen i
  by_cases hlt : i < l.length
  · have hlt' : (i : Int) < l.length := by omega
    have hmem := List.getElem_mem hlt
    have hin := hl _ hmem
    have h9i := intI_len hin
    have hnth : nth (l.map fun n => [FV.int .i64 n]) (i : Int) = some [.int .i64 l[i]] := by simp [nth, hlt]
    have hnext := accI_succ hlt
    have w1 : IntKind.i64.wrap ((i : Int) + 1) = (i : Int) + 1 := w64 (by omega)
    generalize accI l i = acc at *
    generalize l[i] = v at *
    have hszi : acc.length + (intI v).length ≤ 140737488355328 ∧ acc.length + (intI v).length ≤ i64max := by simp [i64max]; omega
    simp [f48r3, f48r4, f48r5, encL, iI, binF, binI, hlt, hlt', hnth]
    refine pWint hP hin rfl ?_
    simp [f48r6, binF, binI, w1, hszi, take_rowB, rowB_len, keepSt]
    refine ⟨i + 1, by omega, by omega, ?_⟩
    rw [hnext, rowB_app, List.length_append]
    rfl
  · have hil : i = l.length := by omega
    subst hil
    rw [accI_end] at *
    simp [f48r3, encL, iI, binF, binI, ghSt]
    simp [f48r7, retQ, outSt, f48rs, rvals, RArg.val, resPV, ghSt, take_rowB, encB_row, rowB_len]
end Go.Absw

/- Contracts of vm.Encode, dioramaref29.Encode and dioramaref01.Same. -/
namespace Go.Absw
open Go Go.Proofs
set_option maxRecDepth 100000

def insL (i : Ins) : List Int := [i.op, i.a, i.b, i.c]
def In64I (i : Ins) : Prop := In64 i.op ∧ In64 i.a ∧ In64 i.b ∧ In64 i.c
theorem insL_in {i : Ins} (h : In64I i) : ∀ n ∈ insL i, In64 n := by
  intro n hn
  simp only [insL, List.mem_cons, List.not_mem_nil, or_false] at hn
  obtain ⟨h1, h2, h3, h4⟩ := h
  rcases hn with rfl | rfl | rfl | rfl <;> assumption
def encodeI (p : List Ins) : List Int := intI p.length ++ p.flatMap fun i => intsI (insL i)
def accE (p : List Ins) (i : Nat) : List Int := intI p.length ++ (p.take i).flatMap fun i => intsI (insL i)
theorem accE_zero (p : List Ins) : accE p 0 = intI p.length := by simp [accE]
theorem accE_end (p : List Ins) : accE p p.length = encodeI p := by simp [accE, encodeI]
theorem intsI_len {i : Ins} (h : In64I i) : (intsI (insL i)).length ≤ 45 := by
  have := accI_len (insL_in h) (by simp [insL]) (insL i).length
  rw [accI_end] at this
  simpa [insL] using this
theorem accE_len {p : List Ins} (hp : ∀ i ∈ p, In64I i) (hlen : p.length < 1000000) (i : Nat) : (accE p i).length ≤ 9 + 45 * p.length := by
  have h1 := intI_len (n := (p.length : Int)) (i64c (by omega))
  have h2 := flat_len (fun i => intsI (insL i)) 45 (p.take i) (fun x hx => intsI_len (hp x (List.mem_of_mem_take hx)))
  rw [List.length_take] at h2
  have h3 : 45 * min i p.length ≤ 45 * p.length := Nat.mul_le_mul_left _ (by omega)
  rw [accE, List.length_append]
  omega
theorem accE_succ {p : List Ins} {i : Nat} (h : i < p.length) : accE p (i + 1) = accE p i ++ intsI (insL p[i]) := by
  unfold accE
  rw [List.take_succ_eq_append_getElem h, List.flatMap_append, List.append_assoc]; simp

theorem encode_ct {G : Env} (hP : G.P = Tryd.prog) {p : List Ins} (hp : ∀ i ∈ p, In64I i) (hlen : p.length < 1000000) : CT G 21 ⟨[.f (encP p)], []⟩ ⟨.f (encB (encodeI p)), [], []⟩ := by
  refine ct_of_body (N := []) (pc := f21pc) (rs := f21rs) (by rw [hP]; exact f21ok) ?_
  rw [entry_mk]
  have hn0 : In64 (p.length : Int) := i64c (by omega)
  simp [f21pc, f21r0, f21r1, encP]
  refine pWint hP hn0 rfl ?_
  simp [f21r2]
  unfold f21l0
  refine pwp_loop (α := Nat) (fun i => mkSt [(3, .ts 108 0 (accE p i).length 0), (9, .f (encP p)), (10, .f (.int .i64 (p.length : Int))), (11, .f (.int .i64 (i : Int)))] [(108, ⟨0, .row 5 1 0 0 (rowB (accE p i))⟩)])
    (fun i => i ≤ p.length) (fun i => p.length - i) 0 (by omega) (by simp [keepSt, encP, iI, accE_zero]) ?_
  intro i hi
  have hal := accE_len hp hlen i
  by_cases hlt : i < p.length
  · have hlt' : (i : Int) < p.length := by omega
    have hmem := List.getElem_mem hlt
    have hin := hp _ hmem
    have h9i := intsI_len hin
    have hnth : nth (p.map encI) (i : Int) = some (encI p[i]) := by simp [nth, hlt]
    have hnext := accE_succ hlt
    have w1 : IntKind.i64.wrap ((i : Int) + 1) = (i : Int) + 1 := w64 (by omega)
    generalize accE p i = acc at *
    generalize p[i] = q at *
    have hct := wints_ct hP (insL_in hin) (by simp [insL])
    have hszi : acc.length + (intsI (insL q)).length ≤ 140737488355328 ∧ acc.length + (intsI (insL q)).length ≤ i64max := by simp [i64max]; omega
    have he : (encI q).length = 4 := rfl
    have hsrc : ∀ σ ft, srcOf σ ft 1 (.f (encB (intsI (insL q)))) = some (rowB (intsI (insL q))) := fun _ _ => rfl
    simp [f21r3, f21r4, f21r5, encP, iI, binF, binI, hlt, hlt', hnth, getN, he]
    refine pCall_pure hct rfl rfl rfl ?_
    simp [f21r6, binF, binI, w1, hsrc, hszi, take_rowB, rowB_len, keepSt]
    refine ⟨i + 1, by omega, by omega, ?_⟩
    rw [hnext, rowB_app, List.length_append]
    rfl
  · have hil : i = p.length := by omega
    subst hil
    rw [accE_end] at *
    simp [f21r3, encP, iI, binF, binI, ghSt]
    simp [f21r7, retQ, outSt, f21rs, rvals, RArg.val, resPV, ghSt, take_rowB, encB_row, rowB_len]

theorem rencode_ct {G : Env} (hP : G.P = Tryd.prog) {p : List Ins} (hp : ∀ i ∈ p, In64I i) (hlen : p.length < 1000000) : CT G 22 ⟨[.f (encP p)], []⟩ ⟨.f (encB (encodeI p)), [], []⟩ := by
  refine ct_of_body (N := []) (pc := f22pc) (rs := f22rs) (by rw [hP]; exact f22ok) ?_
  rw [entry_mk]
  have hn0 : In64 (p.length : Int) := i64c (by omega)
  simp [f22pc, f22r0, f22r1, encP]
  refine pRint hP hn0 rfl ?_
  simp [f22r2]
  unfold f22l0
  refine pwp_loop (α := Nat) (fun i => mkSt [(0, .f (encP p)), (3, .ts 107 0 (accE p i).length 0), (4, .f (.int .i64 (i : Int)))] [(107, ⟨0, .row 5 1 0 0 (rowB (accE p i))⟩)])
    (fun i => i ≤ p.length) (fun i => p.length - i) 0 (by omega) (by simp [keepSt, encP, iI, accE_zero]) ?_
  intro i hi
  have hal := accE_len hp hlen i
  by_cases hlt : i < p.length
  · have hlt' : (i : Int) < p.length := by omega
    have hmem := List.getElem_mem hlt
    have hin := hp _ hmem
    have h9i := intsI_len hin
    have hnth : nth (p.map encI) (i : Int) = some (encI p[i]) := by simp [nth, hlt]
    have hnext := accE_succ hlt
    have w1 : IntKind.i64.wrap ((i : Int) + 1) = (i : Int) + 1 := w64 (by omega)
    generalize accE p i = acc at *
    generalize p[i] = q at *
    have hct := rints_ct hP (insL_in hin) (by simp [insL])
    have hszi : acc.length + (intsI (insL q)).length ≤ 140737488355328 ∧ acc.length + (intsI (insL q)).length ≤ i64max := by simp [i64max]; omega
    have he : (encI q).length = 4 := rfl
    have hsrc : ∀ σ ft, srcOf σ ft 1 (.f (encB (intsI (insL q)))) = some (rowB (intsI (insL q))) := fun _ _ => rfl
    simp [f22r3, f22r5, encP, iI, binF, binI, hlt, hlt', hnth, getN, he]
    refine pCall_pure hct rfl rfl rfl ?_
    simp [f22r4, binF, binI, w1, hsrc, hszi, take_rowB, rowB_len, keepSt]
    refine ⟨i + 1, by omega, by omega, ?_⟩
    rw [hnext, rowB_app, List.length_append]
    rfl
  · have hil : i = p.length := by omega
    subst hil
    rw [accE_end] at *
    simp [f22r3, encP, iI, binF, binI, ghSt]
    simp [f22r6, retQ, outSt, f22rs, rvals, RArg.val, resPV, ghSt, take_rowB, encB_row, rowB_len]

theorem same_ct {G : Env} (hP : G.P = Tryd.prog) {a : List Int} (hlen : a.length < 1000000000) : CT G 20 ⟨[.f (encB a), .f (encB a)], []⟩ ⟨.f (.bool true), [], []⟩ := by
  refine ct_of_body (N := []) (pc := f20pc) (rs := f20rs) (by rw [hP]; exact f20ok) ?_
  rw [entry_mk]
  simp [f20pc, f20r0, f20r1, f20r3, encB, binF, binI]
  unfold f20l0
  refine pwp_loop (α := Nat) (fun i => mkSt [(0, .f (encB a)), (1, .f (encB a)), (5, .f (.int .i64 (i : Int)))] []) (fun i => i ≤ a.length) (fun i => a.length - i) 0 (by omega) (by simp [keepSt, encB]) ?_
  intro i hi
  by_cases hlt : i < a.length
  · have hlt' : (i : Int) < a.length := by omega
    have hnth : nth (a.map fun b => [FV.int .u8 b]) (i : Int) = some [.int .u8 a[i]] := by simp [nth, hlt]
    have w1 : IntKind.i64.wrap ((i : Int) + 1) = (i : Int) + 1 := w64 (by omega)
    simp [f20r4, f20r6, f20r5, encB, binF, binI, hlt, hlt', hnth, w1, keepSt]
    exact ⟨i + 1, by omega, by omega, rfl⟩
  · have hlt' : ¬ (i : Int) < a.length := by omega
    simp [f20r4, encB, binF, binI, hlt, hlt']
    simp [f20r8, retQ, outSt, f20rs, rvals, RArg.val, resPV]
end Go.Absw

/- The law VmValid: it returns true. -/
namespace Go.Absw
open Go Go.Proofs
set_option maxRecDepth 100000

theorem fits_in {s v n : Int} (h : fitsF s v n = true) (hn : n ≤ 1000000) : In64 v := by
  have : -1048576 ≤ v ∧ v ≤ 1048576 := by
    by_cases e1 : s = 1
    · subst e1; simp [fitsF, bnd] at h; omega
    by_cases e2 : s = 2
    · subst e2; simp [fitsF, bnd] at h; omega
    by_cases e3 : s = 3
    · subst e3; simp [fitsF, bnd] at h; omega
    by_cases e4 : s = 4
    · subst e4; simp [fitsF, bnd] at h; omega
    by_cases e5 : s = 5
    · subst e5; simp [fitsF, bnd] at h; omega
    by_cases e6 : s = 6
    · subst e6; simp [fitsF, bnd] at h; omega
    simp [fitsF, bnd, e1, e2, e3, e4, e5, e6] at h; omega
  exact i64c (by omega)
theorem ok_in {i : Ins} {n : Int} (h : okIns n i = true) (hn : n ≤ 1000000) : In64I i := by
  simp only [okIns, Bool.and_eq_true, decide_eq_true_eq] at h
  obtain ⟨⟨h0, h9⟩, ⟨ha, hb⟩, hc⟩ := h
  exact ⟨by unfold In64; omega, fits_in ha hn, fits_in hb hn, fits_in hc hn⟩
theorem wrap_in (n : Int) : In64 (IntKind.i64.wrap n) := by rw [IntKind.wrap_i64]; unfold In64; omega
theorem tab_in (k : Int) (h : 0 ≤ k ∧ k < 16) : In64 (nth0 bentTab k) := by
  have := nth0_mem bentTab k ⟨h.1, by simp [bentTab]; omega⟩
  generalize nth0 bentTab k = v at *
  simp only [bentTab, List.mem_cons, List.not_mem_nil, or_false] at this
  exact i64c (by omega)
theorem bent_in {p : List Ins} (hp : ∀ i ∈ p, In64I i) (at' how by' : Int) : ∀ i ∈ bentF p at' how by', In64I i := by
  have n11 := aroundF_nonneg by' 11
  have l11 := aroundF_lt by' (most := 11) (by omega)
  have n16 := aroundF_nonneg by' 16
  have l16 := aroundF_lt by' (most := 16) (by omega)
  have z : In64 0 := by simp [In64]
  have o : In64 (aroundF by' 11 - 1) := i64c (by omega)
  have tb := tab_in (aroundF by' 16) ⟨n16, l16⟩
  intro i hi
  unfold bentF at hi
  split at hi
  · simp only [List.mem_cons, List.not_mem_nil, or_false] at hi
    subst hi
    exact ⟨o, z, z, z⟩
  rename_i h0
  have hq := hp _ (nth0_mem p (aroundF at' p.length) ⟨aroundF_nonneg _ _, aroundF_lt _ (by omega)⟩)
  obtain ⟨q1, q2, q3, q4⟩ := hq
  simp only at hi
  split at hi
  · rcases List.mem_or_eq_of_mem_set hi with h | rfl
    · exact hp i h
    · exact ⟨o, q2, q3, q4⟩
  split at hi
  · rcases List.mem_or_eq_of_mem_set hi with h | rfl
    · exact hp i h
    · exact ⟨q1, tb, q3, q4⟩
  split at hi
  · rcases List.mem_or_eq_of_mem_set hi with h | rfl
    · exact hp i h
    · exact ⟨q1, q2, tb, q4⟩
  split at hi
  · rcases List.mem_or_eq_of_mem_set hi with h | rfl
    · exact hp i h
    · exact ⟨q1, q2, q3, tb⟩
  split at hi
  · rcases List.mem_append.1 hi with h | h
    · exact hp i (List.mem_of_mem_take h)
    · exact hp i (List.mem_of_mem_drop h)
  split at hi
  · have h := List.mem_of_mem_take hi
    rcases List.mem_append.1 h with h | h
    · exact hp i h
    · have := List.eq_of_mem_replicate h
      subst this
      exact ⟨z, z, z, z⟩
  · rcases List.mem_append.1 hi with h | h
    · exact hp i h
    · simp only [List.mem_cons, List.not_mem_nil, or_false] at h
      subst h
      exact ⟨q1, q2, q3, q4⟩

theorem vmValid_ct {G : Env} (hP : G.P = Tryd.prog) {l m : List Int} (hl : ∀ n ∈ l, In64 n) (hm : ∀ n ∈ m, In64 n) (hll : l.length < 1000000000000000000) {at' how by' : Int} (hat : In64 at') (hhow : In64 how) (hby : In64 by') :
    CT G 6 ⟨[.f (encL l), .f (encL m), .f (iI at'), .f (iI how), .f (iI by')], []⟩ ⟨.f (.bool true), [], []⟩ := by
  refine ct_of_body (N := []) (pc := f6pc) (rs := f6rs) (by rw [hP]; exact f6ok) ?_
  rw [entry_mk]
  have he : ∀ x, (encX x).length = 4 := fun _ => rfl
  obtain ⟨x1, x2, x3⟩ := schF_lt l
  obtain ⟨xk, xo⟩ := schF_kinds l
  simp [f6pc, f6r0, f6r1, iI, encL]
  refine pCall_pure (schema_ct hP hl hll) rfl rfl rfl ?_
  generalize schF l = x at *
  simp
  refine pCall_pure (program_ct hP hm x2 x1 x3) rfl rfl rfl ?_
  obtain ⟨hv, hb⟩ := prog_valid xk.1 xk.2 xo m
  have hpl := progF_len x m
  have hpi : ∀ i ∈ progF x m, In64I i := fun i hi => ok_in ((valid_ok hv).2 i hi) (by omega)
  generalize progF x m = p at *
  simp [f6r2]
  refine pCall_pure (bent_ct hP (p := p) (by omega) hat hhow hby) rfl rfl rfl ?_
  have hql := bent_len p at' how by'
  have hqi := bent_in hpi at' how by'
  generalize bentF p at' how by' = q at *
  simp [f6r3, binF, binI]
  have hw7 := wrap_in (how.tdiv 7)
  generalize IntKind.i64.wrap (how.tdiv 7) = h7 at *
  refine pCall_pure (bent_ct hP (p := q) (by omega) hby hw7 hat) rfl rfl rfl ?_
  have hrl := bent_len q by' h7 at'
  have hri := bent_in hqi by' h7 at'
  generalize bentF q by' h7 at' = r at *
  simp [f6r4]
  unfold f6l0
  refine pwp_loop (α := Nat) (fun i => mkSt [(11, .f (encP p)), (13, .ts 132 0 4 0), (14, .f (.int .i64 (i : Int)))] [(132, ⟨0, .row 32 1 0 0 [[encP p], [encP q], [encP r], [.nils]]⟩)]) (fun i => i ≤ 4) (fun i => 4 - i) 0 (by omega) (by simp [keepSt]) ?_
  intro i hi
  by_cases hlt : i < 4
  · have hlt' : (i : Int) < 4 := by omega
    have w1 : IntKind.i64.wrap ((i : Int) + 1) = (i : Int) + 1 := w64 (by omega)
    obtain ⟨P, X, hPl, hPi, hPg, hPX⟩ : ∃ (P : List Ins) (X : FV), P.length < 1000000 ∧ (∀ i ∈ P, In64I i) ∧ (∀ h, [[encP p], [encP q], [encP r], [FV.nils]][i]'h = [X]) ∧ ∀ σ ft, frzV σ ft [some 4] (.f X) = .f (encP P) := by
      match i, hlt with
      | 0, _ => exact ⟨p, encP p, by omega, hpi, fun _ => rfl, fun _ _ => rfl⟩
      | 1, _ => exact ⟨q, encP q, by omega, hqi, fun _ => rfl, fun _ _ => rfl⟩
      | 2, _ => exact ⟨r, encP r, by omega, hri, fun _ => rfl, fun _ _ => rfl⟩
      | 3, _ => exact ⟨[], .nils, by simp, by simp, fun _ => rfl, fun _ _ => rfl⟩
    have hov := own_ct hP P hPl
    have hva := valid_ct hP P hPl
    have hrv := rvalid_ct hP P hPl
    have hen := encode_ct hP hPi hPl
    have hre := rencode_ct hP hPi hPl
    have hal := accE_len hPi hPl P.length
    rw [accE_end] at hal
    have hsa := same_ct hP (a := encodeI P) (by omega)
    simp [f6r5, f6r7, binF, binI, hlt, hlt', hPg, hPX]
    refine pCall_pure hov rfl rfl rfl ?_
    simp
    refine pCall_pure hva rfl rfl rfl ?_
    simp [hlt, hlt', hPg, hPX]
    refine pCall_pure hrv rfl rfl rfl ?_
    simp [iI, binF, binI, hlt, hlt', hPg, hPX]
    refine pCall_pure hov rfl rfl rfl ?_
    simp
    refine pCall_pure hen rfl rfl rfl ?_
    simp [hlt, hlt', hPg, hPX]
    refine pCall_pure hre rfl rfl rfl ?_
    simp
    refine pCall_pure hsa rfl rfl rfl ?_
    simp [unF, f6r6, binF, binI, w1, keepSt]
    exact ⟨i + 1, by omega, by omega, rfl⟩
  · have hil : i = 4 := by omega
    subst hil
    simp [f6r5, binF, binI]
    simp [f6r9, binF, binI]
    refine pCall_pure (own_ct hP p (by omega)) rfl rfl rfl ?_
    simp
    refine pCall_pure (valid_ct hP p (by omega)) rfl rfl rfl ?_
    simp [hv, iI, binF, binI]
    refine pCall_pure (lives_ct hP) rfl rfl rfl ?_
    simp [retQ, outSt, f6rs, rvals, RArg.val, resPV]
end Go.Absw
