/- Contracts of printing and of strings.Builder; VmReads returns true. Conditions: told at each. -/
import Derived.Test.YtpkhdnaeaeiidaaDoorXh
import Derived.Test.YtpkhdnaeaeiidaaDoorTg
import Derived.Test.YtpkhdnaeaeiidaaDoorXa
import Derived.Test.YtpkhdnaeaeiidaaDoorGa
import Derived.Lib.Builder
import Derived.Lib.UnsafeStr
import Derived.WalkKit
import Derived.BigCall
import Derived.Laws.Externs
import Derived.RegionTactic
import Derived.Test.YtpkhdnaeaeiidaaDoorSa
import Derived.Test.YtpkhdnaeaeiidaaDoorXg
set_option linter.unusedSimpArgs false
set_option linter.unusedVariables false

/- Contract of dioramaref19.Decimal. -/
namespace Go.Absw
open Go Go.Proofs
set_option maxRecDepth 100000

def rowT : TC → Nat → Nat → Option (List (List FV))
  | .row _ _ _ _ xs, off, n => if off + n ≤ xs.length then some ((xs.drop off).take n) else none
  | _, _, _ => none
@[simp] theorem rowT_row (a b c d) (xs : List (List FV)) (off n : Nat) : rowT (.row a b c d xs) off n = if off + n ≤ xs.length then some ((xs.drop off).take n) else none := rfl
@[simp] theorem sR_b2s_ts (σ : St) (ft : List Nat) (t off n s : Nat) : semR σ ft .b2s [.ts t off n s] = ((rowT (look σ ft t s) off n).bind bytesOf).map fun s => .f (.str s) := by
  simp only [semR, rowOf, PV.noStr, if_true]
  cases look σ ft t s <;> rfl
@[simp] theorem bytesOf_one (n : Int) : bytesOf [[.int .u8 n]] = some [n.toNat.toUInt8] := rfl
/-- The decimal digits. -/
def decS (n : Nat) : List UInt8 := if n < 10 then [(48 + n).toUInt8] else decS (n / 10) ++ [(48 + n % 10).toUInt8]
  termination_by n
  decreasing_by omega
def decimalF (n : Int) : List UInt8 := if n < 0 then 45 :: decS (-n).toNat else decS n.toNat
theorem decS_len : ∀ n : Nat, (decS n).length ≤ n + 1 := by
  intro n
  induction n using Nat.strongRecOn with
  | _ n ih =>
    rw [decS]
    split
    · simp
    · have := ih (n / 10) (by omega)
      rw [List.length_append, List.length_singleton]
      omega

theorem dec_ct {G : Env} (hP : G.P = Tryd.prog) : ∀ n : Nat, n < 1000000000 → CT G 52 ⟨[.f (.int .i64 (n : Int))], []⟩ ⟨.f (.str (decS n)), [], []⟩ := by
  intro n
  induction n using Nat.strongRecOn with
  | _ n ih =>
    intro hn
    refine ct_of_body (N := []) (pc := f52pc) (rs := f52rs) (by rw [hP]; exact f52ok) ?_
    rw [entry_mk]
    have h0 : ¬ (n : Int) < 0 := by omega
    rw [decS]
    by_cases h : n < 10
    · rw [if_pos h]
      have h' : (n : Int) < 10 := by omega
      have w1 : IntKind.i64.wrap (48 + (n : Int)) = 48 + (n : Int) := w64 (by omega)
      have w2 : IntKind.u8.wrap (48 + (n : Int)) = 48 + (n : Int) := wrapu8 (by omega)
      have e : UInt8.ofNat (48 + (n : Int)).toNat = (48 + n).toUInt8 := by congr 1
      generalize (48 + n).toUInt8 = b at *
      simp [f52pc, f52r0, f52r1, f52r3, f52r4, retQ, outSt, f52rs, rvals, RArg.val, resPV, binF, binI, h0, h, h', w1, w2, e]
    · rw [if_neg h]
      have h' : ¬ (n : Int) < 10 := by omega
      have hq : (n : Int).tdiv 10 = ((n / 10 : Nat) : Int) := by rw [Int.tdiv_eq_ediv_of_nonneg (by omega)]; omega
      have hr : (n : Int).tmod 10 = ((n % 10 : Nat) : Int) := by rw [Int.tmod_eq_emod_of_nonneg (by omega)]; omega
      have hq64 : IntKind.i64.wrap ((n / 10 : Nat) : Int) = ((n / 10 : Nat) : Int) := w64 (by omega)
      have w1 : IntKind.i64.wrap (48 + ((n % 10 : Nat) : Int)) = 48 + ((n % 10 : Nat) : Int) := w64 (by omega)
      have w2 : IntKind.u8.wrap (48 + ((n % 10 : Nat) : Int)) = 48 + ((n % 10 : Nat) : Int) := wrapu8 (by omega)
      have hih := ih (n / 10) (by omega) (by omega)
      have hlen := decS_len (n / 10)
      have hsum : (decS (n / 10)).length + 1 ≤ i64max := by simp [i64max]; omega
      generalize decS (n / 10) = D at *
      generalize n / 10 = q at *
      generalize n % 10 = r at *
      have e : UInt8.ofNat (48 + (r : Int)).toNat = (48 + r).toUInt8 := by congr 1
      generalize (48 + r).toUInt8 = b at *
      simp [f52pc, f52r0, f52r1, f52r3, f52r5, binF, binI, h0, h, h', hq, hr, hq64]
      refine pCall_pure hih rfl rfl rfl ?_
      simp [retQ, outSt, f52rs, rvals, RArg.val, resPV, binF, binI, binS, hr, w1, w2, e, hsum]

theorem decimal_ct {G : Env} (hP : G.P = Tryd.prog) {n : Int} (h1 : -1000000000 < n) (h2 : n < 1000000000) : CT G 52 ⟨[.f (.int .i64 n)], []⟩ ⟨.f (.str (decimalF n)), [], []⟩ := by
  rw [decimalF]
  by_cases h0 : n < 0
  · rw [if_pos h0]
    refine ct_of_body (N := []) (pc := f52pc) (rs := f52rs) (by rw [hP]; exact f52ok) ?_
    rw [entry_mk]
    have hd := dec_ct hP (-n).toNat (by omega)
    have hm : ((-n).toNat : Int) = -n := by omega
    rw [hm] at hd
    have hlen := decS_len (-n).toNat
    have hw : IntKind.i64.wrap (-n) = -n := w64 (by omega)
    generalize decS (-n).toNat = D at *
    have hsum : D.length + 1 ≤ i64max := by simp [i64max]; omega
    have hsum' : 1 + D.length ≤ i64max := by omega
    simp [f52pc, f52r0, f52r1, f52r2, binF, binI, unF, h0, hw]
    refine pCall_pure hd rfl rfl rfl ?_
    simp [retQ, outSt, f52rs, rvals, RArg.val, resPV, binF, binI, binS, hsum, hsum']
  · rw [if_neg h0]
    have hd := dec_ct hP n.toNat (by omega)
    have hm : (n.toNat : Int) = n := by omega
    rwa [hm] at hd
end Go.Absw

/- Contract of dioramaref29.Numbers; the printed text of a program. -/
namespace Go.Absw
open Go Go.Proofs
set_option maxRecDepth 100000

theorem f53ok : chkF Tryd.prog 53 0 [] 1 f53pc f53rs = true := by kernel_rfl
theorem rnumbers_ct {G : Env} (hP : G.P = Tryd.prog) (i : Ins) : CT G 53 ⟨[.ag ((encI i).map .f)], []⟩ ⟨.f (.sl 1 [[iI i.a], [iI i.b], [iI i.c]]), [], []⟩ := by
  refine ct_of_body (N := []) (pc := f53pc) (rs := f53rs) (by rw [hP]; exact f53ok) ?_
  rw [entry_mk]
  simp [f53pc, f53r0, f53r1, retQ, outSt, f53rs, rvals, RArg.val, resPV, encI, iI, ghSt]

def partF (b : UInt8) (n : Int) : List UInt8 := if b = 45 then [] else 32 :: decimalF n
def restF (i : Ins) (k : Nat) : List UInt8 := partF ((sortsR.getD i.op.toNat []).getD k 45) (numAt i k)
def lineF (i : Ins) : List UInt8 := wordsR.getD i.op.toNat [] ++ restF i 0 ++ restF i 1 ++ restF i 2 ++ [10]
def printF (p : List Ins) : List UInt8 := if validF p = 0 then (p.map lineF).flatten else []

theorem fits_bnd {s v n : Int} (h : fitsF s v n = true) (hn : n ≤ 128) : -1048577 < v ∧ v < 1048577 := by
  simp only [fitsF, bnd, Bool.and_eq_true, decide_eq_true_eq] at h
  repeat' split at h
  all_goals (simp at h; omega)
theorem partF_len {b : UInt8} {n : Int} (h1 : -1048577 < n) (h2 : n < 1048577) : (partF b n).length ≤ 1048600 := by
  unfold partF
  split
  · simp
  · unfold decimalF
    split
    · have := decS_len (-n).toNat; simp; omega
    · have := decS_len n.toNat; simp; omega
theorem restF_len {n : Nat} {i : Ins} (hn : n ≤ 128) (h : okIns n i = true) {k : Nat} (hk : k < 3) : -1048577 < numAt i k ∧ numAt i k < 1048577 ∧ (restF i k).length ≤ 1048600 := by
  have hb : -1048577 < numAt i k ∧ numAt i k < 1048577 := by
    simp only [okIns, fitAt, Bool.and_eq_true] at h
    match k, hk with
    | 0, _ => exact fits_bnd h.2.1.1 (by omega)
    | 1, _ => exact fits_bnd h.2.1.2 (by omega)
    | 2, _ => exact fits_bnd h.2.2 (by omega)
  exact ⟨hb.1, hb.2, partF_len hb.1 hb.2⟩
end Go.Absw

/- Contract of dioramaref29.Print. -/
namespace Go.Absw
open Go Go.Proofs
set_option maxRecDepth 100000

def preF (i : Ins) : Nat → List UInt8
  | 0 => []
  | k + 1 => preF i k ++ restF i k
def txtF (p : List Ins) (i : Nat) : List UInt8 := ((p.take i).map lineF).flatten
theorem lineF_pre (i : Ins) : lineF i = wordsR.getD i.op.toNat [] ++ preF i 3 ++ [10] := by simp [lineF, preF]
theorem preF_len {n : Nat} {i : Ins} (hn : n ≤ 128) (h : okIns n i = true) : ∀ k : Nat, k ≤ 3 → (preF i k).length ≤ k * 1048600
  | 0, _ => by simp [preF]
  | k + 1, hk => by
    have h1 := preF_len hn h k (by omega)
    have h2 := (restF_len hn h (k := k) (by omega)).2.2
    simp only [preF, List.length_append]; omega
theorem words_get : ∀ m : Nat, m < 9 → ∃ w, wordsR[m]? = some w ∧ w.length ≤ 20 := by
  intro m hm
  match m, hm with
  | 0, _ => exact ⟨_, rfl, by decide⟩
  | 1, _ => exact ⟨_, rfl, by decide⟩
  | 2, _ => exact ⟨_, rfl, by decide⟩
  | 3, _ => exact ⟨_, rfl, by decide⟩
  | 4, _ => exact ⟨_, rfl, by decide⟩
  | 5, _ => exact ⟨_, rfl, by decide⟩
  | 6, _ => exact ⟨_, rfl, by decide⟩
  | 7, _ => exact ⟨_, rfl, by decide⟩
  | 8, _ => exact ⟨_, rfl, by decide⟩
theorem sorts_get2 : ∀ m : Nat, m < 9 → ∃ x y z, sortsR[m]? = some [x, y, z] := fun m hm => by
  obtain ⟨x, y, z, h, _⟩ := sortsR_get m hm
  exact ⟨x, y, z, h⟩

theorem rprint_ct {G : Env} (hP : G.P = Tryd.prog) (p : List Ins) (hl : p.length < 1000000) : CT G 23 ⟨[.f (encP p)], []⟩ ⟨.f (.str (printF p)), [], []⟩ := by
  refine ct_of_body (N := []) (pc := f23pc) (rs := f23rs) (by rw [hP]; exact f23ok) ?_
  rw [entry_mk]
  simp [f23pc, f23r0, f23r1, encP]
  refine pCall_pure (rvalid_ct hP p hl) rfl rfl rfl ?_
  unfold printF
  by_cases hv : validF p = 0
  case neg => simp [f23r2, retQ, outSt, f23rs, rvals, RArg.val, resPV, binF, binI, iI, hv]
  obtain ⟨hlen, hok⟩ := valid_ok hv
  rw [if_pos hv]
  have hall : (p.map lineF).flatten = txtF p p.length := by simp [txtF]
  rw [hall]
  simp [f23r3, f23r4, binF, binI, iI, hv]
  unfold f23l0
  refine pwp_loop (α := Nat) (fun i => mkSt [(0, .f (encP p)), (3, .f (.str (txtF p i))), (4, .f (.int .i64 (i : Int)))] []) (fun i => i ≤ p.length ∧ (txtF p i).length ≤ i * 4000000) (fun i => p.length - i) 0 ⟨by omega, by simp [txtF]⟩ (by simp [keepSt, encP, txtF]) ?_
  rintro i ⟨hi, hL⟩
  by_cases hlt : i < p.length
  case neg =>
    have hil : i = p.length := by omega
    subst hil
    simp [f23r5, encP, binF, binI]
    simp [f23r14, retQ, outSt, f23rs, rvals, RArg.val, resPV]
  have hlt' : (i : Int) < p.length := by omega
  have hnth : nth (p.map encI) (i : Int) = some (encI p[i]) := by simp [nth, hlt]
  have w1 : IntKind.i64.wrap ((i : Int) + 1) = (i : Int) + 1 := w64 (by omega)
  have htk : txtF p (i + 1) = txtF p i ++ lineF p[i] := by
    unfold txtF
    rw [List.take_succ_eq_append_getElem hlt, List.map_append, List.flatten_append]; simp only [List.map_cons, List.map_nil, List.flatten_cons, List.flatten_nil, List.append_nil]
  have hq := hok p[i] (List.getElem_mem hlt)
  generalize txtF p i = T at *
  generalize p[i] = q at *
  have hpl := preF_len hlen hq
  have hrl := fun k hk => @restF_len _ _ hlen hq k hk
  have hop : 0 ≤ q.op ∧ q.op < 9 := by simp [okIns] at hq; omega
  obtain ⟨wd, hwd, hwl⟩ := words_get q.op.toNat (by omega)
  obtain ⟨x, y, z, hs⟩ := sorts_get2 q.op.toNat (by omega)
  have hline : lineF q = wd ++ preF q 3 ++ [10] := by rw [lineF_pre]; simp [hwd]
  have hww : nth (wordsR.map fun s => [FV.str s]) q.op = some [.str wd] := by
    rw [nth_map]; unfold nth; rw [if_pos (by omega), hwd]; rfl
  have hss : nth (sortsR.map fun s => [FV.str s]) q.op = some [.str [x, y, z]] := by
    rw [nth_map]; unfold nth; rw [if_pos (by omega), hs]; rfl
  have hlw : T.length + wd.length ≤ i64max := by simp [i64max]; omega
  rw [hline] at htk
  simp [f23r5, f23r7, encP, binF, binI, hlt, hlt']
  refine pCall_pure (words_ct hP) rfl rfl rfl ?_
  simp [f23r8, encS, encI, iI, hnth, hww, binF, binS, hlw]
  unfold f23l1
  refine pwp_loop (α := Nat) (fun k => mkSt [(0, .f (encP p)), (3, .f (.str (T ++ wd ++ preF q k))), (4, .f (.int .i64 (i : Int))), (5, .f (.int .i64 (k : Int)))] []) (fun k => k ≤ 3) (fun k => 3 - k) 0 (by omega) (by simp [keepSt, encP, preF]) ?_
  intro k hk
  by_cases hk3 : k < 3
  case neg =>
    have : k = 3 := by omega
    subst this
    have h3 := hpl 3 (by omega)
    generalize preF q 3 = D at *
    have hsum : T.length + (wd.length + D.length) + 1 ≤ i64max := by simp [i64max]; omega
    have hsum' : T.length + (wd.length + (D.length + 1)) ≤ i64max := by omega
    simp [f23r9, binF, binI]
    simp [f23r13, f23r6, binF, binI, binS, hsum, hsum', w1, keepSt]
    refine ⟨i + 1, ⟨by omega, ?_⟩, by omega, ?_⟩
    · rw [htk]; simp only [List.length_append, List.length_singleton]; omega
    · rw [htk]; simp [encP]
  have hk3' : (k : Int) < 3 := by omega
  have wk : IntKind.i64.wrap ((k : Int) + 1) = (k : Int) + 1 := w64 (by omega)
  have hpk := hpl k (by omega)
  obtain ⟨n1, n2, hrk⟩ := hrl k hk3
  have hpn : preF q (k + 1) = preF q k ++ restF q k := rfl
  have hbk : ∃ b, nth [x, y, z] (k : Int) = some b ∧ restF q k = partF b (numAt q k) := by
    match k, hk3 with
    | 0, _ => exact ⟨x, rfl, by simp [restF, hs]⟩
    | 1, _ => exact ⟨y, rfl, by simp [restF, hs]⟩
    | 2, _ => exact ⟨z, rfl, by simp [restF, hs]⟩
  have hnk : nth [[iI q.a], [iI q.b], [iI q.c]] (k : Int) = some [iI (numAt q k)] := by
    match k, hk3 with
    | 0, _ => rfl
    | 1, _ => rfl
    | 2, _ => rfl
  obtain ⟨b, hb, hr⟩ := hbk
  simp only [iI] at hnk
  simp [f23r9, f23r11, encP, binF, binI, hk3, hk3']
  refine pCall_pure (rsorts_ct hP) rfl rfl rfl ?_
  have hbu : (b.toNat : Int) = 45 ↔ b = 45 := by
    constructor
    · intro h; apply UInt8.toNat_inj.1; have : (45 : UInt8).toNat = 45 := rfl; omega
    · intro h; subst h; rfl
  by_cases h45 : b = 45
  · have h45' := hbu.2 h45
    have hre : restF q k = [] := by rw [hr]; simp [partF, h45]
    have hpn' : preF q (k + 1) = preF q k := by rw [hpn, hre]; simp
    simp [encI, iI, hnth, hss, hb, binF, h45', h45, f23r10, binI, wk, keepSt]
    refine ⟨k + 1, by omega, by omega, ?_⟩
    rw [hpn']; simp [encP]
  have h45' : ¬ (b.toNat : Int) = 45 := fun h => h45 (hbu.1 h)
  have hre : restF q k = 32 :: decimalF (numAt q k) := by rw [hr]; simp [partF, h45]
  have hdl : (decimalF (numAt q k)).length + 1 ≤ 1048600 := by rw [hre] at hrk; simpa using hrk
  have hdc := decimal_ct hP (n := numAt q k) (by omega) (by omega)
  rw [hre] at hpn
  generalize decimalF (numAt q k) = D at *
  have hpn' : preF q (k + 1) = preF q k ++ ([32] ++ D) := by rw [hpn]; rfl
  generalize preF q k = E at *
  have hs1 : T.length + (wd.length + E.length) + 1 ≤ i64max := by simp [i64max]; omega
  have hs2 : T.length + (wd.length + (E.length + 1)) ≤ i64max := by omega
  have hs3 : T.length + (wd.length + (E.length + (1 + D.length))) ≤ i64max := by simp [i64max]; omega
  have hs4 : T.length + (wd.length + (E.length + (D.length + 1))) ≤ i64max := by omega
  have hs5 : T.length + (wd.length + (E.length + 1)) + D.length ≤ i64max := by omega
  simp [encI, iI, hnth, hss, hb, binF, h45', h45, f23r12, binI, binS, hs1, hs2, getN]
  have hnc := rnumbers_ct hP q
  simp only [encI, iI] at hnc
  refine pCall_pure (rnumbers_ct hP q) (by simp [encI, iI]) (by simp [encI, iI, dnL]) (by simp [iI]) ?_
  simp [iI, hnk]
  refine pCall_pure hdc rfl rfl rfl ?_
  simp [binF, binS, hs1, hs2, hs3, hs4, hs5, f23r10, binI, wk, keepSt]
  refine ⟨k + 1, by omega, by omega, ?_⟩
  rw [hpn']; simp [encP]
end Go.Absw

/- Contract of dioramaref09.Spaced. -/
namespace Go.Absw
open Go Go.Proofs
set_option maxRecDepth 100000

theorem scanF_bnd (s : List UInt8) : ∀ (f i : Nat), i ≤ s.length → ∀ t ∈ (scanF s f i).1, t.1 ≤ t.2 ∧ t.2 ≤ s.length := by
  intro f
  induction f with
  | zero => intro i hi t ht; simp [scanF] at ht
  | succ f ih =>
    intro i hi t ht
    unfold scanF at ht
    have h1 := tokA_le s i hi
    have h2 := tokW_le s (tokA s i) h1
    split at ht
    · simp at ht
    · rcases List.mem_cons.1 ht with rfl | ht
      · exact ⟨by simp, by simpa using h2⟩
      · exact ih _ (by simpa using h2) t ht

def sepS : List (List UInt8) := [[32], [10], [32, 32, 10, 32]]
def pieceF (s : List UInt8) (l : List Int) (t : Nat × Nat) (i : Nat) : List UInt8 := sepS.getD (atF l (i : Int) 3).toNat [] ++ (s.drop t.1).take (t.2 - t.1)
def spF (s : List UInt8) (l : List Int) (ts : List (Nat × Nat)) : Nat → List UInt8
  | 0 => []
  | i + 1 => spF s l ts i ++ pieceF s l (ts.getD i (0, 0)) i
def spacedF (s : List UInt8) (l : List Int) : List UInt8 := spF s l (scanA s).1 (scanA s).1.length
theorem sep_get (l : List Int) (i : Int) : ∃ w, sepS.getD (atF l i 3).toNat [] = w ∧ w.length ≤ 4 ∧ ((atF l i 3 = 0 ∧ w = [32]) ∨ (atF l i 3 = 1 ∧ w = [10]) ∨ (atF l i 3 = 2 ∧ w = [32, 32, 10, 32])) := by
  have h0 : 0 ≤ atF l i 3 := by unfold atF; split; exact aroundF_nonneg _ _; simp
  have h3 : atF l i 3 < 3 := by unfold atF; split; exact aroundF_lt _ (by omega); simp
  generalize atF l i 3 = n at *
  obtain ⟨m, rfl⟩ : ∃ m : Nat, n = m := ⟨n.toNat, by omega⟩
  match m, (by omega : m < 3) with
  | 0, _ => exact ⟨_, rfl, by decide, by decide⟩
  | 1, _ => exact ⟨_, rfl, by decide, by decide⟩
  | 2, _ => exact ⟨_, rfl, by decide, by decide⟩

theorem spaced_ct {G : Env} (hP : G.P = Tryd.prog) (s : List UInt8) (hs : s.length < 1000000000) (l : List Int) (hl : ∀ n ∈ l, In64 n) :
    CT G 26 ⟨[.f (.str s), .f (encL l)], []⟩ ⟨.f (.str (spacedF s l)), [], []⟩ := by
  refine ct_of_body (N := []) (pc := f26pc) (rs := f26rs) (by rw [hP]; exact f26ok) ?_
  rw [entry_mk]
  simp [f26pc, f26r0, f26r1]
  refine pCall_pure (scan_ct hP s hs) rfl rfl rfl ?_
  have hlenA : (scanA s).1.length ≤ s.length := by have := scanF_len s (s.length + 1) 0 (by omega); unfold scanA; omega
  have hbnd := scanF_bnd s (s.length + 1) 0 (by omega)
  change ∀ t ∈ (scanA s).1, _ at hbnd
  unfold spacedF
  generalize scanA s = R at *
  obtain ⟨R, e⟩ := R
  simp only at hlenA hbnd
  simp [f26r2, f26r3]
  unfold f26l0
  refine pwp_loop (α := Nat) (fun i => mkSt [(0, .f (.str s)), (1, .f (encL l)), (5, .f (.sl 2 (R.map encT))), (7, .f (.str (spF s l R i))), (8, .f (.int .i64 (i : Int)))] []) (fun i => i ≤ R.length ∧ (spF s l R i).length ≤ i * (s.length + 4)) (fun i => R.length - i) 0 ⟨by omega, by simp [spF]⟩ (by simp [keepSt, spF]) ?_
  rintro i ⟨hi, hL⟩
  by_cases hlt : i < R.length
  case neg =>
    have hil : i = R.length := by omega
    subst hil
    simp [f26r4, binF, binI]
    simp [f26r7, retQ, outSt, f26rs, rvals, RArg.val, resPV]
  have hlt' : (i : Int) < R.length := by omega
  have hnth : nth (R.map encT) (i : Int) = some (encT R[i]) := by simp [nth, hlt]
  have w1 : IntKind.i64.wrap ((i : Int) + 1) = (i : Int) + 1 := w64 (by omega)
  have hget : R.getD i (0, 0) = R[i] := by simp [hlt]
  have htb := hbnd R[i] (List.getElem_mem hlt)
  have hsp : spF s l R (i + 1) = spF s l R i ++ pieceF s l R[i] i := by rw [spF, hget]
  obtain ⟨w, hw2, hw3, hw1⟩ := sep_get l i
  have hpc : pieceF s l R[i] i = w ++ (s.drop R[i].1).take (R[i].2 - R[i].1) := by unfold pieceF; rw [hw2]
  have hat := at_ct hP l hl (i : Int) 3 (by unfold In64; omega) (by unfold In64; omega)
  rw [hpc] at hsp
  have hmul : i * (s.length + 4) + (s.length + 4) = (i + 1) * (s.length + 4) := by rw [Nat.add_mul]; omega
  have hbig : (i + 1) * (s.length + 4) ≤ 1000000000 * 1000000004 := Nat.mul_le_mul (by omega) (by omega)
  generalize spF s l R i = T at *
  generalize R[i] = t at *
  obtain ⟨a, b⟩ := t
  simp only at htb hsp
  have htl : ((s.drop a).take (b - a)).length ≤ s.length := by simp; omega
  have hbn : bnds s.length (some (a : Int)) (some (b : Int)) = some (a, b) := by simp [bnds]; omega
  generalize hV : (s.drop a).take (b - a) = V at *
  have hfin : (spF s l R (i + 1)).length ≤ (i + 1) * (s.length + 4) := by rw [hsp]; simp only [List.length_append]; omega
  generalize (i + 1) * (s.length + 4) = Z at hbig hmul
  generalize i * (s.length + 4) = Y at hmul hL
  have hs1 : T.length + w.length ≤ i64max := by simp [i64max]; omega
  have hs2 : T.length + (w.length + V.length) ≤ i64max := by simp [i64max]; omega
  have hs3 : T.length + w.length + V.length ≤ i64max := by omega
  simp [f26r4, f26r6, binF, binI, hlt, hlt']
  refine pCall_pure hat rfl rfl rfl ?_
  generalize hm : atF l (i : Int) 3 = m at *
  rcases hw1 with ⟨rfl, rfl⟩ | ⟨rfl, rfl⟩ | ⟨rfl, rfl⟩
  all_goals
    simp only [List.length_cons, List.length_nil, Nat.zero_add, Nat.reduceAdd] at hs1 hs2 hs3
    simp [iI, hnth, encT, binF, binS, binI, hs1, hs2, hs3, hbn, hV, f26r5, w1, keepSt]
    exact ⟨i + 1, ⟨by omega, hfin⟩, by omega, by rw [hsp]; simp⟩
end Go.Absw

/- Contract of dioramaref09.Changed: it returns a text, not much longer. -/
namespace Go.Absw
open Go Go.Proofs
set_option maxRecDepth 100000

def word18 : List (List UInt8) := [[115, 99, 104, 101, 109, 97], [107, 105, 110, 100], [120], [45], [49], [45, 49], [48], [49, 48, 48, 48, 48, 48, 48, 48, 48, 48], [114, 117, 108, 101], [109, 111, 118, 101], [108, 105, 102, 101], [107, 101, 121], [110, 117, 109], [112, 105, 99, 107], [49, 51], [85, 112, 112, 101, 114], [115, 104, 97, 114, 101], [100, 97, 121]]
theorem word_get (m : Nat) (h : m < 18) : ∃ w, word18[m]? = some w ∧ w.length ≤ 10 := by
  have hl : ∀ w ∈ word18, w.length ≤ 10 := by decide
  have hm : m < word18.length := h
  exact ⟨word18[m], by simp [hm], hl _ (List.getElem_mem hm)⟩

theorem bytesOf_of : ∀ s : List UInt8, bytesOf (ofBytes s) = some s
  | [] => rfl
  | c :: r => by
    have := bytesOf_of r
    simp only [ofBytes, List.map_cons] at this ⊢
    simp [bytesOf, this]
theorem bytesOf_set (k : Int) : ∀ (s : List UInt8) (y : Nat), bytesOf ((ofBytes s).set y [.int .u8 k]) = some (s.set y k.toNat.toUInt8)
  | [], y => rfl
  | c :: r, 0 => by
    have := bytesOf_of r
    simp only [ofBytes, List.map_cons, List.set_cons_zero] at this ⊢
    simp only [bytesOf, this]; rfl
  | c :: r, y + 1 => by
    have := bytesOf_set k r y
    simp only [ofBytes, List.map_cons, List.set_cons_succ] at this ⊢
    simp [bytesOf, this]
theorem ofBytes_len (s : List UInt8) : (ofBytes s).length = s.length := by simp [ofBytes]

theorem changed_ct {G : Env} (hP : G.P = Tryd.prog) (s : List UInt8) (hs : s.length < 1000000000) (a h b : Int) (ha : In64 a) (hh : In64 h) (hb : In64 b) :
    ∃ w, CT G 27 ⟨[.f (.str s), .f (iI a), .f (iI h), .f (iI b)], []⟩ ⟨.f (.str w), [], []⟩ ∧ w.length ≤ 2 * s.length + 20 := by
  have hlenA : (scanA s).1.length ≤ s.length := by have := scanF_len s (s.length + 1) 0 (by omega); unfold scanA; omega
  have hbnd := scanF_bnd s (s.length + 1) 0 (by omega)
  change ∀ t ∈ (scanA s).1, _ at hbnd
  have hsc := fun G hP => @scan_ct G hP s hs
  generalize scanA s = R at *
  obtain ⟨R, e⟩ := R
  simp only at hlenA hbnd
  have h18 : In64 18 := by unfold In64; omega
  obtain ⟨m, hm, hm18⟩ : ∃ m : Nat, aroundF b 18 = m ∧ m < 18 := ⟨(aroundF b 18).toNat, by have := aroundF_nonneg b 18; omega, by have := aroundF_lt b (most := 18) (by omega); omega⟩
  have hab := fun G hP => @around_ct G hP b 18 hb h18
  rw [hm] at hab
  obtain ⟨wd, hwd, hwl⟩ := word_get m hm18
  have hwd' : (word18.map fun s => [FV.str s])[m]? = some [.str wd] := by rw [List.getElem?_map, hwd]; rfl
  generalize hX : (word18.map fun s => [FV.str s]) = X at hwd'
  simp only [word18, List.map_cons, List.map_nil] at hX
  have hm18' : (m : Int) < 18 := by omega
  have go : ∀ w, (CT G 27 ⟨[.f (.str s), .f (iI a), .f (iI h), .f (iI b)], []⟩ ⟨.f (.str w), [], []⟩ ∧ w.length ≤ 2 * s.length + 20) → ∃ w, CT G 27 ⟨[.f (.str s), .f (iI a), .f (iI h), .f (iI b)], []⟩ ⟨.f (.str w), [], []⟩ ∧ w.length ≤ 2 * s.length + 20 := fun w h => ⟨w, h⟩
  by_cases h0 : R = []
  · subst h0
    refine ⟨s ++ wd, ct_of_body (N := []) (pc := f27pc) (rs := f27rs) (by rw [hP]; exact f27ok) ?_, by simp; omega⟩
    rw [entry_mk]
    simp [f27pc, f27r0, f27r1]
    refine pCall_pure (hsc G hP) rfl rfl rfl ?_
    simp [f27r2, iI]
    refine pCall_pure (hab G hP) rfl rfl rfl ?_
    have hsum : s.length + wd.length ≤ i64max := by simp [i64max]; omega
    rw [iI]
    simp only [hX]
    simp [hm18, hm18', hwd', f27r3, f27r4, retQ, outSt, f27rs, rvals, RArg.val, resPV, binF, binI, binS, hsum]
  have hpos : 1 ≤ R.length := by cases R with | nil => exact absurd rfl h0 | cons _ _ => simp
  have hRn : ¬ (R.length : Int) = 0 := by omega
  have hRl : In64 (R.length : Int) := by unfold In64; omega
  obtain ⟨j, hj, hjl⟩ : ∃ j : Nat, aroundF a R.length = j ∧ j < R.length := ⟨(aroundF a R.length).toNat, by have := aroundF_nonneg a R.length; omega, by have := aroundF_lt a (most := (R.length : Int)) (by omega); have := aroundF_nonneg a R.length; omega⟩
  have hac := fun G hP => @around_ct G hP a R.length ha hRl
  rw [hj] at hac
  have h6 : In64 6 := by unfold In64; omega
  obtain ⟨c, hc, hc6⟩ : ∃ c : Nat, aroundF h 6 = c ∧ c < 6 := ⟨(aroundF h 6).toNat, by have := aroundF_nonneg h 6; omega, by have := aroundF_lt h (most := 6) (by omega); omega⟩
  have hcc := fun G hP => @around_ct G hP h 6 hh h6
  rw [hc] at hcc
  have hnth : nth (R.map encT) (j : Int) = some (encT R[j]) := by simp [nth, hjl]
  have htb := hbnd R[j] (List.getElem_mem hjl)
  generalize R[j] = t at *
  obtain ⟨u, v⟩ := t
  simp only at htb
  have b1 : bnds s.length none (some (u : Int)) = some (0, u) := by simp [bnds]; omega
  have b2 : bnds s.length (some (v : Int)) none = some (v, s.length) := by simp [bnds]; omega
  have b3 : bnds s.length none (some (v : Int)) = some (0, v) := by simp [bnds]; omega
  have b4 : bnds s.length (some (u : Int)) none = some (u, s.length) := by simp [bnds]; omega
  have l1 : (s.take u).length ≤ s.length := by rw [List.length_take]; omega
  have l2 : ((s.drop v).take (s.length - v)).length ≤ s.length := by simp
  have l3 : (s.take v).length ≤ s.length := by rw [List.length_take]; omega
  have l4 : ((s.drop u).take (s.length - u)).length ≤ s.length := by simp
  generalize e1 : s.take u = A1 at *
  generalize e2 : (s.drop v).take (s.length - v) = A2 at *
  generalize e3 : s.take v = A3 at *
  generalize e4 : (s.drop u).take (s.length - u) = A4 at *
  have s1 : A1.length + A2.length ≤ i64max := by simp [i64max]; omega
  have s2 : A3.length + 1 ≤ i64max := by simp [i64max]; omega
  have s3 : A3.length + (A4.length + 1) ≤ i64max := by simp [i64max]; omega
  have s3' : A3.length + (1 + A4.length) ≤ i64max := by omega
  have s3'' : A3.length + 1 + A4.length ≤ i64max := by omega
  have s4 : A1.length + wd.length ≤ i64max := by simp [i64max]; omega
  have s5 : A1.length + (wd.length + A2.length) ≤ i64max := by simp [i64max]; omega
  have s5' : A1.length + wd.length + A2.length ≤ i64max := by omega
  have s7a : A1.length + wd.length + 1 + A4.length ≤ i64max := by simp [i64max]; omega
  have s7b : A1.length + (wd.length + 1 + A4.length) ≤ i64max := by omega
  have s6 : A1.length + (wd.length + 1) ≤ i64max := by simp [i64max]; omega
  have s6' : A1.length + wd.length + 1 ≤ i64max := by omega
  have s7 : A1.length + (wd.length + (A4.length + 1)) ≤ i64max := by simp [i64max]; omega
  have s7' : A1.length + (wd.length + (1 + A4.length)) ≤ i64max := by omega
  have s7'' : A1.length + (wd.length + 1) + A4.length ≤ i64max := by omega
  match c, hc6 with
  | 0, _ =>
    refine ⟨A1 ++ A2, ct_of_body (N := []) (pc := f27pc) (rs := f27rs) (by rw [hP]; exact f27ok) ?_, by simp; omega⟩
    rw [entry_mk]
    simp [f27pc, f27r0, f27r1]
    refine pCall_pure (hsc G hP) rfl rfl rfl ?_
    simp [f27r2, iI]
    refine pCall_pure (hab G hP) rfl rfl rfl ?_
    rw [iI]
    simp only [hX]
    simp [hm18, hm18', hwd', f27r3, f27r5, binF, binI, binS, hRn, h0]
    refine pCall_pure (hac G hP) rfl rfl rfl ?_
    simp [iI, hnth, encT, getN, f27r6]
    refine pCall_pure (hcc G hP) rfl rfl rfl ?_
    simp [iI, binF, binI, f27r7, f27r8, retQ, outSt, f27rs, rvals, RArg.val, resPV, b1, b2, b3, b4, e1, e2, e3, e4, s1, s2, s3, s3', s3'', s4, s5, s5', s7a, s7b, s6, s6', s7, s7', s7'', binS]
  | 1, _ =>
    refine ⟨A3 ++ ([32] ++ A4), ct_of_body (N := []) (pc := f27pc) (rs := f27rs) (by rw [hP]; exact f27ok) ?_, by simp; omega⟩
    rw [entry_mk]
    simp [f27pc, f27r0, f27r1]
    refine pCall_pure (hsc G hP) rfl rfl rfl ?_
    simp [f27r2, iI]
    refine pCall_pure (hab G hP) rfl rfl rfl ?_
    rw [iI]
    simp only [hX]
    simp [hm18, hm18', hwd', f27r3, f27r5, binF, binI, binS, hRn, h0]
    refine pCall_pure (hac G hP) rfl rfl rfl ?_
    simp [iI, hnth, encT, getN, f27r6]
    refine pCall_pure (hcc G hP) rfl rfl rfl ?_
    simp [iI, binF, binI, f27r7, f27r9, f27r10, retQ, outSt, f27rs, rvals, RArg.val, resPV, b1, b2, b3, b4, e1, e2, e3, e4, s1, s2, s3, s3', s3'', s4, s5, s5', s7a, s7b, s6, s6', s7, s7', s7'', binS]
  | 2, _ =>
    refine ⟨A1 ++ (wd ++ A2), ct_of_body (N := []) (pc := f27pc) (rs := f27rs) (by rw [hP]; exact f27ok) ?_, by simp; omega⟩
    rw [entry_mk]
    simp [f27pc, f27r0, f27r1]
    refine pCall_pure (hsc G hP) rfl rfl rfl ?_
    simp [f27r2, iI]
    refine pCall_pure (hab G hP) rfl rfl rfl ?_
    rw [iI]
    simp only [hX]
    simp [hm18, hm18', hwd', f27r3, f27r5, binF, binI, binS, hRn, h0]
    refine pCall_pure (hac G hP) rfl rfl rfl ?_
    simp [iI, hnth, encT, getN, f27r6]
    refine pCall_pure (hcc G hP) rfl rfl rfl ?_
    simp [iI, binF, binI, f27r7, f27r9, f27r11, f27r12, retQ, outSt, f27rs, rvals, RArg.val, resPV, b1, b2, b3, b4, e1, e2, e3, e4, s1, s2, s3, s3', s3'', s4, s5, s5', s7a, s7b, s6, s6', s7, s7', s7'', binS]
  | 3, _ =>
    refine ⟨A1, ct_of_body (N := []) (pc := f27pc) (rs := f27rs) (by rw [hP]; exact f27ok) ?_, by omega⟩
    rw [entry_mk]
    simp [f27pc, f27r0, f27r1]
    refine pCall_pure (hsc G hP) rfl rfl rfl ?_
    simp [f27r2, iI]
    refine pCall_pure (hab G hP) rfl rfl rfl ?_
    rw [iI]
    simp only [hX]
    simp [hm18, hm18', hwd', f27r3, f27r5, binF, binI, binS, hRn, h0]
    refine pCall_pure (hac G hP) rfl rfl rfl ?_
    simp [iI, hnth, encT, getN, f27r6]
    refine pCall_pure (hcc G hP) rfl rfl rfl ?_
    simp [iI, binF, binI, f27r7, f27r9, f27r11, f27r13, f27r14, retQ, outSt, f27rs, rvals, RArg.val, resPV, b1, b2, b3, b4, e1, e2, e3, e4, s1, s2, s3, s3', s3'', s4, s5, s5', s7a, s7b, s6, s6', s7, s7', s7'', binS]
  | 4, _ =>
    refine ⟨A1 ++ (wd ++ ([32] ++ A4)), ct_of_body (N := []) (pc := f27pc) (rs := f27rs) (by rw [hP]; exact f27ok) ?_, by simp; omega⟩
    rw [entry_mk]
    simp [f27pc, f27r0, f27r1]
    refine pCall_pure (hsc G hP) rfl rfl rfl ?_
    simp [f27r2, iI]
    refine pCall_pure (hab G hP) rfl rfl rfl ?_
    rw [iI]
    simp only [hX]
    simp [hm18, hm18', hwd', f27r3, f27r5, binF, binI, binS, hRn, h0]
    refine pCall_pure (hac G hP) rfl rfl rfl ?_
    simp [iI, hnth, encT, getN, f27r6]
    refine pCall_pure (hcc G hP) rfl rfl rfl ?_
    simp [iI, binF, binI, f27r7, f27r9, f27r11, f27r13, f27r15, f27r16, retQ, outSt, f27rs, rvals, RArg.val, resPV, b1, b2, b3, b4, e1, e2, e3, e4, s1, s2, s3, s3', s3'', s4, s5, s5', s7a, s7b, s6, s6', s7, s7', s7'', binS]
  | 5, _ =>
    have hsl : In64 (s.length : Int) := by unfold In64; omega
    have hne : 1 ≤ s.length := by omega
    obtain ⟨y, hy, hyl⟩ : ∃ y : Nat, aroundF a s.length = y ∧ y < s.length := ⟨(aroundF a s.length).toNat, by have := aroundF_nonneg a s.length; omega, by have := aroundF_lt a (most := (s.length : Int)) (by omega); have := aroundF_nonneg a s.length; omega⟩
    have hyc := fun G hP => @around_ct G hP a s.length ha hsl
    rw [hy] at hyc
    have hyl' : (y : Int) < s.length := by omega
    have h64 : s.length ≤ i64max := by simp [i64max]; omega
    have hBl := ofBytes_len s
    have hWl : (s.set y (IntKind.u8.wrap b).toNat.toUInt8).length = s.length := by simp
    have hBs := bytesOf_set (IntKind.u8.wrap b) s y
    have hBy : (ofBytes s)[y]? = some [.int .u8 (s[y].toNat : Int)] := by simp [ofBytes, hyl]
    have hBg : ∀ h' : y < (ofBytes s).length, (ofBytes s)[y]'h' = [.int .u8 (s[y].toNat : Int)] := fun h' => by simp [ofBytes]
    have htake : ∀ x, List.take s.length ((ofBytes s).set y x) = (ofBytes s).set y x := fun x => List.take_of_length_le (by simp [hBl])
    generalize s.set y (IntKind.u8.wrap b).toNat.toUInt8 = Wd at *
    refine ⟨Wd, ct_of_body (N := []) (pc := f27pc) (rs := f27rs) (by rw [hP]; exact f27ok) ?_, by omega⟩
    rw [entry_mk]
    simp [f27pc, f27r0, f27r1]
    refine pCall_pure (hsc G hP) rfl rfl rfl ?_
    simp [f27r2, iI]
    refine pCall_pure (hab G hP) rfl rfl rfl ?_
    rw [iI]
    simp only [hX]
    simp [hm18, hm18', hwd', f27r3, f27r5, binF, binI, binS, hRn, h0]
    refine pCall_pure (hac G hP) rfl rfl rfl ?_
    simp [iI, hnth, encT, getN, f27r6]
    refine pCall_pure (hcc G hP) rfl rfl rfl ?_
    simp [iI, binF, binI, f27r7, f27r9, f27r11, f27r13, f27r15, f27r17, f27r18, h64]
    refine pCall_pure (hyc G hP) rfl rfl rfl ?_
    simp [iI, hyl, hyl', hBl, hBy, hBg, retQ, outSt, f27rs, rvals, RArg.val, resPV, f27r19, hBs, htake]
end Go.Absw

/- strings.Builder: contracts of copyCheck and String, proved in the model. Conditions: told at each. -/
namespace Go.Absw
open Go Go.Proofs Go.RowKit
set_option maxRecDepth 100000

/-- A contract out of a call in the model, from the relation at the entry to one at the end. -/
theorem ct_of_core {G : Env} {f : FuncId} {i : Inp} {o : Out} (hok : okF G.P f = true)
    (h : ∀ (w : World) (C : Cells) (τ : Tau) (vs : Array Value), vs.size = i.args.length → Core G C τ (entry i) vs w →
      Calls G.P f vs w fun e w' => ∃ v σ' C' τ' tm, e = .returned v ∧ (∀ t, σ'.tk t = otk o t) ∧ Core G C' τ' σ' tm w' ∧ Nxt τ (entry i) C w τ' σ' C' w' ∧ RP C' σ'.S τ' w' v o.res) : CT G f i o := by
  refine ⟨hok, fun w C τ vs hvs hargs htoks hdist hlt hglob => ?_⟩
  have hS0 : (entry i).S = fun _ => 0 := rfl
  have hcore : Core G C τ (entry i) vs w := by
    refine ⟨fun n => ?_, fun t => by rw [hS0]; exact htoks t, hdist, hlt, hglob⟩
    rw [hS0]
    simp only [entry]
    by_cases hn : n < i.args.length
    · have e1 : i.args.getD n .dead = i.args[n] := by simp [hn]
      have hnv : n < vs.size := by omega
      have e2 : vs.getD n undef = vs[n] := by simp [hnv]
      rw [e1, e2]
      exact hargs n _ _ (by simp [hnv]) (by simp [hn])
    · have e1 : i.args.getD n .dead = .dead := by simp [List.getElem?_eq_none (Nat.le_of_not_lt hn)]
      rw [e1]; exact .dead _
  refine (h w C τ vs hvs hcore).mono ?_
  rintro e w' ⟨v, σ', C', τ', tm, rfl, htk, hc', hn, hr⟩
  have hS : σ'.S = fun t => (otk o t).st := by funext t; simp only [St.S, htk]
  refine ⟨v, C', τ', rfl, by rw [← hS]; exact hr, fun t => by rw [← hS, ← htk]; exact hc'.toks t, fun t t' k k' => by rw [← htk, ← htk]; exact hc'.dist t t' k k', fun t _ h0 => hn.same t ?_, fun t hl k' hk' => hn.own t k' (by rw [htk]; exact hl) hk', hn.stp, hc'.lt⟩
  rw [hS0, hS]; exact h0

theorem Core.tmps {G : Env} {C : Cells} {τ : Tau} {σ : St} {tm tm' : Array Value} {w : World} (h : Core G C τ σ tm w) (h' : ∀ n, RP C σ.S τ w (tm'.getD n undef) (σ.sl n)) : Core G C τ σ tm' w :=
  ⟨h', h.toks, h.dist, h.lt, h.glob⟩

theorem noFr_frozen {w : World} {b o : Nat} {vs : Array Value} {e : TypeId} {fr : Nat × Nat} (hb : w.heap[b]? = some (.cells vs e fr)) (hf : NoFr vs.size fr) (ho : o < vs.size) : w.frozen? ⟨b, o, none⟩ = false := by
  obtain ⟨lo, hi'⟩ := fr
  simp only [World.frozen?, hb, Bool.and_eq_false_iff, decide_eq_false_iff_not]
  simp only [NoFr] at hf
  omega

set_option maxHeartbeats 1000000 in
theorem call72u (b : Nat) (w : World) (h0 : w.cell? ⟨b, 0, none⟩ = some (.pointer (some ⟨b, 0, none⟩))) :
    Calls Tryd.prog 72 #[.pointer (some ⟨b, 0, none⟩)] w fun e w' => e = .returned (.tuple #[]) ∧ w' = w := by
  obtain ⟨j, hj, _⟩ := Option.map_eq_some_iff.1 (show (Tryd.prog.info? 122).map (·.size) = some 2 by kernel_rfl)
  go_enter Tryd.func72, Tryd.ntmps72
  go_wp2
  rw [Lib.run_neq_ptr_same w _ Tryd.underlying120 hj]
  go_wp2
  go_end0
  exact ⟨rfl, rfl⟩

set_option maxHeartbeats 1000000 in
theorem call72f (b : Nat) (w : World) (h0 : w.cell? ⟨b, 0, none⟩ = some (.pointer none)) (hsh : w.shape? b = some (122, 2)) (hfz : w.frozen? ⟨b, 0, none⟩ = false) :
    Calls Tryd.prog 72 #[.pointer (some ⟨b, 0, none⟩)] w fun e w' => e = .returned (.tuple #[]) ∧ w' = w.setCell ⟨b, 0, none⟩ (.pointer (some ⟨b, 0, none⟩)) := by
  obtain ⟨j, hj, hjs⟩ := Option.map_eq_some_iff.1 (show (Tryd.prog.info? 122).map (·.size) = some 2 by kernel_rfl)
  go_enter Tryd.func72, Tryd.ntmps72
  go_wp2
  rw [Lib.run_to_unsafe w ⟨b, 0, none⟩ Tryd.underlying120 Tryd.underlying155 hj (by rw [hjs]; decide) hsh (Nat.zero_lt_succ 1)]
  simp only [Result.andThen]
  rw [Oper.upon_value]
  go_wp2
  rw [run_callFunc_extern Tryd.func79 (by kernel_rfl) (by kernel_rfl) (by kernel_rfl) (e := Extern.AbiNoEscape.same) (by kernel_rfl)]
  rw [Lib.run_noEscape]
  simp only [Result.andThen]
  rw [Oper.upon_value]
  go_wp2
  rw [Lib.run_from_unsafe w ⟨b, 0, none⟩ Tryd.underlying155 Tryd.underlying120 hj hsh (by kernel_rfl)]
  simp only [Result.andThen]
  rw [Oper.upon_value]
  go_wp2
  go_end0
  exact ⟨rfl, rfl⟩

theorem entry_arg0 {G : Env} {C : Cells} {τ : Tau} {i : Inp} {vs : Array Value} {w : World} (h : Core G C τ (entry i) vs w) (hvs : vs.size = i.args.length) {p : PV} (hp : i.args[0]? = some p) :
    ∃ v, vs[0]? = some v ∧ RP C (fun _ => 0) τ w v p := by
  have h0 := h.slots 0
  have hlt := (List.getElem?_eq_some_iff.1 hp).1
  refine ⟨vs[0]'(by omega), by simp, ?_⟩
  have hS0 : (entry i).S = fun _ => 0 := rfl
  rw [hS0] at h0
  simp only [entry] at h0
  simpa [hp, show 0 < vs.size by omega] using h0

theorem ct72 {G : Env} (hP : G.P = Tryd.prog) {a x : PV} (ha : a = .f .nilp ∨ a = .ptr 0 0 0 0) (r : TC) :
    CT G 72 ⟨[.ptr 0 0 0 0], [.box 122 false [a, x], r]⟩ ⟨.tup [], [⟨0, .box 122 false [.ptr 0 0 0 0, x]⟩, ⟨0, r⟩], []⟩ := by
  refine ct_of_core (by rw [hP]; kernel_rfl) fun w C τ vs hvs hc => ?_
  rw [hP]
  obtain ⟨v0, hv0, hr0⟩ := entry_arg0 hc hvs rfl
  obtain rfl : vs = #[v0] := by
    apply Array.ext_getElem?
    intro n
    match n with
    | 0 => simpa using hv0
    | n + 1 => simp at hvs ⊢; omega
  obtain ⟨k, bs, fr, b1, b2, b3, b4, b5, b6, b7, b8⟩ := hc.toks 0
  obtain rfl : v0 = .pointer (some ⟨k.b, 0, none⟩) := by
    cases hr0 with
    | ptr _ _ _ _ _ g1 g2 g3 =>
      obtain ⟨k', e1, e2⟩ := g3 rfl
      rw [b1] at e1; cases e1; simpa using e2
  have hsz : bs.size = 2 := by simpa using b4
  have hb0 : bs[0]? = some bs[0] := by simp
  have hr := b6 0 _ _ hb0 rfl
  have hcell : w.cell? ⟨k.b, 0, none⟩ = some bs[0] := by simp [World.cell?, b2]
  generalize bs[0] = z0 at hr hcell
  rcases ha with rfl | rfl
  · have hz : z0 = .pointer none := by
      cases hr with
      | f _ _ h => cases h; rfl
    rw [hz] at hcell
    refine (call72f k.b w hcell (by simp [World.shape?, b2, hsz]) (noFr_frozen b2 b3 (by omega))).mono ?_
    rintro e w' ⟨rfl, rfl⟩
    have hnC : ∀ o, ¬ C k.b o := fun o ho => by have := b7 o ho; cases this
    have hw : w.setCell ⟨k.b, 0, none⟩ (.pointer (some ⟨k.b, 0, none⟩)) = w.setRow k.b (bs.setIfInBounds 0 (.pointer (some ⟨k.b, 0, none⟩))) := setCell_eq_setRow w k.b 0 bs 122 fr _ b2
    have key := core_upd (a := ⟨#[.pointer (some ⟨k.b, 0, none⟩)], []⟩) (d := none) (p := .dead) (v := undef) hc (t := 0) rfl b1 b2 hw (fun o ho => absurd ho (hnC o)) (Nat.le_refl _) (c := .box 122 false [.ptr 0 0 0 0, x]) (fun w' hw' hb' => ?_) (fun _ _ hn => absurd rfl hn) (fun n hn => by cases hn)
    · refine ⟨_, _, C, τ, _, rfl, fun t => ?_, key.1, key.2, ?_⟩
      · match t with
        | 0 => rfl
        | 1 => rfl
        | t + 2 => simp [St.put, St.setT, entry, ctk, otk]
      · exact .tup _ _ rfl (fun n v x hv => by simp at hv)
    · refine ⟨k, _, fr, b1, hb', by simpa using b3, by simp [hsz], fun n v hv => ?_, fun n v y hv hy => ?_, fun o ho => absurd ho (hnC o), fun hz => by cases hz⟩
      · rw [Array.getElem?_setIfInBounds] at hv
        split at hv
        · split at hv
          · cases hv; rfl
          · cases hv
        · exact b5 n v hv
      · match n, hy with
        | 0, hy =>
          simp [hsz] at hv hy
          subst hv; subst hy
          exact .ptr _ _ _ _ _ rfl (Nat.zero_le _) (fun _ => ⟨k, b1, by simp⟩)
        | 1, hy =>
          simp only [List.getElem?_cons_succ, List.getElem?_cons_zero] at hy
          rw [Array.getElem?_setIfInBounds_ne (by omega)] at hv
          refine (b6 1 v y hv hy).mono (fun _ _ h => h) hw' (fun t => ?_) (fun _ _ => rfl)
          exact Nat.zero_le _
        | n + 2, hy => simp at hy
  · have hz : z0 = .pointer (some ⟨k.b, 0, none⟩) := by
      cases hr with
      | ptr _ _ _ _ _ g1 g2 g3 =>
        obtain ⟨k', e1, e2⟩ := g3 rfl
        rw [b1] at e1; cases e1; simpa using e2
    rw [hz] at hcell
    refine (call72u k.b w hcell).mono ?_
    rintro e w' ⟨rfl, rfl⟩
    refine ⟨_, entry _, C, τ, _, rfl, fun t => ?_, hc, Nxt.refl _ _ _ _, .tup _ _ rfl (fun n v x hv => by simp at hv)⟩
    match t with
    | 0 => rfl
    | 1 => rfl
    | t + 2 => simp [entry, ctk, otk]

/-- The two tokens of a builder that holds t: the variable and its row. -/
def bldB (a : PV) (n st : Nat) : TC := .box 122 false [a, .ts 1 0 n st]
def bldR (t : List UInt8) : TC := .row 5 1 0 0 (ofBytes t)
end Go.Absw

/- strings.Builder.String: the call in the model, and its contract. Conditions: told at each. -/
namespace Go.Absw
open Go Go.Proofs Go.RowKit
set_option maxRecDepth 100000

set_option maxHeartbeats 2000000 in
theorem call57n (b : Nat) (w : World) (hlt : b < w.heap.size) (c0 : w.cell? ⟨b, 1, none⟩ = some (.slice none 0 0)) :
    Calls Tryd.prog 57 #[.pointer (some ⟨b, 0, none⟩)] w fun e w' => e = .returned (.string ⟨#[]⟩) ∧ Below w.heap.size w w' := by
  have hUS : ∀ W q, (Builtin.unsafeString_ #[150, 3] 9 #[.pointer q, .int .i64 0]).run Tryd.prog W = .ok (.string .empty) W := fun W q => Lib.run_unsafeString_none W _ _ _ q
  have c1 : w.drew.cell? ⟨b, 1, none⟩ = some (.slice none 0 0) := c0
  have hSD : (Builtin.unsafeSliceData_ #[63] 150 #[.slice none 0 0]).run Tryd.prog w.drew = .ok (.pointer none) w.drew := rfl
  go_enter Tryd.func57, Tryd.ntmps57
  go_wp2
  go_region
  all_goals (go_wp2; go_ret; exact ⟨rfl, Below.drew (Below.refl _ w)⟩)

set_option maxHeartbeats 2000000 in
theorem call57z (b g o : Nat) (w : World) (hlt : b < w.heap.size) (cells : Nat) (hsh : w.shape? g = some (5, cells)) (c0 : w.cell? ⟨b, 1, none⟩ = some (.slice (some ⟨g, o, none⟩) 0 0)) :
    Calls Tryd.prog 57 #[.pointer (some ⟨b, 0, none⟩)] w fun e w' => e = .returned (.string ⟨#[]⟩) ∧ Below w.heap.size w w' := by
  have hUS : ∀ W q, (Builtin.unsafeString_ #[150, 3] 9 #[.pointer q, .int .i64 0]).run Tryd.prog W = .ok (.string .empty) W := fun W q => Lib.run_unsafeString_none W _ _ _ q
  have c1 : w.drew.cell? ⟨b, 1, none⟩ = some (.slice (some ⟨g, o, none⟩) 0 0) := c0
  have hSD : (Builtin.unsafeSliceData_ #[63] 150 #[.slice (some ⟨g, o, none⟩) 0 0]).run Tryd.prog w.drew = .ok (.pointer (some ⟨w.drew.heap.size, 0, none⟩)) (w.drew.alloc (.view ⟨g, o, none⟩ 5)) :=
    Lib.run_unsafeSliceData_zero w.drew _ _ 5 Tryd.underlying150 ⟨g, o, none⟩ 0 (5, cells) hsh
  have c2 : (w.drew.alloc (.view ⟨g, o, none⟩ 5)).cell? ⟨b, 1, none⟩ = some (.slice (some ⟨g, o, none⟩) 0 0) := by
    rw [← c1]
    have := Lib.alloc_old w.drew (.view ⟨g, o, none⟩ 5) b hlt
    simp only [World.cell?, this]
  have c3 : (w.alloc (.view ⟨g, o, none⟩ 5)).drew.cell? ⟨b, 1, none⟩ = some (.slice (some ⟨g, o, none⟩) 0 0) := c2
  go_enter Tryd.func57, Tryd.ntmps57
  go_wp2
  go_region
  all_goals (go_wp2; go_ret; exact ⟨rfl, (Below.drew (Below.refl _ w)).alloc (Nat.le_refl _) _⟩)

set_option maxHeartbeats 2000000 in
theorem call57e (b g cap : Nat) (w : World) (hc0 : cap ≠ 0) (c0 : w.cell? ⟨b, 1, none⟩ = some (.slice (some ⟨g, 0, none⟩) 0 cap)) :
    Calls Tryd.prog 57 #[.pointer (some ⟨b, 0, none⟩)] w fun e w' => e = .returned (.string ⟨#[]⟩) ∧ Below w.heap.size w w' := by
  have hUS : ∀ W q, (Builtin.unsafeString_ #[150, 3] 9 #[.pointer q, .int .i64 0]).run Tryd.prog W = .ok (.string .empty) W := fun W q => Lib.run_unsafeString_none W _ _ _ q
  have c1 : w.drew.cell? ⟨b, 1, none⟩ = some (.slice (some ⟨g, 0, none⟩) 0 cap) := c0
  have hSD : (Builtin.unsafeSliceData_ #[63] 150 #[.slice (some ⟨g, 0, none⟩) 0 cap]).run Tryd.prog w.drew = .ok (.pointer (some ⟨g, 0, none⟩)) w.drew :=
    Lib.run_unsafeSliceData_row _ _ _ _ _ _ hc0
  clear hc0
  go_enter Tryd.func57, Tryd.ntmps57
  go_wp2
  go_region
  all_goals (go_wp2; go_ret; exact ⟨rfl, Below.drew (Below.refl _ w)⟩)

set_option maxHeartbeats 2000000 in
theorem call57r (b g cap cells : Nat) (l : List UInt8) (h0 : l ≠ []) (w : World) (hnc : l.length ≤ cap) (hm : cap ≤ maxLen) (hcl : l.length ≤ cells) (hsh : w.shape? g = some (5, cells)) (c0 : w.cell? ⟨b, 1, none⟩ = some (.slice (some ⟨g, 0, none⟩) l.length cap))
    (hcell : ∀ j x, l[j]? = some x → w.cell? ((⟨g, 0, none⟩ : Addr).add j) = some (.int .u8 x.toNat)) :
    Calls Tryd.prog 57 #[.pointer (some ⟨b, 0, none⟩)] w fun e w' => e = .returned (.string ⟨l.toArray⟩) ∧ w' = w.drew.freeze ⟨g, 0, none⟩ l.length := by
  have hl0 : l.length ≠ 0 := by simpa using h0
  have c1 : w.drew.cell? ⟨b, 1, none⟩ = some (.slice (some ⟨g, 0, none⟩) l.length cap) := c0
  have hSD : (Builtin.unsafeSliceData_ #[63] 150 #[.slice (some ⟨g, 0, none⟩) l.length cap]).run Tryd.prog w.drew = .ok (.pointer (some ⟨g, 0, none⟩)) w.drew :=
    Lib.run_unsafeSliceData_row _ _ _ _ _ _ (by omega)
  have hUS : (Builtin.unsafeString_ #[150, 3] 9 #[.pointer (some ⟨g, 0, none⟩), .int .i64 l.length]).run Tryd.prog w.drew = .ok (.string ⟨l.toArray⟩) (w.drew.freeze ⟨g, 0, none⟩ l.length) :=
    Lib.run_unsafeString_row w.drew 150 3 9 5 Tryd.underlying150 (by kernel_rfl) g cells hsh l h0 hcl (by unfold maxLen at hm; omega) hcell
  go_enter Tryd.func57, Tryd.ntmps57
  go_wp2
  go_region
  all_goals (go_wp2; go_ret; exact ⟨rfl, rfl⟩)

theorem gone_core {G : Env} {C : Cells} {τ : Tau} {i : Inp} {vs : Array Value} {w w' : World} (hc : Core G C τ (entry i) vs w) (hs : Stp (blks τ (entry i).tk) C w C w') :
    Core G C τ ⟨fun _ => .dead, fun _ => ⟨0, .gone⟩⟩ #[] w' ∧ Nxt τ (entry i) C w τ ⟨fun _ => .dead, fun _ => ⟨0, .gone⟩⟩ C w' := by
  refine ⟨⟨fun _ => .dead _, fun _ => trivial, fun t t' k k' hl => (by cases hl), fun b o h => Nat.lt_of_lt_of_le (hc.lt b o h) hs.size, hc.glob.mono (fun _ _ h => h) hs.cell⟩,
    hs, fun t k' hl => (by cases hl), fun t => ?_, fun t _ => rfl⟩
  show (ctk i.toks t).st ≤ 0
  exact Nat.le_refl _

theorem below_stp {C : Cells} {w w' : World} (hb : Below w.heap.size w w') (hlt : ∀ b o, C b o → b < w.heap.size) (W : Nat → Prop) : Stp W C w C w' :=
  ⟨hb.os, hb.tape, hb.output, hb.size, fun b hbk _ => hb.block b hbk, fun _ _ h => h, fun _ _ h => .inl h, fun b o hc => World.cell?_of_block (w := w) (hb.block b (hlt b o hc))⟩

theorem freeze_stp {C : Cells} {w : World} {g n : Nat} {W : Nat → Prop} (hg : W g) : Stp W C w C (w.drew.freeze ⟨g, 0, none⟩ n) := by
  by_cases hn : n = 0
  · subst hn
    exact ⟨rfl, rfl, rfl, Nat.le_refl _, fun _ _ _ => rfl, fun _ _ h => h, fun _ _ h => .inl h, fun _ _ _ => rfl⟩
  have e : w.drew.freeze ⟨g, 0, none⟩ n = { w.drew with heap := w.heap.modify g fun
      | .cells c elem (lo, hi) => .cells c elem (if lo == hi then (0, 0 + n) else (min lo 0, max hi (0 + n)))
      | o => o } := by unfold World.freeze; rw [if_neg hn]; rfl
  rw [e]
  refine ⟨rfl, rfl, rfl, by simp, fun b hb hn' => ?_, fun _ _ h => h, fun _ _ h => .inl h, fun b o _ => ?_⟩
  · simp only [Array.getElem?_modify]
    rw [if_neg (fun e => hn' (by rw [← e]; exact hg))]
  · simp only [World.cell?, Array.getElem?_modify]
    by_cases e : g = b
    · subst e
      rw [if_pos rfl]
      cases w.heap[g]? with
      | none => rfl
      | some ob => cases ob <;> rfl
    · rw [if_neg e]

theorem ct57 {G : Env} (hP : G.P = Tryd.prog) {a : PV} {s : List UInt8} :
    CT G 57 ⟨[.ptr 0 0 0 0], [bldB a s.length 0, bldR s]⟩ ⟨.f (.str s), [⟨0, .gone⟩, ⟨0, .gone⟩], []⟩ := by
  refine ct_of_core (by rw [hP]; kernel_rfl) fun w C τ vs hvs hc => ?_
  rw [hP]
  obtain ⟨v0, hv0, hr0⟩ := entry_arg0 hc hvs rfl
  obtain rfl : vs = #[v0] := by
    apply Array.ext_getElem?
    intro n
    match n with
    | 0 => simpa using hv0
    | n + 1 => simp at hvs ⊢; omega
  obtain ⟨k, bs, fr, b1, b2, b3, b4, b5, b6, b7, b8⟩ := hc.toks 0
  obtain rfl : v0 = .pointer (some ⟨k.b, 0, none⟩) := by
    cases hr0 with
    | ptr _ _ _ _ _ g1 g2 g3 =>
      obtain ⟨k', e1, e2⟩ := g3 rfl
      rw [b1] at e1; cases e1; simpa using e2
  have hsz : bs.size = 2 := by simpa using b4
  have hb1 : bs[1]? = some bs[1] := by simp [hsz]
  have hr := b6 1 _ _ hb1 rfl
  have hcell : w.cell? ⟨k.b, 1, none⟩ = some bs[1] := by simp [World.cell?, b2]
  generalize bs[1] = z1 at hr hcell
  have hblt : k.b < w.heap.size := (Array.getElem?_eq_some_iff.1 b2).1
  have fin : ∀ w', Stp (blks τ (entry ⟨[.ptr 0 0 0 0], [bldB a s.length 0, bldR s]⟩).tk) C w C w' → ∃ v σ' C' τ' tm, (.returned (.string ⟨s.toArray⟩) : Ending) = .returned v ∧ (∀ t, σ'.tk t = otk ⟨.f (.str s), [⟨0, .gone⟩, ⟨0, .gone⟩], []⟩ t) ∧ Core G C' τ' σ' tm w' ∧
      Nxt τ (entry ⟨[.ptr 0 0 0 0], [bldB a s.length 0, bldR s]⟩) C w τ' σ' C' w' ∧ RP C' σ'.S τ' w' v (.f (.str s)) := by
    intro w' hs
    obtain ⟨h1, h2⟩ := gone_core hc hs
    refine ⟨_, _, C, τ, _, rfl, fun t => ?_, h1, h2, .f _ _ (.str s)⟩
    match t with
    | 0 => rfl
    | 1 => rfl
    | t + 2 => simp [otk]
  have hlen : (ofBytes s).length = s.length := by simp [ofBytes]
  cases hr with
  | ts _ _ _ _ _ g1 g2 g3 =>
    rcases g3 rfl with ⟨q1, q2, _, q4⟩ | ⟨kr, o, q1, q2, q3, q5⟩
    · obtain rfl : s = [] := List.length_eq_zero_iff.1 q4
      rw [q2] at hcell
      refine (call57n k.b w hblt hcell).mono ?_
      rintro e w' ⟨rfl, hb⟩
      exact fin w' (below_stp hb hc.lt _)
    · rcases hc.toks 1 with ⟨p1, _⟩ | ⟨kr', rs, fr', p1, p2, p3, p4, p5, p6, p7, p8, p9, p10, p11, p12, p13⟩
      · rw [q1] at p1; cases p1
      rw [q1] at p1; cases p1
      rw [q2] at hcell
      simp only [Nat.zero_add, Nat.sub_zero, Nat.zero_mul] at hcell q3 q5
      by_cases h0 : s = []
      · subst h0
        by_cases hcap : kr.cap = 0
        · rw [hcap] at hcell
          refine (call57z k.b kr.b o w hblt rs.size (by simp [World.shape?, p3]) hcell).mono ?_
          rintro e w' ⟨rfl, hb⟩
          exact fin w' (below_stp hb hc.lt _)
        · obtain rfl := q5 (by omega)
          refine (call57e k.b kr.b kr.cap w hcap hcell).mono ?_
          rintro e w' ⟨rfl, hb⟩
          exact fin w' (below_stp hb hc.lt _)
      · have hpos : 0 < s.length := List.length_pos_iff.2 h0
        obtain rfl := q5 (by omega)
        refine (call57r k.b kr.b kr.cap rs.size s h0 w q3 p7 (by omega) (by simp [World.shape?, p3]) hcell (fun j x hx => ?_)).mono ?_
        · have hj := (List.getElem?_eq_some_iff.1 hx).1
          obtain ⟨v, hv, hrf⟩ := p10 j 0 [.int .u8 x.toNat] (.int .u8 x.toNat) (by simp [ofBytes, hx]) rfl
          cases hrf
          have e1 : (⟨kr.b, 0, none⟩ : Addr).add j = ⟨kr.b, j, none⟩ := by
            unfold Addr.add
            split
            · rename_i h; subst h; rfl
            · simp
          rw [e1]
          simpa [World.cell?, p3] using hv
        · rintro e w' ⟨rfl, rfl⟩
          exact fin _ (freeze_stp ⟨1, rfl, kr, q1, rfl⟩)
end Go.Absw

/- strings.Builder: contracts of WriteString and WriteByte. Conditions: told at each. -/
namespace Go.Absw
open Go Go.Proofs
set_option maxRecDepth 100000

theorem bstr_ct {G : Env} (hP : G.P = Tryd.prog) {a : PV} (ha : a = .f .nilp ∨ a = .ptr 0 0 0 0) {t s : List UInt8} (hl : t.length + s.length ≤ 140737488355328) :
    CT G 54 ⟨[.ptr 0 0 0 0, .f (.str s)], [bldB a t.length 0, bldR t]⟩ ⟨.tup [.f (.int .i64 s.length), .f .nili], [⟨0, bldB (.ptr 0 0 0 0) (t.length + s.length) 1⟩, ⟨1, bldR (t ++ s)⟩], []⟩ := by
  refine ct_of_body (N := []) (pc := f54pc) (rs := f54rs) (by rw [hP]; exact f54ok) ?_
  rw [entry_mk]
  have h1 : t.length + s.length ≤ i64max := by simp [i64max]; omega
  have h2 : (ofBytes t).length = t.length := by simp [ofBytes]
  have h3 : (ofBytes s).length = s.length := by simp [ofBytes]
  have h4 : List.take t.length (ofBytes t) = ofBytes t := List.take_of_length_le (by omega)
  have h5 : ofBytes t ++ ofBytes s = ofBytes (t ++ s) := by simp [ofBytes]
  simp [f54pc, f54r0, f54r1, bldB, bldR]
  refine pCall_tok (ct72 hP ha (x := .ts 1 0 t.length 0) (bldR t)) rfl ?_ ⟨rfl, rfl⟩ ?_
  · rcases ha with rfl | rfl <;> rfl
  simp [newT, pos, mUp, up, upC, upL, f54r2, f54r3, bldR, splice]
  simp [retQ, outSt, f54rs, rvals, RArg.val, resPV, h1, h2, h3, h4, h5, hl, splice, List.range, List.range.loop, ptrFoot, oM]

theorem bbyte_ct {G : Env} (hP : G.P = Tryd.prog) {a : PV} (ha : a = .f .nilp ∨ a = .ptr 0 0 0 0) {t : List UInt8} {b : UInt8} (hl : t.length + 1 ≤ 140737488355328) :
    CT G 56 ⟨[.ptr 0 0 0 0, .f (.int .u8 b.toNat)], [bldB a t.length 0, bldR t]⟩ ⟨.f .nili, [⟨0, bldB (.ptr 0 0 0 0) (t.length + 1) 1⟩, ⟨1, bldR (t ++ [b])⟩], []⟩ := by
  refine ct_of_body (N := []) (pc := f56pc) (rs := f56rs) (by rw [hP]; exact f56ok) ?_
  rw [entry_mk]
  have h1 : t.length + 1 ≤ i64max := by simp [i64max]; omega
  have h2 : (ofBytes t).length = t.length := by simp [ofBytes]
  have h6 : t.length ≤ 140737488355327 := by omega
  have h4 : List.take t.length (ofBytes t) = ofBytes t := List.take_of_length_le (by omega)
  have h5 : ofBytes t ++ [[FV.int .u8 (b.toNat : Int)]] = ofBytes (t ++ [b]) := by simp [ofBytes]
  simp [f56pc, f56r0, f56r1, bldB, bldR]
  refine pCall_tok (ct72 hP ha (x := .ts 1 0 t.length 0) (bldR t)) rfl ?_ ⟨rfl, rfl⟩ ?_
  · rcases ha with rfl | rfl <;> rfl
  simp [newT, pos, mUp, up, upC, upL, f56r2, f56r3, bldR, splice, getN, chunk]
  simp [retQ, outSt, f56rs, rvals, RArg.val, resPV, h1, h2, h4, h5, h6, hl, splice, List.range, List.range.loop, ptrFoot, oM]

/-- A call of WriteString, of WriteByte: the builder's tokens are T and R. -/
theorem pBstr {G : Env} (hP : G.P = Tryd.prog) {a : List (Nat × PV)} {b : List (Nat × Tok)} {K : St → Prop} {d T R s r n : Nat} {p : PV} {t x : List UInt8} (hT : lkK b T = ⟨s, .box 122 false [p, .ts R 0 n r]⟩) (hR : lkK b R = ⟨r, .row 5 1 0 0 (ofBytes t)⟩)
    (hne : T ≠ R) (hn : n = t.length) (hp : p = .f .nilp ∨ p = .ptr T 0 0 s) (hl : t.length + x.length ≤ 140737488355328)
    (hK : K (mkSt ((d, .tup [.f (.int .i64 x.length), .f .nili]) :: a) ((T, ⟨s, .box 122 false [.ptr T 0 0 s, .ts R 0 (n + x.length) (r + 1)]⟩) :: (R, ⟨r + 1, .row 5 1 0 0 (ofBytes (t ++ x))⟩) :: b))) :
    pCall G .f [T, R] [] (some d) [.f (.fn (.func 54)), .ptr T 0 0 s, .f (.str x)] (mkSt a b) K := by
  subst hn
  have hne' : ¬ R = T := fun h => hne h.symm
  rcases hp with rfl | rfl
  · refine pCall_tok (bstr_ct hP (a := .f .nilp) (t := t) (s := x) (.inl rfl) hl) rfl ?_ ⟨rfl, rfl⟩ ?_
    · simp [callInp, mDn, pos, hT, hR, hne, hne', bldB, bldR]
    · simpa [newT, pos, mUp, up, upC, upL, hT, hR, hne, hne', bldB, bldR, Nat.add_comm] using hK
  · refine pCall_tok (bstr_ct hP (a := .ptr 0 0 0 0) (t := t) (s := x) (.inr rfl) hl) rfl ?_ ⟨rfl, rfl⟩ ?_
    · simp [callInp, mDn, pos, hT, hR, hne, hne', bldB, bldR]
    · simpa [newT, pos, mUp, up, upC, upL, hT, hR, hne, hne', bldB, bldR, Nat.add_comm] using hK
theorem pBbyte {G : Env} (hP : G.P = Tryd.prog) {a : List (Nat × PV)} {b : List (Nat × Tok)} {K : St → Prop} {d T R s r n : Nat} {p : PV} {t : List UInt8} {x : UInt8} (hT : lkK b T = ⟨s, .box 122 false [p, .ts R 0 n r]⟩) (hR : lkK b R = ⟨r, .row 5 1 0 0 (ofBytes t)⟩)
    (hne : T ≠ R) (hn : n = t.length) (hp : p = .f .nilp ∨ p = .ptr T 0 0 s) (hl : t.length + 1 ≤ 140737488355328)
    (hK : K (mkSt ((d, .f .nili) :: a) ((T, ⟨s, .box 122 false [.ptr T 0 0 s, .ts R 0 (n + 1) (r + 1)]⟩) :: (R, ⟨r + 1, .row 5 1 0 0 (ofBytes (t ++ [x]))⟩) :: b))) :
    pCall G .f [T, R] [] (some d) [.f (.fn (.func 56)), .ptr T 0 0 s, .f (.int .u8 x.toNat)] (mkSt a b) K := by
  subst hn
  have hne' : ¬ R = T := fun h => hne h.symm
  rcases hp with rfl | rfl
  · refine pCall_tok (bbyte_ct hP (a := .f .nilp) (t := t) (b := x) (.inl rfl) hl) rfl ?_ ⟨rfl, rfl⟩ ?_
    · simp [callInp, mDn, pos, hT, hR, hne, hne', bldB, bldR]
    · simpa [newT, pos, mUp, up, upC, upL, hT, hR, hne, hne', bldB, bldR, Nat.add_comm] using hK
  · refine pCall_tok (bbyte_ct hP (a := .ptr 0 0 0 0) (t := t) (b := x) (.inr rfl) hl) rfl ?_ ⟨rfl, rfl⟩ ?_
    · simp [callInp, mDn, pos, hT, hR, hne, hne', bldB, bldR]
    · simpa [newT, pos, mUp, up, upC, upL, hT, hR, hne, hne', bldB, bldR, Nat.add_comm] using hK
end Go.Absw

/- strconv.Itoa: its contract; the numeral of the reference is the same. Conditions: the table of powers of ten as the program lays it. -/
namespace Go.Absw
open Go Go.Proofs Go.RowKit Go.Sort
set_option maxRecDepth 100000

/-- The table of powers of ten, as the environment tells it. -/
def powT : List FV := Lib.pow10Tab.map fun z => .int .u64 z
theorem powT_len : powT.length = 20 := by simp [powT, Lib.pow10Tab_length]

/-- A contract out of calls in the model that read the package's variables. -/
theorem ct_of_callsG {G : Env} {f : FuncId} {args : List PV} {res : PV} (hok : okF G.P f = true)
    (h : ∀ (w : World) (C : Cells) (τ : Tau) (vs : Array Value), vs.size = args.length → (∀ (n : Nat) v p, vs[n]? = some v → args[n]? = some p → RP C (fun _ => 0) τ w v p) → GlobOK G C w →
      Calls G.P f vs w fun e w' => ∃ v, e = .returned v ∧ (∀ C' S' τ' w', RP C' S' τ' w' v res) ∧ Below w.heap.size w w') : CT G f ⟨args, []⟩ ⟨res, [], []⟩ := by
  have gone : ∀ t, (otk (⟨res, [], []⟩ : Out) t).c = .gone := fun t => by simp [otk]
  refine ⟨hok, fun w C τ vs hvs hargs htoks hdist hlt hglob => ?_⟩
  refine (h w C τ vs hvs hargs hglob).mono ?_
  rintro e w' ⟨v, rfl, hr, hb⟩
  refine ⟨v, C, τ, rfl, hr _ _ _ _, fun t => ?_, fun t t' k k' hl => ?_, fun t ht => absurd ht (by simp), fun t hl => ?_, ?_, fun b o hc => Nat.lt_of_lt_of_le (hlt b o hc) hb.size⟩
  · rw [gone]; trivial
  · rw [gone] at hl; cases hl
  · rw [gone] at hl; cases hl
  · exact ⟨hb.os, hb.tape, hb.output, hb.size, fun b hbk _ => hb.block b hbk, fun _ _ h => h, fun _ _ h => .inl h, fun b o hc => World.cell?_of_block (w := w) (hb.block b (hlt b o hc))⟩

theorem tab_is {G : Env} {C : Cells} {w : World} (h : GlobOK G C w) (hg : G.glob 0 = powT) : Lib.TabIs Tryd.prog w "internal/strconv.uint64pow10" .u64 Lib.pow10Tab := by
  have hl := Lib.pow10Tab_length
  obtain ⟨h1, h2⟩ := h
  have h2 := (h2 0 (by rw [hg]; intro e; have := powT_len; rw [e] at this; simp at this)).2
  rw [hg, powT_len] at h2
  have h1 : ∀ (j : Nat) z, Lib.pow10Tab[j]? = some z → w.cell? ⟨0, j, none⟩ = some (.int .u64 z) := by
    intro j z hz
    obtain ⟨_, v, hv, hr⟩ := h1 0 j (.int .u64 z) (by rw [hg]; simp [powT, hz])
    cases hr
    exact hv
  have h0 := h1 0 1 rfl
  unfold Lib.TabIs World.var?
  rw [show Tryd.prog.globalNamed "internal/strconv.uint64pow10" = some 0 by kernel_rfl]
  simp only [Option.bind_some]
  cases hb : w.heap[0]? with
  | none => simp [World.cell?, hb] at h0
  | some ob =>
    cases ob with
    | cells cs e fr =>
      simp only [Option.some.injEq]
      have hc : ∀ j, w.cell? ⟨0, j, none⟩ = cs[j]? := fun j => by simp [World.cell?, hb]
      apply Array.ext_getElem?
      intro j
      by_cases hj : j < 20
      · have hz := List.getElem?_eq_getElem (show j < Lib.pow10Tab.length by omega)
        rw [← hc, h1 j _ hz]
        simp [hz]
      · have e1 : cs.size ≤ 20 := by rw [hc] at h2; exact Array.getElem?_eq_none_iff.1 h2
        rw [Array.getElem?_eq_none (by omega), Array.getElem?_eq_none (by simp [hl]; omega)]
    | _ => simp [World.cell?, hb] at h0

theorem decS_digits : ∀ n : Nat, Lib.decDigits n = decS n := by
  intro n
  induction n using Nat.strongRecOn with
  | _ n ih =>
    rw [decS, Lib.decDigits]
    split
    · rfl
    · rw [ih (n / 10) (by omega)]
      try rfl
theorem itoa_dec (n : Int) : Lib.itoa n = decimalF n := by
  unfold Lib.itoa decimalF
  split
  · rw [decS_digits, show n.natAbs = (-n).toNat by omega]
  · rw [decS_digits]

theorem itoa_ct {G : Env} (hP : G.P = Tryd.prog) (hg : G.glob 0 = powT) {n : Int} (hn : -9223372036854775808 ≤ n ∧ n ≤ 9223372036854775807) : CT G 55 ⟨[.f (.int .i64 n)], []⟩ ⟨.f (.str (decimalF n)), [], []⟩ := by
  refine ct_of_callsG (by rw [hP]; kernel_rfl) fun w C τ vs hvs hargs hgl => ?_
  rw [hP]
  obtain rfl : vs = #[.int .i64 n] := by
    have h0 := hargs 0 _ _ (Array.getElem?_eq_getElem (show 0 < vs.size by simp at hvs; omega)) rfl
    have hv0 : vs[0]? = some (vs[0]'(by simp at hvs; omega)) := by simp
    generalize vs[0]'(by simp at hvs; omega) = z0 at h0 hv0
    apply Array.ext_getElem?
    intro j
    match j with
    | 0 =>
      cases h0 with
      | f _ _ h => cases h; rw [hv0]; rfl
    | j + 1 => simp at hvs ⊢; omega
  refine (Tryd.strconv_Itoa n hn.1 hn.2 w (tab_is hgl hg)).mono ?_
  rintro e w' ⟨rfl, k, os, rfl⟩
  refine ⟨_, rfl, fun _ _ _ _ => ?_, ⟨rfl, rfl, rfl, by simp [grow, World.drewN], fun b hb => by simp only [grow, World.drewN]; rw [Array.getElem?_append_left hb]⟩⟩
  rw [itoa_dec]
  exact .f _ _ (.str _)
end Go.Absw

/- Contract of vm.Print: the text of the reference. Conditions: the table of powers of ten as the program lays it. -/
namespace Go.Absw
open Go Go.Proofs
set_option maxRecDepth 100000

theorem rows_get : ∀ m : Nat, m < 9 → ∃ w x y z a b c, wordsR[m]? = some w ∧ w.length ≤ 20 ∧ sortsR[m]? = some [x, y, z] ∧
    getN (sortsT.map .f) (m * 4) 4 = some (.ag [.f (.str w), .f (.int .i64 a), .f (.int .i64 b), .f (.int .i64 c)]) ∧ (a = 0 ↔ x = 45) ∧ (b = 0 ↔ y = 45) ∧ (c = 0 ↔ z = 45) := by
  intro m hm
  match m, hm with
  | 0, _ => exact ⟨_, _, _, _, _, _, _, rfl, by decide, rfl, rfl, by decide, by decide, by decide⟩
  | 1, _ => exact ⟨_, _, _, _, _, _, _, rfl, by decide, rfl, rfl, by decide, by decide, by decide⟩
  | 2, _ => exact ⟨_, _, _, _, _, _, _, rfl, by decide, rfl, rfl, by decide, by decide, by decide⟩
  | 3, _ => exact ⟨_, _, _, _, _, _, _, rfl, by decide, rfl, rfl, by decide, by decide, by decide⟩
  | 4, _ => exact ⟨_, _, _, _, _, _, _, rfl, by decide, rfl, rfl, by decide, by decide, by decide⟩
  | 5, _ => exact ⟨_, _, _, _, _, _, _, rfl, by decide, rfl, rfl, by decide, by decide, by decide⟩
  | 6, _ => exact ⟨_, _, _, _, _, _, _, rfl, by decide, rfl, rfl, by decide, by decide, by decide⟩
  | 7, _ => exact ⟨_, _, _, _, _, _, _, rfl, by decide, rfl, rfl, by decide, by decide, by decide⟩
  | 8, _ => exact ⟨_, _, _, _, _, _, _, rfl, by decide, rfl, rfl, by decide, by decide, by decide⟩

/-- A call of String: behind it the builder is gone. -/
theorem pBend {G : Env} (hP : G.P = Tryd.prog) {a : List (Nat × PV)} {b : List (Nat × Tok)} {K : St → Prop} {d T R s r n : Nat} {p : PV} {t : List UInt8} (hT : lkK b T = ⟨s, .box 122 false [p, .ts R 0 n r]⟩) (hR : lkK b R = ⟨r, .row 5 1 0 0 (ofBytes t)⟩)
    (hne : T ≠ R) (hn : n = t.length) (hp : p = .f .nilp ∨ p = .ptr T 0 0 s)
    (hK : K (mkSt ((d, .f (.str t)) :: a) ((T, ⟨s, .gone⟩) :: (R, ⟨r, .gone⟩) :: b))) :
    pCall G .f [T, R] [] (some d) [.f (.fn (.func 57)), .ptr T 0 0 s] (mkSt a b) K := by
  subst hn
  have hne' : ¬ R = T := fun h => hne h.symm
  rcases hp with rfl | rfl
  · refine pCall_tok (ct57 hP (a := .f .nilp) (s := t)) rfl ?_ ⟨rfl, rfl⟩ ?_
    · simp [callInp, mDn, pos, hT, hR, hne, hne', bldB, bldR]
    · simpa [newT, pos, mUp, up, upC, upL, hT, hR, hne, hne', bldB, bldR, Nat.add_comm] using hK
  · refine pCall_tok (ct57 hP (a := .ptr 0 0 0 0) (s := t)) rfl ?_ ⟨rfl, rfl⟩ ?_
    · simp [callInp, mDn, pos, hT, hR, hne, hne', bldB, bldR]
    · simpa [newT, pos, mUp, up, upC, upL, hT, hR, hne, hne', bldB, bldR, Nat.add_comm] using hK

/-- The builder's own address, from the first write on. -/
def bAd (T i : Nat) : PV := if i = 0 then .f .nilp else .ptr T 0 0 0
theorem bAd_or (T i : Nat) : bAd T i = .f .nilp ∨ bAd T i = .ptr T 0 0 0 := by unfold bAd; split; exact .inl rfl; exact .inr rfl

theorem print_ct {G : Env} (hP : G.P = Tryd.prog) (hg : G.glob 0 = powT) (p : List Ins) (hl : p.length < 1000000) : CT G 24 ⟨[.f (encP p)], []⟩ ⟨.f (.str (printF p)), [], []⟩ := by
  refine ct_of_body (N := []) (pc := f24pc) (rs := f24rs) (by rw [hP]; exact f24ok) ?_
  rw [entry_mk]
  simp [f24pc, f24r0, f24r1, encP]
  refine pCall_pure (valid_ct hP p hl) rfl rfl rfl ?_
  unfold printF
  by_cases hv : validF p = 0
  case neg => simp [f24r2, retQ, outSt, f24rs, rvals, RArg.val, resPV, binF, binI, iI, hv]
  obtain ⟨hlen, hok⟩ := valid_ok hv
  rw [if_pos hv]
  have hall : (p.map lineF).flatten = txtF p p.length := by simp [txtF]
  rw [hall]
  simp [f24r3, f24r4, binF, binI, iI, hv, ghSt]
  unfold f24l0
  refine pwp_loop (α := Nat) (fun i => mkSt [(3, .ptr 103 0 0 0), (12, .f (encP p)), (13, .f (.int .i64 (p.length : Int))), (14, .f (.int .i64 (i : Int)))]
    [(103, ⟨0, .box 122 false [bAd 103 i, .ts 143 0 (txtF p i).length 0]⟩), (143, ⟨0, .row 5 1 0 0 (ofBytes (txtF p i))⟩)]) (fun i => i ≤ p.length ∧ (txtF p i).length ≤ i * 4000000) (fun i => p.length - i) 0 ⟨by omega, by simp [txtF]⟩ ?_ ?_
  · simp [keepSt, encP, txtF, bAd, ofBytes]
  rintro i ⟨hi, hL⟩
  by_cases hlt : i < p.length
  case neg =>
    have hil : i = p.length := by omega
    subst hil
    simp [f24r5, encP, binF, binI]
    simp [f24r17]
    refine pBend hP (s := 0) (r := 0) (p := bAd 103 p.length) (t := txtF p p.length) (by simp) (by simp) (by decide) rfl (bAd_or _ _) ?_
    simp [retQ, outSt, f24rs, rvals, RArg.val, resPV]
  have hlt' : (i : Int) < p.length := by omega
  have hnth : nth (p.map encI) (i : Int) = some (encI p[i]) := by simp [nth, hlt]
  have w1 : IntKind.i64.wrap ((i : Int) + 1) = (i : Int) + 1 := w64 (by omega)
  have htk : txtF p (i + 1) = txtF p i ++ lineF p[i] := by
    unfold txtF
    rw [List.take_succ_eq_append_getElem hlt, List.map_append, List.flatten_append]; simp only [List.map_cons, List.map_nil, List.flatten_cons, List.flatten_nil, List.append_nil]
  have hq := hok p[i] (List.getElem_mem hlt)
  have hb1 : bAd 103 (i + 1) = .ptr 103 0 0 0 := by simp [bAd]
  have hb0 := bAd_or 103 i
  generalize bAd 103 i = A0 at *
  generalize txtF p i = T at *
  generalize p[i] = q at *
  have hpl := preF_len hlen hq
  have hrl := fun k hk => @restF_len _ _ hlen hq k hk
  have hop : 0 ≤ q.op ∧ q.op < 9 := by simp [okIns] at hq; omega
  obtain ⟨wd, x, y, z, a, b, c, hwd, hwl, hs, hrow, ha, hb, hc⟩ := rows_get q.op.toNat (by omega)
  have hline : lineF q = wd ++ preF q 3 ++ [10] := by rw [lineF_pre]; simp [hwd]
  rw [hline] at htk
  simp [f24r5, f24r6, f24r7, encP, binF, binI, hlt, hlt', hnth, encI, iI, getN, splice]
  refine pCall_pure (sorts_ct hP) rfl rfl (by simp) ?_
  simp [hop, hrow]
  simp [getN, splice, f24r8]
  refine pBstr hP (s := 0) (r := 0) (p := A0) (t := T) (x := wd) (by simp) (by simp) (by decide) rfl hb0 (by omega) ?_
  simp [f24r9, getN]
  refine pCall_pure (numbers_ct hP q) (by simp [encI, iI]) (by simp [encI, iI, dnL]) (by simp [upL, up, iI]) ?_
  simp
  unfold f24l1
  refine pwp_loop (α := Nat) (fun k => mkSt [(3, .ptr 103 0 0 0), (6, .ptr 106 0 0 0), (12, .f (encP p)), (13, .f (.int .i64 (p.length : Int))), (14, .f (.int .i64 (i : Int))), (26, .ag [.f (iI q.a), .f (iI q.b), .f (iI q.c)]), (27, .f (.int .i64 (k : Int)))]
    [(103, ⟨0, .box 122 false [.ptr 103 0 0 0, .ts 143 0 (T ++ wd ++ preF q k).length 0]⟩), (106, ⟨0, .box 112 false [.f (.str wd), .f (.int .i64 a), .f (.int .i64 b), .f (.int .i64 c)]⟩), (143, ⟨0, .row 5 1 0 0 (ofBytes (T ++ wd ++ preF q k))⟩)]) (fun k => k ≤ 3) (fun k => 3 - k) 0 (by omega) ?_ ?_
  · simp [keepSt, encP, preF, iI]
  intro k hk
  by_cases hk3 : k < 3
  case neg =>
    have : k = 3 := by omega
    subst this
    have h3 := hpl 3 (by omega)
    generalize hD : preF q 3 = D at *
    have hs1 : (T ++ wd ++ D).length + 1 ≤ 140737488355328 := by simp; omega
    generalize hE : T ++ wd ++ D = E at *
    simp [f24r10, f24r15, binF, binI, iI, encP]
    refine pBbyte hP (s := 0) (r := 0) (p := .ptr 103 0 0 0) (t := E) (x := 10) (by simp) (by simp) (by decide) rfl (.inr rfl) hs1 ?_
    simp [f24r16, binF, binI, w1, keepSt]
    have htk' : txtF p (i + 1) = E ++ [10] := by rw [htk, ← hE]; simp
    refine ⟨i + 1, ⟨by omega, ?_⟩, by omega, ?_⟩
    · rw [htk']; simp; simp at hs1; have := congrArg List.length hE; simp at this; omega
    · rw [hb1, htk']; simp [encP]
  have hk3' : (k : Int) < 3 := by omega
  have wk : IntKind.i64.wrap ((k : Int) + 1) = (k : Int) + 1 := w64 (by omega)
  have hpk := hpl k (by omega)
  obtain ⟨n1, n2, hrk⟩ := hrl k hk3
  have hpn : preF q (k + 1) = preF q k ++ restF q k := rfl
  have hbk : ∃ c' e, ([PV.f (.int .i64 a), .f (.int .i64 b), .f (.int .i64 c)])[k]? = some (.f (.int .i64 c')) ∧ ([PV.f (.str wd), PV.f (.int .i64 a), .f (.int .i64 b), .f (.int .i64 c)])[1 + k]? = some (.f (.int .i64 c')) ∧ (c' = 0 ↔ e = 45) ∧ restF q k = partF e (numAt q k) := by
    match k, hk3 with
    | 0, _ => exact ⟨a, x, rfl, rfl, ha, by simp [restF, hs]⟩
    | 1, _ => exact ⟨b, y, rfl, rfl, hb, by simp [restF, hs]⟩
    | 2, _ => exact ⟨c, z, rfl, rfl, hc, by simp [restF, hs]⟩
  have hnk : nth [PV.f (iI q.a), .f (iI q.b), .f (iI q.c)] (k : Int) = some (.f (iI (numAt q k))) := by
    match k, hk3 with
    | 0, _ => rfl
    | 1, _ => rfl
    | 2, _ => rfl
  have hnk2 : ∀ h', ([PV.f (.int .i64 q.a), .f (.int .i64 q.b), .f (.int .i64 q.c)])[k]'h' = .f (.int .i64 (numAt q k)) := by
    match k, hk3 with
    | 0, _ => exact fun _ => rfl
    | 1, _ => exact fun _ => rfl
    | 2, _ => exact fun _ => rfl
  obtain ⟨c', e, hc1, hc2, hce, hr⟩ := hbk
  simp only [iI] at hnk
  simp [f24r10, f24r11, f24r12, encP, binF, binI, hk3, hk3', iI, hnk, hnk2, hc1, hc2]
  by_cases h45 : c' = 0
  · have hre : restF q k = [] := by rw [hr]; simp [partF, hce.1 h45]
    have hpn' : preF q (k + 1) = preF q k := by rw [hpn, hre]; simp
    simp [h45, f24r14, binF, binI, wk, keepSt]
    refine ⟨k + 1, by omega, by omega, ?_⟩
    rw [hpn']; simp [encP, iI]
  have h45' : ¬ e = 45 := fun h => h45 (hce.2 h)
  have hre : restF q k = 32 :: decimalF (numAt q k) := by rw [hr]; simp [partF, h45']
  have hdl : (decimalF (numAt q k)).length + 1 ≤ 1048600 := by rw [hre] at hrk; simpa using hrk
  have hdc := itoa_ct hP hg (n := numAt q k) (by omega)
  rw [hre] at hpn
  generalize decimalF (numAt q k) = D at *
  have hpn' : preF q (k + 1) = preF q k ++ ([32] ++ D) := by rw [hpn]; rfl
  have hs0 : 1 + D.length ≤ i64max := by simp [i64max]; omega
  have hs1 : (T ++ wd ++ preF q k).length + ([32] ++ D).length ≤ 140737488355328 := by simp; omega
  simp [h45, hnk2, f24r13]
  refine pCall_pure hdc rfl rfl rfl ?_
  simp [binF, binS, hs0]
  refine pBstr hP (s := 0) (r := 0) (p := .ptr 103 0 0 0) (n := T.length + (wd.length + (preF q k).length)) (t := T ++ wd ++ preF q k) (x := 32 :: D) (by simp) (by simp) (by decide) (by simp) (.inr rfl) hs1 ?_
  have hle : T.length + (wd.length + (preF q k).length) + (32 :: D).length = (T ++ wd ++ preF q (k + 1)).length := by rw [hpn']; simp; omega
  have hte : T ++ wd ++ preF q k ++ 32 :: D = T ++ wd ++ preF q (k + 1) := by rw [hpn']; simp
  rw [hle, hte]
  generalize hgE : T ++ wd ++ preF q (k + 1) = E
  simp only [List.length_cons] at *
  simp [f24r14, binF, binI, wk, keepSt]
  refine ⟨k + 1, by omega, by omega, ?_⟩
  rw [← hgE]; simp [encP, iI]
end Go.Absw

/- The length of a printed text; VmReads returns true. Conditions: told at each. -/
namespace Go.Absw
open Go Go.Proofs
set_option maxRecDepth 100000

theorem decS_len7 : ∀ (k n : Nat), n < 10 ^ (k + 1) → (decS n).length ≤ k + 1
  | 0, n, h => by rw [decS, if_pos (by simpa using h)]; simp
  | k + 1, n, h => by
    rw [decS]
    split
    · simp
    · have := decS_len7 k (n / 10) (by rw [Nat.pow_succ] at h; omega)
      simp; omega
theorem decimalF_len {n : Int} (h1 : -1048577 < n) (h2 : n < 1048577) : (decimalF n).length ≤ 8 := by
  unfold decimalF
  split
  · have := decS_len7 6 (-n).toNat (by simp; omega); simp; omega
  · have := decS_len7 6 n.toNat (by simp; omega); omega
theorem restF_len9 {n : Nat} {i : Ins} (hn : n ≤ 128) (h : okIns n i = true) {k : Nat} (hk : k < 3) : (restF i k).length ≤ 9 := by
  obtain ⟨h1, h2, _⟩ := restF_len hn h hk
  unfold restF partF
  split
  · simp
  · have := decimalF_len h1 h2; simp; omega
theorem lineF_len {n : Nat} {i : Ins} (hn : n ≤ 128) (h : okIns n i = true) : (lineF i).length ≤ 48 := by
  have h0 := restF_len9 hn h (k := 0) (by omega)
  have h1 := restF_len9 hn h (k := 1) (by omega)
  have h2 := restF_len9 hn h (k := 2) (by omega)
  have hop : 0 ≤ i.op ∧ i.op < 9 := by simp [okIns] at h; omega
  obtain ⟨w, hw, hl⟩ := words_get i.op.toNat (by omega)
  simp [lineF, hw]; omega
theorem lines_len {n : Nat} (hn : n ≤ 128) : ∀ p : List Ins, (∀ i ∈ p, okIns n i = true) → ((p.map lineF).flatten).length ≤ p.length * 48
  | [], _ => by simp
  | i :: p, h => by
    have h1 := lineF_len hn (h i (by simp))
    have h2 := lines_len hn p (fun j hj => h j (by simp [hj]))
    simp at h2 ⊢; omega
theorem printF_len (p : List Ins) : (printF p).length ≤ 6144 := by
  unfold printF
  split
  · rename_i hv
    obtain ⟨h1, h2⟩ := valid_ok hv
    have := lines_len h1 p h2
    omega
  · simp
theorem spacedF_len (s : List UInt8) (l : List Int) (hs : s.length ≤ 6144) : (spacedF s l).length < 1000000000 := by
  have hk : (scanA s).1.length ≤ s.length := by have := scanF_len s (s.length + 1) 0 (by omega); unfold scanA; omega
  unfold spacedF
  generalize (scanA s).1 = ts at *
  have key : ∀ i, (spF s l ts i).length ≤ i * 6148 := by
    intro i
    induction i with
    | zero => simp [spF]
    | succ i ih =>
      obtain ⟨w, hw, hl, _⟩ := sep_get l (i : Int)
      simp only [spF, pieceF, List.length_append, List.length_take, List.length_drop, hw]
      omega
  have := key ts.length
  omega

def strL (L : List (List UInt8)) : List (List FV) := L.map fun s => [.str s]
theorem vmReads_ct {G : Env} (hP : G.P = Tryd.prog) (hg : G.glob 0 = powT) {l m : List Int} (hl : ∀ n ∈ l, In64 n) (hm : ∀ n ∈ m, In64 n) (hll : l.length < 1000000000000000000) {at' how by' : Int} (hat : In64 at') (hhow : In64 how) (hby : In64 by') (raw : List UInt8) :
    CT G 7 ⟨[.f (encL l), .f (encL m), .f (iI at'), .f (iI how), .f (iI by'), .f (.str raw)], []⟩ ⟨.f (.bool true), [], []⟩ := by
  refine ct_of_body (N := []) (pc := f7pc) (rs := f7rs) (by rw [hP]; exact f7ok) ?_
  rw [entry_mk]
  have he : ∀ x, (encX x).length = 4 := fun _ => rfl
  obtain ⟨x1, x2, x3⟩ := schF_lt l
  obtain ⟨xk, xo⟩ := schF_kinds l
  -- the texts, one after the other
  have tail : ∀ (L : List (List UInt8)) (hL : ∀ s ∈ L, s.length < 1000000000) (a : List (Nat × PV)) (b : List (Nat × Tok)) (s : Nat) (hlen : L.length ≤ 10), lkS a 16 = .ts 164 0 L.length s → lkK b 164 = ⟨s, .row 9 1 0 0 (strL L)⟩ →
      pwp G (.seq (.seq (.region f7r10 []) (.block 0 (.loop f7l0))) (.seq (.region f7r17 []) .ret)) (retQ 0 [] f7rs (· = ⟨.f (.bool true), [], []⟩)) (mkSt a b) := by
    intro L hL a b s hlen h16 k164
    have hsl : (strL L).length = L.length := by simp [strL]
    have hb : (L.length : Int) < 100 := by omega
    simp [f7r10]
    unfold f7l0
    refine pwp_loop (α := Nat) (fun i => mkSt [(16, .ts 164 0 L.length 0), (18, .f (.int .i64 (i : Int)))] [(164, ⟨0, .row 9 1 0 0 (strL L)⟩)]) (fun i => i ≤ L.length) (fun i => L.length - i) 0 (by omega) (by simp [keepSt, h16, k164]) ?_
    intro i hi
    by_cases hlt : i < L.length
    case neg =>
      have hlt' : ¬ (i : Int) < L.length := by omega
      simp [f7r11, f7r17, binF, binI, hlt, hlt']
      refine pCall_pure (lives_ct hP) rfl rfl rfl ?_
      simp [retQ, outSt, f7rs, rvals, RArg.val, resPV]
    have hlt' : (i : Int) < L.length := by omega
    have w1 : IntKind.i64.wrap ((i : Int) + 1) = (i : Int) + 1 := w64 (by omega)
    have hg : ∀ h, (strL L)[i]'h = [.str (L[i]'hlt)] := by intro h; simp [strL]
    have hll := hL _ (List.getElem_mem hlt)
    generalize L[i] = t at *
    simp [f7r11, f7r13, binF, binI, hlt, hlt', hg, hsl]
    refine pCall_pure (parse_ct hP t hll) rfl rfl rfl ?_
    have hpo : encPo (parseF t).p = encP ((parseF t).p.getD []) := by cases (parseF t).p <;> rfl
    have hpn := parseF_len t
    have hrp := rparse_ct hP t hll
    simp only [parseOut, hpo] at hrp ⊢
    generalize (parseF t).p.getD [] = P at *
    generalize (parseF t).place = pl at *
    generalize (parseF t).err = er at *
    simp [upL, up, iI, f7r14, hg, hlt, hsl]
    refine pCall_pure hrp rfl rfl rfl ?_
    simp [upL, up, iI, f7r15, binF, binI]
    refine pCall_pure (plain_ct' hP (p := P) (by omega)) rfl rfl rfl ?_
    simp
    refine pCall_pure (sameP_ct hP (p := P) (by omega)) rfl rfl rfl ?_
    simp [unF, f7r12, binF, binI, w1, keepSt]
    exact ⟨i + 1, by omega, by omega, by simp⟩
  simp [f7pc, f7r0, f7r1, iI, encL]
  refine pCall_pure (schema_ct hP hl hll) rfl rfl rfl ?_
  generalize schF l = x at *
  simp
  refine pCall_pure (program_ct hP hm x2 x1 x3) rfl rfl rfl ?_
  obtain ⟨hv, hb⟩ := prog_valid xk.1 xk.2 xo m
  have hpl := progF_len x m
  generalize progF x m = p at *
  simp [f7r2]
  refine pCall_pure (rprint_ct hP p (by omega)) rfl rfl rfl ?_
  simp [f7r3]
  refine pCall_pure (own_ct hP p (by omega)) rfl rfl rfl ?_
  simp
  refine pCall_pure (print_ct hP hg p (by omega)) rfl rfl rfl ?_
  have hsl := printF_len p
  have hsp := spacedF_len (printF p) m hsl
  generalize hS : printF p = S at *
  simp [binF, binS]
  refine pCall_pure (bent_ct hP (p := p) (by omega) hat hhow hby) rfl rfl rfl ?_
  have hql := bent_len p at' how by'
  generalize hQ : bentF p at' how by' = q at *
  simp
  refine pCall_pure (own_ct hP q (by omega)) rfl rfl rfl ?_
  simp
  refine pCall_pure (print_ct hP hg q (by omega)) rfl rfl rfl ?_
  simp
  refine pCall_pure (hQ ▸ bent_ct hP (p := p) (by omega) hat hhow hby) rfl rfl rfl ?_
  simp
  refine pCall_pure (rprint_ct hP q (by omega)) rfl rfl rfl ?_
  simp [binF, binS, f7r5]
  refine pCall_pure (short_ct hP raw 60) rfl rfl rfl ?_
  have hfl : (raw.take 60).length ≤ 60 := by simp; omega
  generalize raw.take 60 = few at *
  simp [f7r6]
  refine pCall_pure (spaced_ct hP S (by omega) m hm) rfl rfl rfl ?_
  generalize spacedF S m = sp at *
  have hs1 : S.length + few.length ≤ i64max := by simp [i64max]; omega
  have hs2 : 7 + few.length ≤ i64max := by simp [i64max]; omega
  simp [binF, binS, hs1, hs2, getN, chunk, f7r7, binI]
  obtain ⟨E8, hE8⟩ : ∃ E : List (List UInt8), E = [S, sp, few, S ++ few, [108, 111, 97, 100, 32, 48, 32] ++ few, [115, 116, 111, 112, 32, 48, 48, 55, 32, 106, 117, 109, 112, 32, 48, 48, 48, 48, 48, 48, 49], [108, 111, 97, 100, 32, 55, 32, 45, 49, 48, 52, 56, 53, 55, 55], [108, 111, 97, 100, 32, 55, 32, 49, 48, 52, 56, 53, 55, 54, 48]] := ⟨_, rfl⟩
  have e8 : ∀ s ∈ E8, s.length < 1000000000 := by
    rw [hE8]; simp; omega
  by_cases h0 : 0 < S.length
  case neg =>
    simp [h0]
    exact tail E8 e8 _ _ _ (by rw [hE8]; simp) (by rw [hE8]; rfl) (by rw [hE8]; rfl)
  obtain ⟨u, hu, hul⟩ := changed_ct hP S (by omega) at' how by' hat hhow hby
  simp [h0, f7r8, f7r9]
  refine pCall_pure hu rfl rfl rfl ?_
  have hw6 := wrap_in (how.tdiv 6)
  simp [binF, binI]
  generalize IntKind.i64.wrap (how.tdiv 6) = h6 at *
  obtain ⟨v, hv', hvl⟩ := changed_ct hP u (by omega) by' h6 at' hby hw6 hat
  refine pCall_pure hv' rfl rfl rfl ?_
  simp [getN, chunk, i64max]
  refine tail (E8 ++ [u, v]) (fun s hs => ?_) _ _ _ ?_ (by rw [hE8]; rfl) (by rw [hE8]; rfl)
  · rcases List.mem_append.1 hs with hs | hs
    · exact e8 s hs
    · simp at hs; rcases hs with rfl | rfl <;> omega
  · rw [hE8]; simp
end Go.Absw
