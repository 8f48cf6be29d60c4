/- Contracts of the machine of diorama/vm, its reference and what both call. Conditions: told at each. -/
import Derived.Test.YtpkhdnaeaeiidaaDoorTc
set_option linter.unusedSimpArgs false
set_option linter.unusedVariables false

namespace Go.Absw
open Go Go.Proofs
set_option maxRecDepth 100000
def hasIx (name : List UInt8) : List (List FV) → Nat → Int
  | [], _ => -1
  | (.str s :: _) :: r, i => if s = name then i else hasIx name r (i + 1)
  | _ :: r, i => hasIx name r (i + 1)

theorem has_ct {G : Env} (hP : G.P = Tryd.prog) (fs : List (List FV)) (name : List UInt8) (hfs : ∀ c ∈ fs, ∃ s r, c = .str s :: r) (hl : fs.length < 9223372036854775807) :
    CT G 65 ⟨[.f (.sl 8 fs), .f (.str name)], []⟩ ⟨.f (.int .i64 (hasIx name fs 0)), [], []⟩ := by
  refine ct_of_body (N := []) (pc := f65pc) (rs := f65rs) (by rw [hP]; exact f65ok) ?_
  rw [entry_mk]
  simp [numb, f65pc, f65r0, f65r1]
  unfold f65l0
  refine pwp_loop (α := Nat) (fun i => mkSt [(0, .f (.sl 8 fs)), (1, .f (.str name)), (5, .f (.int .i64 i))] []) (fun i => i ≤ fs.length ∧ hasIx name (fs.drop i) i = hasIx name fs 0) (fun i => fs.length - i) 0 (by simp) (by simp [keepSt]) ?_
  rintro i ⟨hi, hix⟩
  simp [f65r2, binF, binI]
  refine ccase_i (fun h => ?_) (fun h => ?_)
  · simp at h
    obtain ⟨s, r, hc⟩ := hfs _ (List.getElem_mem h)
    have hnth : nth fs (i : Int) = some (.str s :: r) := by simp [nth, hc, h]
    have hd : fs.drop i = (.str s :: r) :: fs.drop (i + 1) := by rw [List.drop_eq_getElem_cons h, hc]
    rw [hd, hasIx] at hix
    simp [f65r4, binF, binS, hnth]
    refine ccase_i (fun e => ?_) (fun e => ?_)
    · simp at e
      rw [if_pos e] at hix
      simp [f65r5, retQ, outSt, f65rs, rvals, RArg.val, resPV, frzV, hix]
    · simp at e
      rw [if_neg e] at hix
      have hw : IntKind.i64.wrap ((i : Int) + 1) = (i : Int) + 1 := w64 (by omega)
      simp [f65r3, binF, binI, keepSt, hw]
      exact ⟨i + 1, ⟨by omega, hix⟩, by omega, rfl⟩
  · simp at h
    have : i = fs.length := by omega
    subst this
    simp [hasIx] at hix
    simp [f65r6, retQ, outSt, f65rs, rvals, RArg.val, resPV, frzV, hix]
end Go.Absw

/- Contracts of small functions: dioramaref01.Around, dioramaref01.At, dioramalaw29.own. -/
namespace Go.Absw
open Go Go.Proofs
set_option maxRecDepth 100000

structure Ins where
  op : Int
  a : Int
  b : Int
  c : Int
  deriving DecidableEq, Inhabited
def iI (n : Int) : FV := .int .i64 n
def encI (i : Ins) : List FV := [iI i.op, iI i.a, iI i.b, iI i.c]
def encP (p : List Ins) : FV := .sl 4 (p.map encI)

theorem own_ct {G : Env} (hP : G.P = Tryd.prog) (p : List Ins) (hl : p.length < 1000000) : CT G 15 ⟨[.f (encP p)], []⟩ ⟨.f (encP p), [], []⟩ := by
  refine ct_of_body (N := []) (pc := f15pc) (rs := f15rs) (by rw [hP]; exact f15ok) ?_
  rw [entry_mk]
  simp [numb, f15pc, f15r0, f15r1, f15r2, encP]
  unfold f15l0
  refine pwp_loop (α := Nat) (fun i => mkSt [(0, .f (encP p)), (3, .ts 103 0 i 0), (4, .f (.int .i64 i))] [(103, ⟨0, .row 104 4 0 0 ((p.take i).map encI)⟩)]) (fun i => i ≤ p.length) (fun i => p.length - i) 0 (by simp) (by simp [keepSt, encP]) ?_
  intro i hi
  simp [f15r3, binF, binI, encP]
  refine ccase_i (fun h => ?_) (fun h => ?_)
  · simp at h
    have hn : nth (p.map encI) (i : Int) = some (encI p[i]) := by simp [nth, h]
    simp [f15r5, hn, encI, iI]
    rw [if_pos ⟨by omega, by omega, by simp [i64max]; omega⟩]
    have hw : IntKind.i64.wrap ((i : Int) + 1) = (i : Int) + 1 := w64 (by omega)
    simp [f15r4, binF, binI, hw, keepSt]
    exact ⟨i + 1, by omega, by omega, by simp [encI, iI, List.take_add_one, List.take_take, h]⟩
  · simp at h
    have : i = p.length := by omega
    subst this
    simp [f15r6, retQ, outSt, f15rs, rvals, RArg.val, resPV]
    rw [List.take_of_length_le (by simp), List.take_of_length_le (by simp)]

def In64 (n : Int) : Prop := -9223372036854775808 ≤ n ∧ n ≤ 9223372036854775807
def aroundF (n most : Int) : Int := if most < 1 then 0 else (if n < 0 then -(n + 1) else n).tmod most
theorem aroundF_nonneg (n most : Int) : 0 ≤ aroundF n most := by
  unfold aroundF
  split
  · exact Int.le_refl _
  · exact Int.tmod_nonneg _ (by split <;> omega)
theorem aroundF_lt (n : Int) {most : Int} (h : 1 ≤ most) : aroundF n most < most := by
  unfold aroundF
  rw [if_neg (by omega)]
  exact Int.tmod_lt_of_pos _ (by omega)
theorem aroundF_in (n most : Int) (h : In64 most) : In64 (aroundF n most) := by
  unfold In64 at *
  have h0 := aroundF_nonneg n most
  by_cases h1 : 1 ≤ most
  · have := aroundF_lt n h1; omega
  · have : aroundF n most = 0 := by unfold aroundF; rw [if_pos (by omega)]
    omega

theorem around_ct {G : Env} (hP : G.P = Tryd.prog) (n most : Int) (hn : In64 n) (hm : In64 most) : CT G 13 ⟨[.f (iI n), .f (iI most)], []⟩ ⟨.f (iI (aroundF n most)), [], []⟩ := by
  refine ct_of_body (N := []) (pc := f13pc) (rs := f13rs) (by rw [hP]; exact f13ok) ?_
  rw [entry_mk]
  unfold In64 at *
  have e1 : n < 0 → IntKind.i64.wrap (n + 1) = n + 1 := fun h => w64 (by omega)
  have e2 : n < 0 → IntKind.i64.wrap (-(n + 1)) = -(n + 1) := fun h => w64 (by omega)
  by_cases h : n < 0 <;> by_cases h1 : most < 1
  · simp [f13pc, f13r0, f13r1, f13r2, f13r3, f13r4, binF, binI, unF, iI, h, h1, e1 h, e2 h, retQ, outSt, f13rs, rvals, RArg.val, resPV, aroundF]
  · have hz : most ≠ 0 := by omega
    simp [numb, f13pc, f13r0, f13r1, f13r2, f13r3, f13r5, binF, binI, unF, iI, h, h1, hz, e1 h, e2 h, retQ, outSt, f13rs, rvals, RArg.val, resPV, aroundF]
  · simp [f13pc, f13r0, f13r1, f13r2, f13r3, f13r4, binF, binI, unF, iI, h, h1, retQ, outSt, f13rs, rvals, RArg.val, resPV, aroundF]
  · have hz : most ≠ 0 := by omega
    simp [numb, f13pc, f13r0, f13r1, f13r2, f13r3, f13r5, binF, binI, unF, iI, h, h1, hz, retQ, outSt, f13rs, rvals, RArg.val, resPV, aroundF]

def atF (l : List Int) (i most : Int) : Int := match nth l i with
  | some n => aroundF n most
  | none => 0
def encL (l : List Int) : FV := .sl 1 (l.map fun n => [iI n])

theorem nth_map {α β : Type} (f : α → β) (l : List α) (i : Int) : nth (l.map f) i = (nth l i).map f := by
  unfold nth; split <;> simp

theorem at_ct {G : Env} (hP : G.P = Tryd.prog) (l : List Int) (hl : ∀ n ∈ l, In64 n) (i most : Int) (hi : In64 i) (hm : In64 most) :
    CT G 35 ⟨[.f (encL l), .f (iI i), .f (iI most)], []⟩ ⟨.f (iI (atF l i most)), [], []⟩ := by
  refine ct_of_body (N := []) (pc := f35pc) (rs := f35rs) (by rw [hP]; exact f35ok) ?_
  rw [entry_mk]
  by_cases h : i < 0
  · have hn : nth l i = none := by unfold nth; rw [if_neg (by omega)]
    simp [numb, f35pc, f35r0, f35r1, f35r2, binF, binI, iI, encL, h, retQ, outSt, f35rs, rvals, RArg.val, resPV, atF, hn]
  · by_cases h2 : (l.length : Int) ≤ i
    · have hn : nth l i = none := by unfold nth; rw [if_pos (by omega), List.getElem?_eq_none (by omega)]
      simp [numb, f35pc, f35r0, f35r1, f35r2, binF, binI, iI, encL, h, h2, retQ, outSt, f35rs, rvals, RArg.val, resPV, atF, hn]
    · have hlt : i.toNat < l.length := by omega
      have hn : nth l i = some l[i.toNat] := by
        unfold nth; rw [if_pos (by omega)]; simp [hlt]
      have hm' : nth (l.map fun n => [FV.int .i64 n]) i = some [FV.int .i64 l[i.toNat]] := by rw [nth_map, hn]; rfl
      simp [numb, f35pc, f35r0, f35r1, f35r3, binF, binI, iI, encL, h, h2, hm']
      refine pCall_pure (around_ct hP l[i.toNat] most (hl _ (List.getElem_mem hlt)) hm) (by simp [iI]) rfl rfl ?_
      simp [retQ, outSt, f35rs, rvals, RArg.val, resPV, atF, hn, iI]
end Go.Absw

/- Contracts of vm.fits, vm.numbers, vm.sorts. -/
namespace Go.Absw
open Go Go.Proofs
set_option maxRecDepth 100000

def bnd (sort n : Int) : Int × Int :=
  if sort = 1 then (0, 250) else if sort = 2 then (0, 7) else if sort = 3 then (-1048576, 1048576) else if sort = 4 then (0, 5) else if sort = 5 then (0, 9) else if sort = 6 then (0, n) else (0, 0)
def fitsF (sort v n : Int) : Bool := decide ((bnd sort n).1 ≤ v) && decide (v ≤ (bnd sort n).2)

theorem fits_ct {G : Env} (hP : G.P = Tryd.prog) (sort v n : Int) : CT G 44 ⟨[.f (iI sort), .f (iI v), .f (iI n)], []⟩ ⟨.f (.bool (fitsF sort v n)), [], []⟩ := by
  refine ct_of_body (N := []) (pc := f44pc) (rs := f44rs) (by rw [hP]; exact f44ok) ?_
  rw [entry_mk]
  have tail : ∀ (lo hi : Int) (σ : St), σ.sl 1 = .f (iI v) → σ.sl 7 = .f (iI lo) → σ.sl 8 = .f (iI hi) → bnd sort n = (lo, hi) →
      pOps G f44r15 (fun σ => retQ 0 [] f44rs (· = ⟨.f (.bool (fitsF sort v n)), [], []⟩) .ret σ) σ := by
    intro lo hi σ h1 h7 h8 hb
    by_cases h : lo ≤ v
    · simp [f44r15, h1, h7, h8, iI, binF, binI, h, put_sl, put_tk, retQ, outSt, f44rs, rvals, RArg.val, resPV, fitsF, hb]
    · simp [f44r15, h1, h7, h8, iI, binF, binI, h, put_sl, put_tk, retQ, outSt, f44rs, rvals, RArg.val, resPV, fitsF, hb]
  have fin : ∀ (lo hi : Int) (σ : St), σ.sl 1 = .f (iI v) → σ.sl 7 = .f (iI lo) → σ.sl 8 = .f (iI hi) → bnd sort n = (lo, hi) →
      pOps G f44r15 (pwp G .ret (retQ 0 [] f44rs (· = ⟨.f (.bool (fitsF sort v n)), [], []⟩))) σ := tail
  by_cases e1 : sort = 1
  · subst e1
    simp [f44pc, f44r0, f44r1, f44r2, f44r3, f44r4, iI, binF, binI]
    exact fin 0 250 _ (by simp [iI]) (by simp [iI]) (by simp [iI]) rfl
  by_cases e2 : sort = 2
  · subst e2
    simp [f44pc, f44r0, f44r1, f44r2, f44r3, f44r5, f44r6, iI, binF, binI]
    exact fin 0 7 _ (by simp [iI]) (by simp [iI]) (by simp [iI]) rfl
  by_cases e3 : sort = 3
  · subst e3
    simp [f44pc, f44r0, f44r1, f44r2, f44r3, f44r5, f44r7, f44r8, iI, binF, binI]
    exact fin (-1048576) 1048576 _ (by simp [iI]) (by simp [iI]) (by simp [iI]) rfl
  by_cases e4 : sort = 4
  · subst e4
    simp [f44pc, f44r0, f44r1, f44r2, f44r3, f44r5, f44r7, f44r9, f44r10, iI, binF, binI]
    exact fin 0 5 _ (by simp [iI]) (by simp [iI]) (by simp [iI]) rfl
  by_cases e5 : sort = 5
  · subst e5
    simp [f44pc, f44r0, f44r1, f44r2, f44r3, f44r5, f44r7, f44r9, f44r11, f44r12, iI, binF, binI]
    exact fin 0 9 _ (by simp [iI]) (by simp [iI]) (by simp [iI]) rfl
  by_cases e6 : sort = 6
  · subst e6
    simp [f44pc, f44r0, f44r1, f44r2, f44r3, f44r5, f44r7, f44r9, f44r11, f44r13, f44r14, iI, binF, binI]
    exact fin 0 n _ (by simp [iI]) (by simp [iI]) (by simp [iI]) rfl
  · simp [f44pc, f44r0, f44r1, f44r2, f44r3, f44r5, f44r7, f44r9, f44r11, f44r13, iI, binF, binI, e1, e2, e3, e4, e5, e6]
    exact fin 0 0 _ (by simp [iI]) (by simp [iI]) (by simp [iI]) (by simp [bnd, e1, e2, e3, e4, e5, e6])

theorem numbers_ct {G : Env} (hP : G.P = Tryd.prog) (i : Ins) : CT G 43 ⟨[.ag ((encI i).map .f)], []⟩ ⟨.ag [.f (iI i.a), .f (iI i.b), .f (iI i.c)], [], []⟩ := by
  refine ct_of_body (N := []) (pc := f43pc) (rs := f43rs) (by rw [hP]; exact f43ok) ?_
  rw [entry_mk]
  simp [f43pc, f43r0, f43r1, encI, iI, retQ, outSt, f43rs, rvals, RArg.val, ptrFoot, getN, resPV, upL]

def rowS (w : List UInt8) (a b c : Int) : List FV := [.str w, iI a, iI b, iI c]
def sortsT : List FV := rowS [115, 116, 111, 112] 1 0 0 ++ rowS [108, 111, 97, 100] 2 3 0 ++ rowS [97, 100, 100] 2 2 2 ++ rowS [115, 117, 98] 2 2 2 ++ rowS [115, 105, 122, 101] 2 4 0 ++ rowS [103, 101, 116] 2 4 5 ++
  rowS [106, 117, 109, 112] 6 0 0 ++ rowS [108, 101, 115, 115] 2 2 6 ++ rowS [115, 97, 109, 101] 2 2 6
theorem sorts_ct {G : Env} (hP : G.P = Tryd.prog) : CT G 45 ⟨[], []⟩ ⟨.ag (sortsT.map .f), [], []⟩ := by
  refine ct_of_body (N := []) (pc := f45pc) (rs := f45rs) (by rw [hP]; exact f45ok) ?_
  rw [entry_mk]
  simp [f45pc, f45r0, f45r1, encI, iI, retQ, outSt, f45rs, rvals, RArg.val, ptrFoot, getN, resPV, sortsT, rowS]
end Go.Absw

/- Contract of vm.Valid. -/
namespace Go.Absw
open Go Go.Proofs
set_option maxRecDepth 100000

def sortTab : List (List Int) := [[1, 0, 0], [2, 3, 0], [2, 2, 2], [2, 2, 2], [2, 4, 0], [2, 4, 5], [6, 0, 0], [2, 2, 6], [2, 2, 6]]
def sortAt (op k : Nat) : Int := (sortTab.getD op []).getD k 0
def numAt (i : Ins) : Nat → Int
  | 0 => i.a
  | 1 => i.b
  | _ => i.c
def fitAt (n : Int) (i : Ins) (k : Nat) : Bool := fitsF (sortAt i.op.toNat k) (numAt i k) n
def okIns (n : Int) (i : Ins) : Bool := decide (0 ≤ i.op) && decide (i.op < 9) && (fitAt n i 0 && fitAt n i 1 && fitAt n i 2)
def validF (p : List Ins) : Int := if 128 < p.length then 4 else if p.all (okIns p.length) then 0 else 1

theorem sort_get : ∀ m : Nat, m < 9 → ∃ w, getN (sortsT.map .f) (m * 4) 4 = some (.ag [.f (.str w), .f (iI (sortAt m 0)), .f (iI (sortAt m 1)), .f (iI (sortAt m 2))]) := by
  intro m hm
  match m, hm with
  | 0, _ => exact ⟨_, rfl⟩
  | 1, _ => exact ⟨_, rfl⟩
  | 2, _ => exact ⟨_, rfl⟩
  | 3, _ => exact ⟨_, rfl⟩
  | 4, _ => exact ⟨_, rfl⟩
  | 5, _ => exact ⟨_, rfl⟩
  | 6, _ => exact ⟨_, rfl⟩
  | 7, _ => exact ⟨_, rfl⟩
  | 8, _ => exact ⟨_, rfl⟩

theorem valid_ct {G : Env} (hP : G.P = Tryd.prog) (p : List Ins) (hl : p.length < 1000000) : CT G 18 ⟨[.f (encP p)], []⟩ ⟨.f (iI (validF p)), [], []⟩ := by
  refine ct_of_body (N := []) (pc := f18pc) (rs := f18rs) (by rw [hP]; exact f18ok) ?_
  rw [entry_mk]
  by_cases hlen : 128 < p.length
  · have h' : (128 : Int) < p.length := by omega
    simp [f18pc, f18r0, f18r1, f18r2, encP, binF, binI, h', hlen, retQ, outSt, f18rs, rvals, RArg.val, resPV, validF, iI]
  have h' : ¬ (128 : Int) < p.length := by omega
  simp [f18pc, f18r0, f18r1, f18r3, encP, binF, binI, h']
  unfold f18l0
  refine pwp_loop (α := Nat) (fun i => mkSt [(0, .f (encP p)), (10, .f (encP p)), (11, .f (iI p.length)), (12, .f (iI i))] []) (fun i => i ≤ p.length ∧ (p.take i).all (okIns p.length) = true) (fun i => p.length - i) 0 (by simp) (by simp [keepSt, encP, iI]) ?_
  rintro i ⟨hi, hall⟩
  simp [f18r4, binF, binI, iI]
  refine ccase_i (fun h => ?_) (fun h => ?_)
  · simp at h
    have hn : nth (p.map encI) (i : Int) = some (encI p[i]) := by simp [nth, h]
    have bad : okIns p.length p[i] = false → validF p = 1 := by
      intro hb
      unfold validF
      rw [if_neg hlen, if_neg]
      simp only [List.all_eq_true]
      intro hh
      rw [hh _ (List.getElem_mem h)] at hb
      cases hb
    have next : okIns p.length p[i] = true → ∀ x ∈ p.take (i + 1), okIns p.length x = true := by
      intro ho x hx
      rw [List.take_add_one] at hx
      rcases List.mem_append.1 hx with hx | hx
      · exact List.all_eq_true.1 hall x hx
      · have : x = p[i] := by simpa [h] using hx
        rw [this]; exact ho
    have hw : IntKind.i64.wrap ((i : Int) + 1) = (i : Int) + 1 := w64 (by omega)
    generalize p[i] = q at hn bad next
    simp [f18r5, encP, hn, encI, iI, getN]
    by_cases h0 : q.op < 0
    · simp [f18r6, binF, binI, h0, f18r7, retQ, outSt, f18rs, rvals, RArg.val, resPV]
      rw [bad (by simp [okIns]; omega)]
    by_cases h9 : 9 ≤ q.op
    · simp [f18r6, binF, binI, h0, h9, f18r7, retQ, outSt, f18rs, rvals, RArg.val, resPV]
      rw [bad (by simp [okIns]; omega)]
    simp [f18r6, binF, binI, h0, h9, f18r8, getN]
    refine pCall_pure (numbers_ct hP q) (by simp [encI, iI]) (by simp [encI, iI, dnL]) (by simp [upL, up, iI]) ?_
    simp
    unfold f18l1
    refine pwp_loop (α := Nat) (fun k => mkSt [(0, .f (encP p)), (4, .ptr 104 0 0 0), (10, .f (encP p)), (11, .f (iI p.length)), (12, .f (iI i)), (25, .ag [.f (iI q.a), .f (iI q.b), .f (iI q.c)]), (26, .f (iI k))]
      [(104, ⟨0, .box 104 false [.f (iI q.op), .f (iI q.a), .f (iI q.b), .f (iI q.c)]⟩)]) (fun k => k ≤ 3 ∧ ∀ j, j < k → fitAt p.length q j = true) (fun k => 3 - k) 0 (by simp) (by simp [keepSt, encP, iI]) ?_
    rintro k ⟨hk, hfit⟩
    simp [f18r9, binF, binI, iI]
    refine ccase_i (fun hk3 => ?_) (fun hk3 => ?_)
    · simp at hk3
      have hk3' : k < 3 := by omega
      have hkn : ([PV.f (FV.int .i64 q.a), .f (.int .i64 q.b), .f (.int .i64 q.c)])[k]? = some (.f (.int .i64 (numAt q k))) := by
        match k, hk3' with
        | 0, _ => rfl
        | 1, _ => rfl
        | 2, _ => rfl
      have hwk : IntKind.i64.wrap ((k : Int) + 1) = (k : Int) + 1 := w64 (by omega)
      obtain ⟨w, hw'⟩ := sort_get q.op.toNat (by omega)
      have hks : ([PV.f (FV.int .i64 (sortAt q.op.toNat 0)), .f (.int .i64 (sortAt q.op.toNat 1)), .f (.int .i64 (sortAt q.op.toNat 2))])[k]? = some (.f (.int .i64 (sortAt q.op.toNat k))) := by
        match k, hk3' with
        | 0, _ => rfl
        | 1, _ => rfl
        | 2, _ => rfl
      simp [f18r10, hkn, hk3, f18r11]
      refine pCall_pure (sorts_ct hP) rfl rfl (by simp) ?_
      have hb : (0 : Int) ≤ q.op ∧ q.op < 9 := by omega
      simp [hb, hw', hk3]
      simp [getN, iI, encP, hks, hk3]
      refine pCall_pure (fits_ct hP (sortAt q.op.toNat k) (numAt q k) p.length) rfl rfl rfl ?_
      by_cases hf : fitAt p.length q k = true
      · have hf' : fitsF (sortAt q.op.toNat k) (numAt q k) p.length = true := hf
        simp [hf', unF, f18r13, binF, binI, hwk, keepSt, nst]
        refine ⟨k + 1, ⟨by omega, fun j hj => ?_⟩, by omega, ?_⟩
        · by_cases e : j = k
          · rw [e]; exact hf
          · exact hfit j (by omega)
        · simp [encP, iI]
      · have hf' : fitsF (sortAt q.op.toNat k) (numAt q k) p.length = false := (Bool.eq_false_iff.2 hf : fitAt p.length q k = false)
        simp [hf', unF, f18r12, retQ, outSt, f18rs, rvals, RArg.val, resPV]
        rw [bad]
        match k, hk3', hf with
        | 0, _, hf => simp [okIns, hf]
        | 1, _, hf => simp [okIns, hf]
        | 2, _, hf => simp [okIns, hf]
    · simp at hk3
      have : k = 3 := by omega
      subst this
      simp [f18r14, binF, binI, hw, keepSt, iI, encP]
      refine ⟨i + 1, ⟨by omega, next ?_⟩, by omega, rfl⟩
      simp [okIns, hfit 0, hfit 1, hfit 2]
      omega
  · simp at h
    have : i = p.length := by omega
    subst this
    rw [List.take_length] at hall
    simp [f18r15, retQ, outSt, f18rs, rvals, RArg.val, resPV, validF, hlen, iI]
    simpa using hall
end Go.Absw

/- Contracts of dioramaref29.Fits, Sorts, Valid. -/
namespace Go.Absw
open Go Go.Proofs
set_option maxRecDepth 100000

def codeOf (b : Int) : Int := if b = 99 then 1 else if b = 114 then 2 else if b = 110 then 3 else if b = 107 then 4 else if b = 102 then 5 else if b = 105 then 6 else 0

theorem rfits_ct {G : Env} (hP : G.P = Tryd.prog) (b v n : Int) : CT G 46 ⟨[.f (.int .u8 b), .f (iI v), .f (iI n)], []⟩ ⟨.f (.bool (fitsF (codeOf b) v n)), [], []⟩ := by
  refine ct_of_body (N := []) (pc := f46pc) (rs := f46rs) (by rw [hP]; exact f46ok) ?_
  rw [entry_mk]
  by_cases e99 : b = 99
  · subst e99
    have hc : codeOf 99 = 1 := rfl
    by_cases h : (0 : Int) ≤ v
    · simp [f46pc, f46r0, f46r1, f46r2, f46r3, iI, binF, binI, h, retQ, outSt, f46rs, rvals, RArg.val, resPV, hc, fitsF, bnd]
    · simp [f46pc, f46r0, f46r1, f46r2, f46r3, iI, binF, binI, h, retQ, outSt, f46rs, rvals, RArg.val, resPV, hc, fitsF, bnd]
  by_cases e114 : b = 114
  · subst e114
    have hc : codeOf 114 = 2 := rfl
    by_cases h : (0 : Int) ≤ v
    · simp [f46pc, f46r0, f46r1, f46r2, f46r4, f46r5, iI, binF, binI, h, retQ, outSt, f46rs, rvals, RArg.val, resPV, hc, fitsF, bnd]
    · simp [f46pc, f46r0, f46r1, f46r2, f46r4, f46r5, iI, binF, binI, h, retQ, outSt, f46rs, rvals, RArg.val, resPV, hc, fitsF, bnd]
  by_cases e110 : b = 110
  · subst e110
    have hc : codeOf 110 = 3 := rfl
    by_cases h : (-1048576 : Int) ≤ v
    · simp [f46pc, f46r0, f46r1, f46r2, f46r4, f46r6, f46r7, iI, binF, binI, h, retQ, outSt, f46rs, rvals, RArg.val, resPV, hc, fitsF, bnd]
    · simp [f46pc, f46r0, f46r1, f46r2, f46r4, f46r6, f46r7, iI, binF, binI, h, retQ, outSt, f46rs, rvals, RArg.val, resPV, hc, fitsF, bnd]
  by_cases e107 : b = 107
  · subst e107
    have hc : codeOf 107 = 4 := rfl
    by_cases h : (0 : Int) ≤ v
    · simp [f46pc, f46r0, f46r1, f46r2, f46r4, f46r6, f46r8, f46r9, iI, binF, binI, h, retQ, outSt, f46rs, rvals, RArg.val, resPV, hc, fitsF, bnd]
    · simp [f46pc, f46r0, f46r1, f46r2, f46r4, f46r6, f46r8, f46r9, iI, binF, binI, h, retQ, outSt, f46rs, rvals, RArg.val, resPV, hc, fitsF, bnd]
  by_cases e102 : b = 102
  · subst e102
    have hc : codeOf 102 = 5 := rfl
    by_cases h : (0 : Int) ≤ v
    · simp [f46pc, f46r0, f46r1, f46r2, f46r4, f46r6, f46r8, f46r10, f46r11, iI, binF, binI, h, retQ, outSt, f46rs, rvals, RArg.val, resPV, hc, fitsF, bnd]
    · simp [f46pc, f46r0, f46r1, f46r2, f46r4, f46r6, f46r8, f46r10, f46r11, iI, binF, binI, h, retQ, outSt, f46rs, rvals, RArg.val, resPV, hc, fitsF, bnd]
  by_cases e105 : b = 105
  · subst e105
    have hc : codeOf 105 = 6 := rfl
    by_cases h : (0 : Int) ≤ v
    · simp [f46pc, f46r0, f46r1, f46r2, f46r4, f46r6, f46r8, f46r10, f46r12, f46r13, iI, binF, binI, h, retQ, outSt, f46rs, rvals, RArg.val, resPV, hc, fitsF, bnd]
    · simp [f46pc, f46r0, f46r1, f46r2, f46r4, f46r6, f46r8, f46r10, f46r12, f46r13, iI, binF, binI, h, retQ, outSt, f46rs, rvals, RArg.val, resPV, hc, fitsF, bnd]
  have hc : codeOf b = 0 := by simp [codeOf, e99, e114, e110, e107, e102, e105]
  have hz : decide (v = 0) = (decide ((0 : Int) ≤ v) && decide (v ≤ 0)) := by
    rw [Bool.eq_iff_iff]; simp; omega
  simp [f46pc, f46r0, f46r1, f46r2, f46r4, f46r6, f46r8, f46r10, f46r12, f46r14, iI, binF, binI, e99, e114, e110, e107, e102, e105, retQ, outSt, f46rs, rvals, RArg.val, resPV, hc, fitsF, bnd, hz]

def sortsR : List (List UInt8) := [[99, 45, 45], [114, 110, 45], [114, 114, 114], [114, 114, 114], [114, 107, 45], [114, 107, 102], [105, 45, 45], [114, 114, 105], [114, 114, 105]]
theorem rsorts_ct {G : Env} (hP : G.P = Tryd.prog) : CT G 38 ⟨[], []⟩ ⟨.f (.sl 1 (sortsR.map fun s => [.str s])), [], []⟩ := by
  refine ct_of_body (N := []) (pc := f38pc) (rs := f38rs) (by rw [hP]; exact f38ok) ?_
  rw [entry_mk]
  simp [f38pc, f38r0, f38r1, retQ, outSt, f38rs, rvals, RArg.val, resPV, sortsR, List.replicate]

theorem sortsR_get : ∀ m : Nat, m < 9 → ∃ x y z, sortsR[m]? = some [x, y, z] ∧ codeOf x.toNat = sortAt m 0 ∧ codeOf y.toNat = sortAt m 1 ∧ codeOf z.toNat = sortAt m 2 := by
  intro m hm
  match m, hm with
  | 0, _ => exact ⟨_, _, _, rfl, rfl, rfl, rfl⟩
  | 1, _ => exact ⟨_, _, _, rfl, rfl, rfl, rfl⟩
  | 2, _ => exact ⟨_, _, _, rfl, rfl, rfl, rfl⟩
  | 3, _ => exact ⟨_, _, _, rfl, rfl, rfl, rfl⟩
  | 4, _ => exact ⟨_, _, _, rfl, rfl, rfl, rfl⟩
  | 5, _ => exact ⟨_, _, _, rfl, rfl, rfl, rfl⟩
  | 6, _ => exact ⟨_, _, _, rfl, rfl, rfl, rfl⟩
  | 7, _ => exact ⟨_, _, _, rfl, rfl, rfl, rfl⟩
  | 8, _ => exact ⟨_, _, _, rfl, rfl, rfl, rfl⟩

theorem rvalid_ct {G : Env} (hP : G.P = Tryd.prog) (p : List Ins) (hl : p.length < 1000000) : CT G 19 ⟨[.f (encP p)], []⟩ ⟨.f (iI (validF p)), [], []⟩ := by
  refine ct_of_body (N := []) (pc := f19pc) (rs := f19rs) (by rw [hP]; exact f19ok) ?_
  rw [entry_mk]
  by_cases hlen : 128 < p.length
  · have h' : (128 : Int) < p.length := by omega
    simp [f19pc, f19r0, f19r1, f19r2, encP, binF, binI, h', hlen, retQ, outSt, f19rs, rvals, RArg.val, resPV, validF, iI]
  have h' : ¬ (128 : Int) < p.length := by omega
  simp [f19pc, f19r0, f19r1, f19r3, encP, binF, binI, h']
  unfold f19l0
  refine pwp_loop (α := Nat) (fun i => mkSt [(0, .f (encP p)), (3, .f (iI i))] []) (fun i => i ≤ p.length ∧ (p.take i).all (okIns p.length) = true) (fun i => p.length - i) 0 (by simp) (by simp [keepSt, encP, iI]) ?_
  rintro i ⟨hi, hall⟩
  simp [f19r4, binF, binI, iI, encP]
  refine ccase_i (fun h => ?_) (fun h => ?_)
  · simp at h
    have hn : nth (p.map encI) (i : Int) = some (encI p[i]) := by simp [nth, h]
    have bad : okIns p.length p[i] = false → validF p = 1 := by
      intro hb
      unfold validF
      rw [if_neg hlen, if_neg]
      simp only [List.all_eq_true]
      intro hh
      rw [hh _ (List.getElem_mem h)] at hb
      cases hb
    have next : okIns p.length p[i] = true → ∀ x ∈ p.take (i + 1), okIns p.length x = true := by
      intro ho x hx
      rw [List.take_add_one] at hx
      rcases List.mem_append.1 hx with hx | hx
      · exact List.all_eq_true.1 hall x hx
      · have : x = p[i] := by simpa [h] using hx
        rw [this]; exact ho
    have hw : IntKind.i64.wrap ((i : Int) + 1) = (i : Int) + 1 := w64 (by omega)
    generalize p[i] = q at hn bad next
    by_cases h0 : q.op < 0
    · simp [f19r6, binF, binI, encI, iI, hn, h0, f19r7, retQ, outSt, f19rs, rvals, RArg.val, resPV]
      rw [bad (by simp [okIns]; omega)]
    by_cases h9 : 8 < q.op
    · simp [f19r6, binF, binI, encI, iI, hn, h0, h9, f19r7, retQ, outSt, f19rs, rvals, RArg.val, resPV]
      rw [bad (by simp [okIns]; omega)]
    obtain ⟨x, y, z, hs, hx, hy, hz⟩ := sortsR_get q.op.toNat (by omega)
    have hss : nth (sortsR.map fun s => [FV.str s]) q.op = some [.str [x, y, z]] := by
      rw [nth_map]; unfold nth; rw [if_pos (by omega), hs]; rfl
    have n0 : nth [x, y, z] 0 = some x := rfl
    have n1 : nth [x, y, z] 1 = some y := rfl
    have n2 : nth [x, y, z] 2 = some z := rfl
    simp [f19r6, binF, binI, encI, iI, hn, h0, h9, f19r8]
    refine pCall_pure (rsorts_ct hP) rfl rfl rfl ?_
    simp [hn, hss, f19r9, n0, encI, iI]
    refine pCall_pure (rfits_ct hP x.toNat q.a p.length) rfl rfl rfl ?_
    rw [hx]
    by_cases f0 : fitsF (sortAt q.op.toNat 0) q.a p.length = true
    case neg =>
      have f0' := Bool.eq_false_iff.2 f0
      simp [f0', unF, f19r10, retQ, outSt, f19rs, rvals, RArg.val, resPV]
      rw [bad (by simp [okIns, fitAt, numAt, f0'])]
    simp [f0, unF, hn, n1, encI, iI]
    refine pCall_pure (rfits_ct hP y.toNat q.b p.length) rfl rfl rfl ?_
    rw [hy]
    by_cases f1 : fitsF (sortAt q.op.toNat 1) q.b p.length = true
    case neg =>
      have f1' := Bool.eq_false_iff.2 f1
      simp [f1', unF, f19r10, retQ, outSt, f19rs, rvals, RArg.val, resPV]
      rw [bad (by simp [okIns, fitAt, numAt, f1'])]
    simp [f1, unF, hn, n2, encI, iI]
    refine pCall_pure (rfits_ct hP z.toNat q.c p.length) rfl rfl rfl ?_
    rw [hz]
    by_cases f2 : fitsF (sortAt q.op.toNat 2) q.c p.length = true
    case neg =>
      have f2' := Bool.eq_false_iff.2 f2
      simp [f2', unF, f19r10, retQ, outSt, f19rs, rvals, RArg.val, resPV]
      rw [bad (by simp [okIns, fitAt, numAt, f2'])]
    simp [f2, unF, f19r5, binF, binI, hw, keepSt]
    refine ⟨i + 1, ⟨by omega, next ?_⟩, by omega, rfl⟩
    simp [okIns, fitAt, numAt, f0, f1, f2]
    omega
  · simp at h
    have : i = p.length := by omega
    subst this
    rw [List.take_length] at hall
    simp [f19r11, retQ, outSt, f19rs, rvals, RArg.val, resPV, validF, hlen, iI]
    simpa using hall
end Go.Absw

/- Contracts of the table's Count and Value, and of the closure that sets a register. -/
namespace Go.Absw
open Go Go.Proofs
set_option maxRecDepth 100000

def encK (k : List (List Int)) : FV := .sl 1 (k.map fun r => [encL r])
def encW (w : List (List (List Int))) : FV := .sl 1 (w.map fun k => [encK k])
def countF (w : List (List (List Int))) (kind : Int) : Int := match nth w kind with
  | some k => k.length
  | none => 0
def valueF (w : List (List (List Int))) (kind index field : Int) : Int := match nth w kind with
  | some k => match nth k index with
    | some r => match nth r field with
      | some v => v
      | none => 0
    | none => 0
  | none => 0

theorem nth_none {α : Type} (l : List α) (i : Int) (h : i < 0 ∨ (l.length : Int) ≤ i) : nth l i = none := by
  unfold nth
  split
  · rw [List.getElem?_eq_none (by omega)]
  · rfl
theorem nth_some {α : Type} (l : List α) (i : Int) (h0 : ¬ i < 0) (h : ¬ (l.length : Int) ≤ i) : ∃ x, nth l i = some x ∧ x ∈ l := by
  have hlt : i.toNat < l.length := by omega
  refine ⟨l[i.toNat], ?_, List.getElem_mem hlt⟩
  unfold nth; rw [if_pos (by omega)]; simp [hlt]

theorem count_ct {G : Env} (hP : G.P = Tryd.prog) (w : List (List (List Int))) (kind : Int) : CT G 123 ⟨[.ag [.f (encW w)], .f (iI kind)], []⟩ ⟨.f (iI (countF w kind)), [], []⟩ := by
  refine ct_of_body (N := []) (pc := f123pc) (rs := f123rs) (by rw [hP]; exact f123ok) ?_
  rw [entry_mk]
  by_cases h : kind < 0
  · simp [f123pc, f123r0, f123r1, f123r2, iI, encW, binF, binI, h, retQ, outSt, f123rs, rvals, RArg.val, resPV, countF, nth_none w kind (.inl h)]
  by_cases h2 : (w.length : Int) ≤ kind
  · simp [f123pc, f123r0, f123r1, f123r2, iI, encW, binF, binI, h, h2, retQ, outSt, f123rs, rvals, RArg.val, resPV, countF, nth_none w kind (.inr h2)]
  obtain ⟨k, hk, _⟩ := nth_some w kind h h2
  simp [f123pc, f123r0, f123r1, f123r3, iI, encW, binF, binI, h, h2, retQ, outSt, f123rs, rvals, RArg.val, resPV, countF, hk, nth_map, encK]

theorem value_ct {G : Env} (hP : G.P = Tryd.prog) (w : List (List (List Int))) (kind index field : Int) :
    CT G 124 ⟨[.ag [.f (encW w)], .f (iI kind), .f (iI index), .f (iI field)], []⟩ ⟨.f (iI (valueF w kind index field)), [], []⟩ := by
  refine ct_of_body (N := []) (pc := f124pc) (rs := f124rs) (by rw [hP]; exact f124ok) ?_
  rw [entry_mk]
  by_cases h : kind < 0
  · simp [f124pc, f124r0, f124r1, f124r2, iI, encW, binF, binI, h, retQ, outSt, f124rs, rvals, RArg.val, resPV, valueF, nth_none w kind (.inl h)]
  by_cases h2 : (w.length : Int) ≤ kind
  · simp [f124pc, f124r0, f124r1, f124r2, iI, encW, binF, binI, h, h2, retQ, outSt, f124rs, rvals, RArg.val, resPV, valueF, nth_none w kind (.inr h2)]
  obtain ⟨k, hk, _⟩ := nth_some w kind h h2
  by_cases h3 : index < 0
  · simp [f124pc, f124r0, f124r1, f124r2, iI, encW, binF, binI, h, h2, h3, retQ, outSt, f124rs, rvals, RArg.val, resPV, valueF, hk, nth_none k index (.inl h3)]
  by_cases h4 : field < 0
  · have : valueF w kind index field = 0 := by
      unfold valueF; rw [hk]; simp only
      cases nth k index with
      | none => rfl
      | some r => simp only [nth_none r field (.inl h4)]
    simp [f124pc, f124r0, f124r1, f124r2, iI, encW, binF, binI, h, h2, h3, h4, retQ, outSt, f124rs, rvals, RArg.val, resPV, this]
  by_cases h5 : (k.length : Int) ≤ index
  · simp [f124pc, f124r0, f124r1, f124r3, f124r4, iI, encW, binF, binI, h, h2, h3, h4, h5, retQ, outSt, f124rs, rvals, RArg.val, resPV, valueF, hk, nth_map, encK, nth_none k index (.inr h5)]
  obtain ⟨r, hr, _⟩ := nth_some k index h3 h5
  by_cases h6 : (r.length : Int) ≤ field
  · simp [f124pc, f124r0, f124r1, f124r3, f124r5, f124r6, iI, encW, binF, binI, h, h2, h3, h4, h5, h6, retQ, outSt, f124rs, rvals, RArg.val, resPV, valueF, hk, nth_map, encK, encL, hr, nth_none r field (.inr h6)]
  obtain ⟨v, hv, _⟩ := nth_some r field h4 h6
  simp [f124pc, f124r0, f124r1, f124r3, f124r5, f124r7, iI, encW, binF, binI, h, h2, h3, h4, h5, h6, retQ, outSt, f124rs, rvals, RArg.val, resPV, valueF, hk, nth_map, encK, encL, hr, hv]

/-- Numbers as a variable's cells. -/
def regV (r : List Int) : List PV := r.map fun n => .f (iI n)
@[simp] theorem regV_len (r : List Int) : (regV r).length = r.length := by simp [regV]
@[simp] theorem dnL_regV (m : Nat → Option (Nat × Nat × Nat)) (r : List Int) : dnL m (regV r) = regV r := dnL_map_g m iI r
@[simp] theorem upL_regV (m : Nat → Option (Nat × Nat)) (r : List Int) : upL m (regV r) = regV r := upL_map_g m iI r
theorem regV_set (r : List Int) (k : Nat) (v : Int) (h : k < r.length) : List.take k (regV r) ++ PV.f (.int .i64 v) :: List.drop (k + 1) (regV r) = regV (r.set k v) := by
  unfold regV
  rw [List.map_set, List.set_eq_take_append_cons_drop, if_pos (by simpa using h)]; rfl
/-- The register is set. -/
theorem set_ct {G : Env} (hP : G.P = Tryd.prog) (v : Int) (r : List Int) (i : Ins) (hr : r.length = 8) (ha : 0 ≤ i.a ∧ i.a < 8) (t1 t2 : TypeId) :
    CT G 40 ⟨[.f (.int .i64 v), .ptr 0 0 0 0, .ptr 1 0 0 0], [.box t1 false (regV r), .box t2 false [.f (.int .i64 i.op), .f (.int .i64 i.a), .f (.int .i64 i.b), .f (.int .i64 i.c)]]⟩
      ⟨.tup [], [⟨0, .box t1 false (regV (r.set i.a.toNat v))⟩, ⟨0, .box t2 false [.f (.int .i64 i.op), .f (.int .i64 i.a), .f (.int .i64 i.b), .f (.int .i64 i.c)]⟩], []⟩ := by
  refine ct_of_body (N := []) (pc := f40pc) (rs := f40rs) (by rw [hP]; exact f40ok) ?_
  rw [entry_mk]
  have h1 : i.a.toNat + 1 ≤ 8 := by omega
  have hs := regV_set r i.a.toNat v (by omega)
  simp [f40pc, f40r0, ha, hr, h1, hs, retQ, outSt, f40rs, rvals, resPV, List.range_succ]
end Go.Absw

/- Schemas as data; contracts of vm.named and what it calls. -/
namespace Go.Absw
open Go Go.Proofs
set_option maxRecDepth 100000

structure FieldD where
  name : List UInt8
  of : List UInt8
  up : List UInt8
  kind : Int
  lo : Int
  hi : Int
  words : List (List UInt8)
  weights : List Int
  deriving DecidableEq, Inhabited
structure KindD where
  name : List UInt8
  lo : Int
  hi : Int
  fields : List FieldD
  deriving DecidableEq, Inhabited
structure LifeD where
  name : List UInt8
  states : List (List UInt8)
  moves : List (Int × Int)
  deriving DecidableEq, Inhabited
structure RuleD where
  name : List UInt8
  kind : List UInt8
  a : List UInt8
  b : List UInt8
  n : Int
  deriving DecidableEq, Inhabited
structure Sch where
  version : Int
  kinds : List KindD
  lives : List LifeD
  rules : List RuleD
  deriving DecidableEq, Inhabited
def encS (l : List (List UInt8)) : FV := .sl 1 (l.map fun s => [.str s])
def encF (f : FieldD) : List FV := [.str f.name, .str f.of, .str f.up, iI f.kind, iI f.lo, iI f.hi, encS f.words, encL f.weights]
def encLi (x : LifeD) : List FV := [.str x.name, encS x.states, .sl 2 (x.moves.map fun m => [iI m.1, iI m.2])]
def encRu (r : RuleD) : List FV := [.str r.name, .str r.kind, .str r.a, .str r.b, iI r.n]
def encKd (k : KindD) : List FV := [.str k.name, iI k.lo, iI k.hi, .sl 8 (k.fields.map encF)]
def encX (x : Sch) : List FV := [iI x.version, .sl 4 (x.kinds.map encKd), .sl 3 (x.lives.map encLi), .sl 5 (x.rules.map encRu)]
def fieldsOf (x : Sch) (b : Int) : Int := match nth x.kinds b with
  | some k => k.fields.length
  | none => 0
/-- The instruction does not fit the schema. -/
def badIns (x : Sch) (i : Ins) : Bool := (decide (i.op = 4) || decide (i.op = 5)) && (decide ((x.kinds.length : Int) ≤ i.b) || (decide (i.op = 5) && decide (fieldsOf x i.b ≤ i.c)))

theorem bad_ct {G : Env} (hP : G.P = Tryd.prog) (x : Sch) (i : Ins) (hb : i.op = 4 ∨ i.op = 5 → 0 ≤ i.b) :
    CT G 71 ⟨[.ag ((encI i).map .f), .ptr 0 0 0 0], [.box 27 false ((encX x).map .f)]⟩ ⟨.f (.bool (badIns x i)), [⟨0, .box 27 false ((encX x).map .f)⟩], []⟩ := by
  refine ct_of_body (N := []) (pc := f71pc) (rs := f71rs) (by rw [hP]; exact f71ok) ?_
  rw [entry_mk]
  by_cases h4 : i.op = 4
  · have hb0 := hb (.inl h4)
    by_cases h : (x.kinds.length : Int) ≤ i.b
    · simp [f71pc, f71r0, f71r1, f71r3, binF, binI, encI, encX, iI, h4, h, retQ, outSt, f71rs, rvals, RArg.val, resPV, badIns, List.range_succ]
    · simp [f71pc, f71r0, f71r1, f71r3, binF, binI, encI, encX, iI, h4, h, retQ, outSt, f71rs, rvals, RArg.val, resPV, badIns, List.range_succ]
  by_cases h5 : i.op = 5
  · have hb0 := hb (.inr h5)
    by_cases h : (x.kinds.length : Int) ≤ i.b
    · simp [f71pc, f71r0, f71r1, f71r3, binF, binI, encI, encX, iI, h4, h5, h, retQ, outSt, f71rs, rvals, RArg.val, resPV, badIns, List.range_succ]
    · obtain ⟨k, hk, _⟩ := nth_some x.kinds i.b (by omega) h
      have hk' : nth (x.kinds.map encKd) i.b = some (encKd k) := by rw [nth_map, hk]; rfl
      have hf : fieldsOf x i.b = k.fields.length := by unfold fieldsOf; rw [hk]
      by_cases hc : (k.fields.length : Int) ≤ i.c
      · simp [f71pc, f71r0, f71r1, f71r3, binF, binI, encI, encX, iI, h4, h5, h, hk', encKd, hc, retQ, outSt, f71rs, rvals, RArg.val, resPV, badIns, hf, List.range_succ]
      · simp [f71pc, f71r0, f71r1, f71r3, binF, binI, encI, encX, iI, h4, h5, h, hk', encKd, hc, retQ, outSt, f71rs, rvals, RArg.val, resPV, badIns, hf, List.range_succ]
  · simp [f71pc, f71r0, f71r1, f71r2, binF, binI, encI, encX, iI, h4, h5, retQ, outSt, f71rs, rvals, RArg.val, resPV, badIns, List.range_succ]

def badIx (x : Sch) : List Ins → Nat → Int
  | [], _ => -1
  | i :: r, n => if badIns x i = true then n else badIx x r (n + 1)
theorem badIx_any (x : Sch) : ∀ (p : List Ins) (n : Nat), decide (0 ≤ badIx x p n) = p.any (badIns x)
  | [], n => by simp [badIx]
  | i :: r, n => by
    have ih := badIx_any x r (n + 1)
    by_cases h : badIns x i = true
    · have e : badIx x (i :: r) n = n := by simp [badIx, h]
      simp [e, h]
    · have e : badIx x (i :: r) n = badIx x r (n + 1) := by simp [badIx, h]
      simp only [e, ih, List.any_cons, Bool.eq_false_iff.2 h, Bool.false_or]

theorem indexFunc_ct {G : Env} (hP : G.P = Tryd.prog) (x : Sch) (p : List Ins) (hl : p.length < 1000000) (hb : ∀ i ∈ p, i.op = 4 ∨ i.op = 5 → 0 ≤ i.b) :
    CT G 78 ⟨[.f (encP p), .fn (.func 71) [] [.ptr 0 0 0 0]], [.box 27 false ((encX x).map .f)]⟩ ⟨.f (iI (badIx x p 0)), [⟨0, .box 27 false ((encX x).map .f)⟩], []⟩ := by
  refine ct_of_body (N := []) (pc := f78pc) (rs := f78rs) (by rw [hP]; exact f78ok) ?_
  rw [entry_mk]
  simp [f78pc, f78r0, f78r1, encP]
  unfold f78l0
  refine pwp_loop (α := Nat) (fun i => mkSt [(0, .f (encP p)), (1, .fn (.func 71) [] [.ptr 0 0 0 0]), (7, .f (iI p.length)), (8, .f (iI i))] [(0, ⟨0, .box 27 false ((encX x).map .f)⟩)])
    (fun i => i ≤ p.length ∧ badIx x (p.drop i) i = badIx x p 0) (fun i => p.length - i) 0 (by simp) (by simp [keepSt, encP, iI]) ?_
  rintro i ⟨hi, hix⟩
  simp [f78r2, binF, binI, iI, encP]
  refine ccase_i (fun h => ?_) (fun h => ?_)
  · simp at h
    have hn : nth (p.map encI) (i : Int) = some (encI p[i]) := by simp [nth, h]
    have hd : p.drop i = p[i] :: p.drop (i + 1) := List.drop_eq_getElem_cons h
    rw [hd, badIx] at hix
    have hm : p[i] ∈ p := List.getElem_mem h
    have hw : IntKind.i64.wrap ((i : Int) + 1) = (i : Int) + 1 := w64 (by omega)
    generalize p[i] = q at hn hix hm
    have he : (encI q).length = 4 := rfl
    simp [f78r3, f78r4, hn, getN, he]
    refine pCall_tok (bad_ct hP x q (hb q hm)) rfl ?_ ⟨rfl, rfl⟩ ?_
    · simp [callInp, mDn, pos, List.take_of_length_le, he]
    · by_cases hq : badIns x q = true
      · rw [if_pos hq] at hix
        simp [newT, pos, mUp, upC, hq, f78r5, retQ, outSt, f78rs, rvals, RArg.val, resPV, List.range_succ, hix]
      · rw [if_neg hq] at hix
        simp [newT, pos, mUp, upC, hq, f78r6, binF, binI, hw, keepSt]
        exact ⟨i + 1, ⟨by omega, hix⟩, by omega, rfl⟩
  · simp at h
    have : i = p.length := by omega
    subst this
    simp [badIx] at hix
    simp [f78r7, retQ, outSt, f78rs, rvals, RArg.val, resPV, List.range_succ, hix]

theorem containsFunc_ct {G : Env} (hP : G.P = Tryd.prog) (x : Sch) (p : List Ins) (hl : p.length < 1000000) (hb : ∀ i ∈ p, i.op = 4 ∨ i.op = 5 → 0 ≤ i.b) :
    CT G 70 ⟨[.f (encP p), .fn (.func 71) [] [.ptr 0 0 0 0]], [.box 27 false ((encX x).map .f)]⟩ ⟨.f (.bool (p.any (badIns x))), [⟨0, .box 27 false ((encX x).map .f)⟩], []⟩ := by
  refine ct_of_body (N := []) (pc := f70pc) (rs := f70rs) (by rw [hP]; exact f70ok) ?_
  rw [entry_mk]
  simp [f70pc, f70r0, f70r1, encP]
  refine pCall_tok (indexFunc_ct hP x p hl hb) rfl ?_ ⟨rfl, rfl⟩ ?_
  · simp [callInp, mDn, pos, encP]
  · have := badIx_any x p 0
    simp [newT, pos, mUp, upC, binF, binI, iI, retQ, outSt, f70rs, rvals, RArg.val, resPV, List.range_succ, this]

theorem named_ct {G : Env} (hP : G.P = Tryd.prog) (x : Sch) (p : List Ins) (hl : p.length < 1000000) (hb : ∀ i ∈ p, i.op = 4 ∨ i.op = 5 → 0 ≤ i.b) :
    CT G 39 ⟨[.ag ((encX x).map .f), .f (encP p)], []⟩ ⟨.f (.bool !(p.any (badIns x))), [], []⟩ := by
  refine ct_of_body (N := []) (pc := f39pc) (rs := f39rs) (by rw [hP]; exact f39ok) ?_
  rw [entry_mk]
  have he : (encX x).length = 4 := rfl
  simp [f39pc, f39r0, f39r1, encP, he]
  refine pCall_tok (containsFunc_ct hP x p hl hb) rfl ?_ ⟨rfl, rfl⟩ ?_
  · simp [callInp, mDn, pos, encP]
  · simp [newT, pos, mUp, upC, unF, retQ, outSt, f39rs, rvals, RArg.val, resPV, List.range_succ]
end Go.Absw

/- Contract of dioramaref29.Named. -/
namespace Go.Absw
open Go Go.Proofs
set_option maxRecDepth 100000

theorem rnamed_ct {G : Env} (hP : G.P = Tryd.prog) (x : Sch) (p : List Ins) (hl : p.length < 1000000) (hb : ∀ i ∈ p, i.op = 4 ∨ i.op = 5 → 0 ≤ i.b) :
    CT G 41 ⟨[.ag ((encX x).map .f), .f (encP p)], []⟩ ⟨.f (.bool !(p.any (badIns x))), [], []⟩ := by
  refine ct_of_body (N := []) (pc := f41pc) (rs := f41rs) (by rw [hP]; exact f41ok) ?_
  rw [entry_mk]
  have he : (encX x).length = 4 := rfl
  simp [f41pc, f41r0, f41r1, encP, he]
  unfold f41l0
  refine pwp_loop (α := Nat) (fun i => mkSt [(1, .f (encP p)), (2, .ptr 102 0 0 0), (5, .f (iI i))] [(102, ⟨0, .box 27 false ((encX x).map .f)⟩)])
    (fun i => i ≤ p.length ∧ (p.drop i).any (badIns x) = p.any (badIns x)) (fun i => p.length - i) 0 (by simp) (by simp [keepSt, encP, iI]) ?_
  rintro i ⟨hi, hix⟩
  simp [f41r2, binF, binI, iI, encP]
  refine ccase_i (fun h => ?_) (fun h => ?_)
  · simp at h
    have hn : nth (p.map encI) (i : Int) = some (encI p[i]) := by simp [nth, h]
    have hd : p.drop i = p[i] :: p.drop (i + 1) := List.drop_eq_getElem_cons h
    rw [hd, List.any_cons] at hix
    have hm : p[i] ∈ p := List.getElem_mem h
    have hw : IntKind.i64.wrap ((i : Int) + 1) = (i : Int) + 1 := w64 (by omega)
    generalize p[i] = q at hn hix hm
    have next : badIns x q = false → ∃ b, (b ≤ p.length ∧ ((p.drop b).any (badIns x) = p.any (badIns x))) ∧ p.length - b < p.length - i ∧ (b : Int) = (i : Int) + 1 := by
      intro hq
      rw [hq, Bool.false_or] at hix
      exact ⟨i + 1, ⟨by omega, hix⟩, by omega, by simp⟩
    by_cases h45 : q.op = 4 ∨ q.op = 5
    case neg =>
      have h4 : q.op ≠ 4 := fun e => h45 (.inl e)
      have h5 : q.op ≠ 5 := fun e => h45 (.inr e)
      obtain ⟨b, h1, h2, h3⟩ := next (by simp [badIns, h4, h5])
      simp [f41r4, binF, binI, encI, iI, hn, h4, h5, f41r3, hw, keepSt]
      exact ⟨b, by simpa using h1, h2, by rw [h3]⟩
    have hb0 := hb q hm h45
    have e4 : (q.op ≠ 4 ∧ q.op = 5) ∨ q.op = 4 := by omega
    by_cases hk : (x.kinds.length : Int) ≤ q.b
    · have hq : badIns x q = true := by
        rcases h45 with e | e <;> simp [badIns, e, hk]
      rw [hq, Bool.true_or] at hix
      rcases e4 with ⟨h4, h5⟩ | h4
      · simp [f41r4, f41r5, f41r6, binF, binI, encI, encX, iI, hn, h4, h5, hk, retQ, outSt, f41rs, rvals, RArg.val, resPV, ← hix]
      · simp [f41r4, f41r5, f41r6, binF, binI, encI, encX, iI, hn, h4, hk, retQ, outSt, f41rs, rvals, RArg.val, resPV, ← hix]
    rcases e4 with ⟨h4, h5⟩ | h4
    · obtain ⟨k, hkk, _⟩ := nth_some x.kinds q.b (by omega) hk
      have hk' : nth (x.kinds.map encKd) q.b = some (encKd k) := by rw [nth_map, hkk]; rfl
      have hf : fieldsOf x q.b = k.fields.length := by unfold fieldsOf; rw [hkk]
      by_cases hc : (k.fields.length : Int) ≤ q.c
      · have hq : badIns x q = true := by simp [badIns, h5, hf, hc]
        rw [hq, Bool.true_or] at hix
        simp [f41r4, f41r5, f41r7, f41r8, binF, binI, encI, encX, iI, hn, h4, h5, hk, hk', encKd, hc, retQ, outSt, f41rs, rvals, RArg.val, resPV, ← hix]
      · obtain ⟨b, h1, h2, h3⟩ := next (by simp [badIns, h5, hf, hc, hk])
        simp [f41r4, f41r5, f41r7, binF, binI, encI, encX, iI, hn, h4, h5, hk, hk', encKd, hc, f41r3, hw, keepSt]
        exact ⟨b, by simpa using h1, h2, by rw [h3]⟩
    · obtain ⟨b, h1, h2, h3⟩ := next (by simp [badIns, h4, hk])
      simp [f41r4, f41r5, f41r7, binF, binI, encI, encX, iI, hn, h4, hk, f41r3, hw, keepSt]
      exact ⟨b, by simpa using h1, h2, by rw [h3]⟩
  · simp at h
    have : i = p.length := by omega
    subst this
    simp at hix
    simp [f41r9, retQ, outSt, f41rs, rvals, RArg.val, resPV]
    simpa using hix
end Go.Absw

/- What a program's run comes to, for vm.Run and for the reference. -/
namespace Go.Absw
open Go Go.Proofs
set_option maxRecDepth 100000

abbrev Wd := List (List (List Int))
def reg (r : List Int) (i : Int) : Int := (nth r i).getD 0
inductive Stp1 where
  | stop (code : Int)
  | next (r : List Int) (pc : Int)
def stepF (w : Wd) (r : List Int) (i : Ins) (pc : Int) : Stp1 :=
  if i.op = 0 then .stop i.a
  else if i.op = 1 then .next (r.set i.a.toNat i.b) pc
  else if i.op = 2 then .next (r.set i.a.toNat (IntKind.i64.wrap (reg r i.b + reg r i.c))) pc
  else if i.op = 3 then .next (r.set i.a.toNat (IntKind.i64.wrap (reg r i.b - reg r i.c))) pc
  else if i.op = 4 then .next (r.set i.a.toNat (countF w i.b)) pc
  else if i.op = 5 then (if reg r i.a < 0 ∨ countF w i.b ≤ reg r i.a then .stop 251 else .next (r.set i.a.toNat (valueF w i.b (reg r i.a) i.c)) pc)
  else if i.op = 6 then .next r i.a
  else if i.op = 7 then .next r (if reg r i.a < reg r i.b then i.c else pc)
  else .next r (if reg r i.a = reg r i.b then i.c else pc)
/-- The code, the steps, the error. -/
def runS (w : Wd) (p : List Ins) : Nat → List Int → Int → Int → Int × Int × Int
  | 0, r, pc, n => if pc = p.length then (0, n, 0) else (0, 0, 23)
  | rem + 1, r, pc, n => if pc = p.length then (0, n, 0) else match nth p pc with
    | none => (0, 0, 0)
    | some i => match stepF w r i (pc + 1) with
      | .stop code => (code, n + 1, 0)
      | .next r' pc' => runS w p rem r' pc' (n + 1)
def runF (x : Sch) (p : List Ins) (w : Wd) (most : Int) : Int × Int × Int :=
  if validF p ≠ 0 then (0, 0, validF p) else if most < 0 ∨ 1000000 < most then (0, 0, 4) else if p.any (badIns x) = true then (0, 0, 12) else runS w p most.toNat (List.replicate 8 0) 0 0
def runOut (t : Int × Int × Int) : Out := ⟨.tup [.ag [.f (iI t.1), .f (iI t.2.1)], .f (iI t.2.2)], [], []⟩

theorem valid_ok {p : List Ins} (h : validF p = 0) : p.length ≤ 128 ∧ ∀ i ∈ p, okIns p.length i = true := by
  unfold validF at h
  split at h
  · cases h
  · split at h
    · rename_i h1 h2; exact ⟨by omega, List.all_eq_true.1 h2⟩
    · cases h
/-- The numbers of a right instruction. -/
theorem ok_nums {n : Int} {i : Ins} (h : okIns n i = true) : (0 ≤ i.op ∧ i.op < 9) ∧ (i.op = 1 ∨ i.op = 2 ∨ i.op = 3 ∨ i.op = 4 ∨ i.op = 5 ∨ i.op = 7 ∨ i.op = 8 → 0 ≤ i.a ∧ i.a < 8) ∧ (i.op = 2 ∨ i.op = 3 ∨ i.op = 7 ∨ i.op = 8 → 0 ≤ i.b ∧ i.b < 8) ∧
    (i.op = 2 ∨ i.op = 3 → 0 ≤ i.c ∧ i.c < 8) ∧ (i.op = 4 ∨ i.op = 5 → 0 ≤ i.b ∧ i.b < 6) ∧ (i.op = 5 → 0 ≤ i.c ∧ i.c < 10) ∧ (i.op = 6 → 0 ≤ i.a ∧ i.a ≤ n) ∧ (i.op = 7 ∨ i.op = 8 → 0 ≤ i.c ∧ i.c ≤ n) := by
  simp only [okIns, Bool.and_eq_true, decide_eq_true_eq] at h
  obtain ⟨⟨h0, h9⟩, ⟨ha, hb⟩, hc⟩ := h
  have key : ∀ m : Nat, i.op = m → m < 9 → fitsF (sortAt m 0) i.a n = true ∧ fitsF (sortAt m 1) i.b n = true ∧ fitsF (sortAt m 2) i.c n = true := by
    intro m hm _
    have : i.op.toNat = m := by omega
    simp only [fitAt, this, numAt] at ha hb hc
    exact ⟨ha, hb, hc⟩
  have k1 := key 1; have k2 := key 2; have k3 := key 3; have k4 := key 4; have k5 := key 5; have k6 := key 6; have k7 := key 7; have k8 := key 8
  simp [sortAt, sortTab, fitsF, bnd] at k1 k2 k3 k4 k5 k6 k7 k8
  refine ⟨⟨h0, h9⟩, fun h => ?_, fun h => ?_, fun h => ?_, fun h => ?_, fun h => ?_, fun h => ?_, fun h => ?_⟩ <;> omega
end Go.Absw

/- Contract of vm.Run. -/
namespace Go.Absw
open Go Go.Proofs
set_option maxRecDepth 100000

theorem run_ct {G : Env} (hP : G.P = Tryd.prog) (x : Sch) (p : List Ins) (w : Wd) (most : Int) (hl : p.length < 1000000) (hm : In64 most) :
    CT G 14 ⟨[.ag ((encX x).map .f), .f (encP p), .f (.ifa 46 [encW w]), .f (iI most)], []⟩ (runOut (runF x p w most)) := by
  refine ct_of_body (N := []) (pc := f14pc) (rs := f14rs) (by rw [hP]; exact f14ok) ?_
  rw [entry_mk]
  have he : (encX x).length = 4 := rfl
  simp [f14pc, f14r0, f14r1, he, encP]
  refine pCall_pure (valid_ct hP p hl) rfl rfl rfl ?_
  by_cases hv : validF p = 0
  case neg =>
    have hrun : runF x p w most = (0, 0, validF p) := by unfold runF; rw [if_pos hv]
    simp [f14r2, f14r3, hv, binF, binI, iI, retQ, outSt, f14rs, rvals, RArg.val, ptrFoot, getN, resPV, runOut, hrun]
  simp [f14r2, hv, binF, binI, iI]
  by_cases hm1 : most < 0
  · have hrun : runF x p w most = (0, 0, 4) := by unfold runF; rw [if_neg (by omega), if_pos (.inl hm1)]
    simp [f14r4, f14r5, hm1, binF, binI, iI, retQ, outSt, f14rs, rvals, RArg.val, ptrFoot, getN, resPV, runOut, hrun]
  by_cases hm2 : 1000000 < most
  · have hrun : runF x p w most = (0, 0, 4) := by unfold runF; rw [if_neg (by omega), if_pos (.inr hm2)]
    simp [f14r4, f14r5, hm1, hm2, binF, binI, iI, retQ, outSt, f14rs, rvals, RArg.val, ptrFoot, getN, resPV, runOut, hrun]
  obtain ⟨hlen, hok⟩ := valid_ok hv
  have hb : ∀ i ∈ p, i.op = 4 ∨ i.op = 5 → 0 ≤ i.b := fun i hi h => ((ok_nums (hok i hi)).2.2.2.2.1 h).1
  simp [f14r4, hm1, hm2, binF, binI, iI, f14r6, getN, he, encX]
  refine pCall_pure (named_ct hP x p hl hb) rfl (by simp [encX, iI]) rfl ?_
  by_cases hbad : p.any (badIns x) = true
  · have hrun : runF x p w most = (0, 0, 12) := by unfold runF; rw [if_neg (by omega), if_neg (by omega), if_pos hbad]
    simp [unF, hbad, f14r7, binF, binI, iI, retQ, outSt, f14rs, rvals, RArg.val, ptrFoot, getN, resPV, runOut, hrun]
  have hbad' : p.any (badIns x) = false := Bool.eq_false_iff.2 hbad
  have hrun : runF x p w most = runS w p most.toNat (List.replicate 8 0) 0 0 := by unfold runF; rw [if_neg (by omega), if_neg (by omega), if_neg hbad]
  simp [unF, hbad', f14r8, f14r9, f14r10]
  unfold f14l0
  refine pwp_loop (α := Nat × List Int × Nat × Int) (fun s => mkSt [(1, .f (encP p)), (2, .f (.ifa 46 [encW w])), (3, .f (iI most)), (8, .ptr 108 0 0 0), (11, .ptr 111 0 0 0), (12, .f (iI s.2.2.1)), (13, .f (iI s.2.2.2))]
      [(108, ⟨0, .box 38 false [.f (iI 0), .f (iI 0)]⟩), (111, ⟨0, .box 103 false (regV s.2.1)⟩)])
    (fun s => s.2.1.length = 8 ∧ s.2.2.1 ≤ p.length ∧ (s.1 : Int) + s.2.2.2 = most ∧ 0 ≤ s.2.2.2 ∧ runS w p s.1 s.2.1 s.2.2.1 s.2.2.2 = runF x p w most) (fun s => s.1) (most.toNat, List.replicate 8 0, 0, 0)
    ⟨by simp, by simp, by simp; omega, by simp, by rw [hrun]; rfl⟩ (by simp [keepSt, encP, iI, regV, List.replicate]) ?_
  rintro ⟨rem, r, pc, n⟩ ⟨hr, hpc, hrem, hn0, hres⟩
  simp only at hr hpc hrem hn0 hres
  by_cases hend : pc = p.length
  · have : runF x p w most = (0, n, 0) := by rw [← hres]; subst hend; cases rem <;> simp [runS]
    subst hend
    simp [f14r12, f14r13, binF, binI, iI, encP, retQ, outSt, f14rs, rvals, RArg.val, ptrFoot, getN, resPV, runOut, this]
  have hend' : ¬ (pc : Int) = p.length := by omega
  cases rem with
  | zero =>
    have hnm : n = most := by omega
    have : runF x p w most = (0, 0, 23) := by rw [← hres]; simp [runS, hend']
    simp [f14r12, f14r14, f14r15, binF, binI, iI, encP, hend', hnm, retQ, outSt, f14rs, rvals, RArg.val, ptrFoot, getN, resPV, runOut, this]
  | succ rem =>
  have hnm : ¬ n = most := by omega
  have hlt : pc < p.length := by omega
  have hn : nth p (pc : Int) = some p[pc] := by simp [nth, hlt]
  have hn' : nth (p.map encI) (pc : Int) = some (encI p[pc]) := by rw [nth_map, hn]; rfl
  have hnums := ok_nums (hok _ (List.getElem_mem hlt))
  simp only [runS, if_neg hend', hn] at hres
  generalize p[pc] = q at hn hn' hnums hres
  have hw1 : IntKind.i64.wrap ((pc : Int) + 1) = (pc : Int) + 1 := w64 (by omega)
  have hw2 : IntKind.i64.wrap (n + 1) = n + 1 := w64 (by unfold In64 at hm; omega)
  simp [f14r12, f14r14, f14r16, f14r17, f14r18, f14r19, binF, binI, iI, encP, encI, hend', hnm, hn', getN, hw1]
  -- the instruction, by its operation
  by_cases o0 : q.op = 0
  · have hs : runF x p w most = (q.a, n + 1, 0) := by rw [← hres]; simp [stepF, o0]
    simp [f14r20, f14r21, binF, binI, iI, encP, o0, hw2, retQ, outSt, f14rs, rvals, RArg.val, ptrFoot, getN, resPV, runOut, hs]
  have hreg : ∀ j : Int, 0 ≤ j ∧ j < 8 → (regV r)[j.toNat]? = some (.f (.int .i64 (reg r j))) := by
    intro j hj
    have hlt : j.toNat < r.length := by omega
    have : nth r j = some r[j.toNat] := by unfold nth; rw [if_pos hj.1]; simp [hlt]
    simp [reg, this, hlt, regV, iI]
  by_cases o1 : q.op = 1
  · have ha := hnums.2.1 (.inl o1)
    have hs : stepF w r q (pc + 1) = .next (r.set q.a.toNat q.b) (pc + 1) := by simp [stepF, o1]
    rw [hs] at hres
    simp [f14r20, f14r22, f14r23, binF, binI, iI, encP, o0, o1]
    refine pCall_tok (set_ct hP q.b r q hr ha 103 104) rfl ?_ ⟨rfl, rfl⟩ ?_
    · simp [callInp, mDn, pos, encI, iI, o1]
    · simp [newT, pos, mUp, upC, f14r11, binF, binI, iI, hw2, keepSt, encP]
      exact ⟨rem, _, pc + 1, _, ⟨by simp [hr], by omega, by omega, by omega, hres⟩, by omega, rfl⟩
  by_cases o2 : q.op = 2
  · have ha := hnums.2.1 (by omega)
    have hb' := hnums.2.2.1 (by omega)
    have hc' := hnums.2.2.2.1 (by omega)
    have hs : stepF w r q (pc + 1) = .next (r.set q.a.toNat (IntKind.i64.wrap (reg r q.b + reg r q.c))) (pc + 1) := by simp [stepF, o2]
    rw [hs] at hres
    simp [f14r20, f14r22, f14r24, f14r25, binF, binI, iI, encP, o2, hb', hc', hreg _ hb', hreg _ hc']
    refine pCall_tok (set_ct hP (IntKind.i64.wrap (reg r q.b + reg r q.c)) r q hr ha 103 104) rfl ?_ ⟨rfl, rfl⟩ ?_
    · simp [callInp, mDn, pos, encI, iI, o2]
    · simp [newT, pos, mUp, upC, f14r11, binF, binI, iI, hw2, keepSt, encP]
      exact ⟨rem, _, pc + 1, _, ⟨by simp [hr], by omega, by omega, by omega, hres⟩, by omega, rfl⟩
  by_cases o3 : q.op = 3
  · have ha := hnums.2.1 (by omega)
    have hb' := hnums.2.2.1 (by omega)
    have hc' := hnums.2.2.2.1 (by omega)
    have hs : stepF w r q (pc + 1) = .next (r.set q.a.toNat (IntKind.i64.wrap (reg r q.b - reg r q.c))) (pc + 1) := by simp [stepF, o3]
    rw [hs] at hres
    simp [f14r20, f14r22, f14r24, f14r26, f14r27, binF, binI, iI, encP, o3, hb', hc', hreg _ hb', hreg _ hc']
    refine pCall_tok (set_ct hP (IntKind.i64.wrap (reg r q.b - reg r q.c)) r q hr ha 103 104) rfl ?_ ⟨rfl, rfl⟩ ?_
    · simp [callInp, mDn, pos, encI, iI, o3]
    · simp [newT, pos, mUp, upC, f14r11, binF, binI, iI, hw2, keepSt, encP]
      exact ⟨rem, _, pc + 1, _, ⟨by simp [hr], by omega, by omega, by omega, hres⟩, by omega, rfl⟩
  by_cases o4 : q.op = 4
  · have ha := hnums.2.1 (by omega)
    have hs : stepF w r q (pc + 1) = .next (r.set q.a.toNat (countF w q.b)) (pc + 1) := by simp [stepF, o4]
    rw [hs] at hres
    simp [f14r20, f14r22, f14r24, f14r26, f14r28, f14r29, binF, binI, iI, encP, o4]
    refine pCall_pure (count_ct hP w q.b) rfl (by simp [iI]) rfl ?_
    simp [iI]
    refine pCall_tok (set_ct hP (countF w q.b) r q hr ha 103 104) rfl ?_ ⟨rfl, rfl⟩ ?_
    · simp [callInp, mDn, pos, encI, iI, o4]
    · simp [newT, pos, mUp, upC, f14r11, binF, binI, iI, hw2, keepSt, encP]
      exact ⟨rem, _, pc + 1, _, ⟨by simp [hr], by omega, by omega, by omega, hres⟩, by omega, rfl⟩
  by_cases o6 : q.op = 6
  · have ha := hnums.2.2.2.2.2.2.1 (by omega)
    have hs : stepF w r q (pc + 1) = .next r q.a := by simp [stepF, o6]
    rw [hs] at hres
    simp [f14r20, f14r22, f14r24, f14r26, f14r28, f14r30, f14r34, f14r35, binF, binI, iI, encP, o6, f14r11, hw2, keepSt]
    exact ⟨rem, r, q.a.toNat, n + 1, ⟨hr, by omega, by omega, by omega, by rw [Int.toNat_of_nonneg ha.1]; exact hres⟩, by omega, by rw [Int.toNat_of_nonneg ha.1]⟩
  by_cases o7 : q.op = 7
  · have ha := hnums.2.1 (by omega)
    have hb' := hnums.2.2.1 (by omega)
    have hc := hnums.2.2.2.2.2.2.2 (by omega)
    have hs : stepF w r q (pc + 1) = .next r (if reg r q.a < reg r q.b then q.c else pc + 1) := by simp [stepF, o7]
    rw [hs] at hres
    by_cases hlt' : reg r q.a < reg r q.b
    · rw [if_pos hlt'] at hres
      simp [f14r20, f14r22, f14r24, f14r26, f14r28, f14r30, f14r34, f14r36, f14r37, f14r38, binF, binI, iI, encP, o7, ha, hb', hreg _ ha, hreg _ hb', hlt', f14r11, hw2, keepSt]
      exact ⟨rem, r, q.c.toNat, n + 1, ⟨hr, by omega, by omega, by omega, by rw [Int.toNat_of_nonneg hc.1]; exact hres⟩, by omega, by rw [Int.toNat_of_nonneg hc.1]⟩
    · rw [if_neg hlt'] at hres
      simp [f14r20, f14r22, f14r24, f14r26, f14r28, f14r30, f14r34, f14r36, f14r37, f14r38, binF, binI, iI, encP, o7, ha, hb', hreg _ ha, hreg _ hb', hlt', f14r11, hw2, keepSt]
      exact ⟨rem, r, pc + 1, n + 1, ⟨hr, by omega, by omega, by omega, hres⟩, by omega, rfl⟩
  by_cases o8 : q.op = 8
  · have ha := hnums.2.1 (by omega)
    have hb' := hnums.2.2.1 (by omega)
    have hc := hnums.2.2.2.2.2.2.2 (by omega)
    have hs : stepF w r q (pc + 1) = .next r (if reg r q.a = reg r q.b then q.c else pc + 1) := by simp [stepF, o8]
    rw [hs] at hres
    by_cases hlt' : reg r q.a = reg r q.b
    · rw [if_pos hlt'] at hres
      simp [f14r20, f14r22, f14r24, f14r26, f14r28, f14r30, f14r34, f14r36, f14r39, f14r40, f14r41, binF, binI, iI, encP, o8, ha, hb', hreg _ ha, hreg _ hb', hlt', f14r11, hw2, keepSt]
      exact ⟨rem, r, q.c.toNat, n + 1, ⟨hr, by omega, by omega, by omega, by rw [Int.toNat_of_nonneg hc.1]; exact hres⟩, by omega, by rw [Int.toNat_of_nonneg hc.1]⟩
    · rw [if_neg hlt'] at hres
      simp [f14r20, f14r22, f14r24, f14r26, f14r28, f14r30, f14r34, f14r36, f14r39, f14r40, f14r41, binF, binI, iI, encP, o8, ha, hb', hreg _ ha, hreg _ hb', hlt', f14r11, hw2, keepSt]
      exact ⟨rem, r, pc + 1, n + 1, ⟨hr, by omega, by omega, by omega, hres⟩, by omega, rfl⟩
  have o5 : q.op = 5 := by omega
  have ha := hnums.2.1 (by omega)
  by_cases hneg : reg r q.a < 0
  · have hs : runF x p w most = (251, n + 1, 0) := by rw [← hres]; simp [stepF, o5, hneg]
    simp [f14r20, f14r22, f14r24, f14r26, f14r28, f14r30, f14r31, f14r32, binF, binI, iI, encP, o5, ha, hreg _ ha, hneg, hw2, retQ, outSt, f14rs, rvals, RArg.val, ptrFoot, getN, resPV, runOut, hs]
  simp [f14r20, f14r22, f14r24, f14r26, f14r28, f14r30, f14r31, binF, binI, iI, encP, o5, ha, hreg _ ha, hneg]
  refine pCall_pure (count_ct hP w q.b) rfl (by simp [iI]) rfl ?_
  by_cases hbig : countF w q.b ≤ reg r q.a
  · have hs : runF x p w most = (251, n + 1, 0) := by rw [← hres]; simp [stepF, o5, hbig]
    simp [f14r32, binF, binI, iI, encP, hbig, hw2, retQ, outSt, f14rs, rvals, RArg.val, ptrFoot, getN, resPV, runOut, hs]
  have hs : stepF w r q (pc + 1) = .next (r.set q.a.toNat (valueF w q.b (reg r q.a) q.c)) (pc + 1) := by simp [stepF, o5, hneg, hbig]
  rw [hs] at hres
  simp [binF, binI, iI, encP, hbig, f14r33, ha, hreg _ ha, semR]
  refine pCall_pure (value_ct hP w q.b (reg r q.a) q.c) rfl (by simp [iI]) rfl ?_
  simp [iI]
  refine pCall_tok (set_ct hP (valueF w q.b (reg r q.a) q.c) r q hr ha 103 104) rfl ?_ ⟨rfl, rfl⟩ ?_
  · simp [callInp, mDn, pos, encI, iI, o5]
  · simp [newT, pos, mUp, upC, f14r11, binF, binI, iI, hw2, keepSt, encP]
    exact ⟨rem, _, pc + 1, _, ⟨by simp [hr], by omega, by omega, by omega, hres⟩, by omega, rfl⟩
end Go.Absw
