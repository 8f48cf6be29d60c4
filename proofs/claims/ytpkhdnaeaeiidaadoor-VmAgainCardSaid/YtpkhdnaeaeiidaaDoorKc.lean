/- The abstract machine, third part: regions, code, soundness, a contract from a body, step rules. Conditions: the checks. -/
import Derived.Test.YtpkhdnaeaeiidaaDoorKb
import Derived.Scope
set_option linter.unusedSimpArgs false
set_option linter.unusedVariables false

/- The abstract machine, its twenty-fourth part: a region's operations in the text's order, and in any order that is let. Conditions: the check. -/
namespace Go.Absw
open Go

/-- What the walk through a region asks: each operation goes through, one after the other. -/
def pStep (G : Env) (po : POp) (K : St → Prop) (σ : St) : Prop := match po.k with
  | .call k A N => ∃ f as out σ', callee k (po.vals G σ) = some (f, as) ∧ CT G f (callInp σ A as) out ∧ stepCall σ A N po.dst out = some σ' ∧ K σ'
  | _ => ∃ σ', lstep G po σ = some σ' ∧ K σ'
def pOps (G : Env) : List POp → (St → Prop) → St → Prop
  | [], Q, σ => Q σ
  | po :: r, Q, σ => ∃ g, gval po σ = some g ∧ (g = false → pOps G r Q (σ.put po.dst (.tup []))) ∧ (g = true → pStep G po (pOps G r Q) σ)

theorem pStep_Lst {G : Env} {po : POp} {K : St → Prop} {σ : St} (hg : gval po σ = some true) (h : pStep G po K σ) : ∃ σ', Lst G po σ σ' ∧ K σ' := by
  unfold pStep at h
  split at h
  · rename_i k A N hk
    obtain ⟨f, as, out, σ', h1, h2, h3, h4⟩ := h
    exact ⟨σ', .call hg hk h1 h2 h3, h4⟩
  · obtain ⟨σ', h1, h2⟩ := h
    exact ⟨σ', .det hg h1, h2⟩

/-- The states on the way. -/
theorem pOps_chain {G : Env} {Q : St → Prop} : ∀ (ps : List POp) (σ : St), pOps G ps Q σ → ∃ s : Nat → St, s 0 = σ ∧ (∀ (i : Nat) po, ps[i]? = some po → Lst G po (s i) (s (i + 1))) ∧ Q (s ps.length)
  | [], σ, h => ⟨fun _ => σ, rfl, fun i po hi => by simp at hi, h⟩
  | po :: r, σ, h => by
    obtain ⟨g, hg, h0, h1⟩ := h
    have : ∃ σ', Lst G po σ σ' ∧ pOps G r Q σ' := by
      cases g with
      | false => exact ⟨_, .skip hg, h0 rfl⟩
      | true => exact pStep_Lst hg (h1 rfl)
    obtain ⟨σ', hl, hr⟩ := this
    obtain ⟨s, e0, hs, hq⟩ := pOps_chain r σ' hr
    refine ⟨fun i => match i with | 0 => σ | i + 1 => s i, rfl, fun i po' hi => ?_, hq⟩
    cases i with
    | zero =>
      simp at hi
      subst hi
      show Lst G po σ (s 0)
      rw [e0]; exact hl
    | succ i => exact hs i po' (by simpa using hi)

/-! ### text order -/
def chkOps (P : Program) (ops : Array Oper) (n : Nat) (ps : List POp) : Bool :=
  decide (ps.length = ops.size) && (List.range ps.length).all fun i => match ops[i]?, ps[i]? with
    | some o, some po => chkOp P ops n o po
    | _, _ => false

theorem chkOps_spec {P : Program} {ops : Array Oper} {n : Nat} {ps : List POp} (h : chkOps P ops n ps = true) :
    ps.length = ops.size ∧ ∀ i, i < ops.size → ∃ o po, ops[i]? = some o ∧ ps[i]? = some po ∧ chkOp P ops n o po = true := by
  simp only [chkOps, Bool.and_eq_true, decide_eq_true_eq, List.all_eq_true, List.mem_range] at h
  refine ⟨h.1, fun i hi => ?_⟩
  have := h.2 i (by rw [h.1]; exact hi)
  split at this
  · rename_i o po h1 h2; exact ⟨o, po, h1, h2, this⟩
  · cases this

section
variable {G : Env} {ops : Array Oper} {Q : Exit → Act → World → Prop}

theorem wpOps_chain {ps : List POp} {n : Nat} (hc : chkOps G.P ops n ps = true) {s : Nat → St} (hs : ∀ (i : Nat) po, ps[i]? = some po → Lst G po (s i) (s (i + 1))) :
    ∀ (m i : Nat), i + m = ops.size → ∀ (a : Act) (w : World) (C : Cells) (τ : Tau), Core G C τ (s i) a.tmps w → a.tmps.size = n →
      (∀ a' w' C' τ', Core G C' τ' (s ops.size) a'.tmps w' → a'.defers = a.defers → a'.tmps.size = a.tmps.size → Nxt τ (s i) C w τ' (s ops.size) C' w' → Q .normal a' w') →
      wpOps G.P ops Q ((List.range m).map (· + i)) a w := by
  obtain ⟨hlen, hall⟩ := chkOps_spec hc
  intro m
  induction m with
  | zero =>
    intro i hi a w C τ h hn hQ
    have : i = ops.size := by omega
    subst this
    simp only [List.range_zero, List.map_nil, wpOps]
    exact hQ a w C τ h rfl rfl (Nxt.refl ..)
  | succ m ih =>
    intro i hi a w C τ h hn hQ
    have hr : (List.range (m + 1)).map (· + i) = i :: (List.range m).map (· + (i + 1)) := by
      rw [List.range_succ_eq_map]
      simp only [List.map_cons, List.map_map, Nat.zero_add]
      congr 1
      exact List.map_congr_left fun x _ => by simp; omega
    rw [hr, wpOps_cons]
    obtain ⟨o, po, h1, h2, h3⟩ := hall i (by omega)
    refine opStep h1 (by rw [hn]; exact h3) h (hs i po h2) (fun a' w' C' τ' h' hd hsz hN => ?_)
    exact ih (i + 1) (by omega) a' w' C' τ' h' (by omega) (fun a2 w2 C2 τ2 h2 hd2 hs2 hN2 => hQ a2 w2 C2 τ2 h2 (hd2.trans hd) (hs2.trans hsz) (hN.trans hN2))

/-! ### any order -/
/-- Two operations that have nothing to do with one another. -/
def indep (x y : POp) : Bool :=
  (match x.dst with | some d => !y.rd.contains d && y.dst != some d | none => true) &&
  (match y.dst with | some d => !x.rd.contains d | none => true) &&
  x.wf.all (fun t => !y.foot.contains t) && y.wf.all (fun t => !x.foot.contains t) && y.wf.all (fun t => !x.wf.contains t)

theorem indep_spec {x y : POp} (h : indep x y = true) : (∀ d, x.dst = some d → d ∉ y.rd ∧ y.dst ≠ some d) ∧ (∀ d, y.dst = some d → d ∉ x.rd) ∧
    (∀ t ∈ x.wf, t ∉ y.foot) ∧ (∀ t ∈ y.wf, t ∉ x.foot) ∧ (∀ t ∈ y.wf, t ∉ x.wf) := by
  simp only [indep, Bool.and_eq_true, List.all_eq_true, Bool.not_eq_true', List.contains_eq_mem, decide_eq_false_iff_not] at h
  obtain ⟨⟨⟨⟨h1, h2⟩, h3⟩, h4⟩, h5⟩ := h
  refine ⟨fun d hd => ?_, fun d hd => ?_, h3, h4, h5⟩
  · rw [hd] at h1
    simpa using h1
  · rw [hd] at h2
    simpa using h2

/-- What the operation wrote in e, put upon σ. -/
def appd (po : POp) (e σ : St) : St := ⟨fun n => if po.dst = some n then e.sl n else σ.sl n, fun t => if po.wf.contains t then e.tk t else σ.tk t⟩
/-- The state after those of the first m operations that L names. -/
def SO (ps : List POp) (s : Nat → St) (L : Nat → Bool) : Nat → St
  | 0 => s 0
  | m + 1 => match ps[m]? with
    | some po => if L m then appd po (s (m + 1)) (SO ps s L m) else SO ps s L m
    | none => SO ps s L m

section
variable {ps : List POp} {s : Nat → St}

theorem SO_sl {L L' : Nat → Bool} {n : Nat} : ∀ m, (∀ (j : Nat) po, j < m → ps[j]? = some po → po.dst = some n → L j = L' j) → (SO ps s L m).sl n = (SO ps s L' m).sl n
  | 0, _ => rfl
  | m + 1, h => by
    have ih := SO_sl m fun j po hj => h j po (by omega)
    simp only [SO]
    split
    · rename_i po hpo
      by_cases hd : po.dst = some n
      · rw [h m po (by omega) hpo hd]
        cases L' m
        · exact ih
        · simp only [if_true, appd, if_pos hd]
      · have : ∀ b : Bool, ∀ x : St, (if b = true then appd po (s (m + 1)) x else x).sl n = x.sl n := by
          intro b x; cases b <;> simp [appd, hd]
        rw [this, this, ih]
    · exact ih
theorem SO_tk {L L' : Nat → Bool} {t : Nat} : ∀ m, (∀ (j : Nat) po, j < m → ps[j]? = some po → t ∈ po.wf → L j = L' j) → (SO ps s L m).tk t = (SO ps s L' m).tk t
  | 0, _ => rfl
  | m + 1, h => by
    have ih := SO_tk m fun j po hj => h j po (by omega)
    simp only [SO]
    split
    · rename_i po hpo
      by_cases hd : t ∈ po.wf
      · rw [h m po (by omega) hpo hd]
        cases L' m
        · exact ih
        · simp [appd, hd]
      · have : ∀ b : Bool, ∀ x : St, (if b = true then appd po (s (m + 1)) x else x).tk t = x.tk t := by
          intro b x; cases b <;> simp [appd, hd]
        rw [this, this, ih]
    · exact ih

theorem appd_self {po : POp} {σ σ' : St} {G : Env} (hs : shapeOk po = true) (h : Lst G po σ σ') : appd po σ' σ = σ' := by
  obtain ⟨f1, f2⟩ := h.frame hs
  cases σ' with
  | mk sl tk =>
    unfold appd
    congr 1
    · funext n
      by_cases hn : po.dst = some n
      · rw [if_pos hn]
      · rw [if_neg hn]; exact (f1 n hn).symm
    · funext t
      by_cases ht : po.wf.contains t = true
      · rw [if_pos ht]
      · rw [if_neg ht]; exact (f2 t (by simpa using ht)).symm

/-- The states on the way are the states after the first operations. -/
theorem SO_lt (hs : ∀ (i : Nat) po, ps[i]? = some po → Lst G po (s i) (s (i + 1))) (hsh : ∀ (i : Nat) po, ps[i]? = some po → shapeOk po = true) {L : Nat → Bool} :
    ∀ m, m ≤ ps.length → (∀ j, j < m → L j = true) → SO ps s L m = s m
  | 0, _, _ => rfl
  | m + 1, hm, h => by
    have hpo : ps[m]? = some ps[m] := List.getElem?_eq_getElem (by omega)
    simp only [SO, hpo, h m (by omega), if_true]
    rw [SO_lt hs hsh m (by omega) fun j hj => h j (by omega)]
    exact appd_self (hsh m _ hpo) (hs m _ hpo)
/-- Operations that are not named do nothing. -/
theorem SO_skip {L : Nat → Bool} {i : Nat} : ∀ m, i ≤ m → (∀ j, i ≤ j → j < m → L j = false) → SO ps s L m = SO ps s L i
  | 0, hm, _ => by have : i = 0 := by omega
                   subst this; rfl
  | m + 1, hm, h => by
    by_cases e : i = m + 1
    · subst e; rfl
    · have hi : i ≤ m := by omega
      rw [← SO_skip m hi fun j hj hj' => h j hj (by omega)]
      simp only [SO]
      split
      · rw [h m hi (by omega)]; rfl
      · rfl
end
end
end Go.Absw

/- The abstract machine, its twenty-fifth part: a region in any order that is let comes to the same state. Conditions: the check, made on the text. -/
namespace Go.Absw
open Go

def chkPre (ops : Array Oper) (ps : List POp) (pre : List (List Nat)) : Bool :=
  (List.range ops.size).all fun i => match ops[i]?, ps[i]? with
    | some o, some po => o.after.toList.all (fun e => !Region.binds .any e || decide (e.on < i)) &&
        (pre.getD i []).all (fun j => o.after.toList.any fun e => Region.binds .any e && (e.on == j || (pre.getD e.on []).contains j)) &&
        (List.range i).all (fun j => (pre.getD i []).contains j || (match ps[j]? with | some q => indep q po | none => false))
    | _, _ => false

structure PreOk (ops : Array Oper) (ps : List POp) (pre : List (List Nat)) : Prop where
  edge : ∀ (i : Nat) o e, ops[i]? = some o → e ∈ o.after → Region.binds .any e = true → e.on < i
  dir : ∀ (i : Nat) o j, ops[i]? = some o → j ∈ pre.getD i [] → ∃ e ∈ o.after, Region.binds .any e = true ∧ (e.on = j ∨ j ∈ pre.getD e.on [])
  ind : ∀ (i j : Nat) po q, i < ops.size → j < i → ps[i]? = some po → ps[j]? = some q → j ∉ pre.getD i [] → indep q po = true

theorem chkPre_spec {ops : Array Oper} {ps : List POp} {pre : List (List Nat)} (h : chkPre ops ps pre = true) : PreOk ops ps pre := by
  simp only [chkPre, List.all_eq_true, List.mem_range] at h
  have key : ∀ (i : Nat) o po, ops[i]? = some o → ps[i]? = some po → _ := fun i o po ho hpo => by
    have := h i (Array.getElem?_eq_some_iff.1 ho).1
    rw [ho, hpo] at this
    exact this
  have hps : ∀ (i : Nat) o, ops[i]? = some o → ∃ po, ps[i]? = some po := fun i o ho => by
    have := h i (Array.getElem?_eq_some_iff.1 ho).1
    rw [ho] at this
    cases hp : ps[i]? with
    | none => rw [hp] at this; cases this
    | some po => exact ⟨po, rfl⟩
  refine ⟨fun i o e ho he hb => ?_, fun i o j ho hj => ?_, fun i j po q hi hj hpo hq hn => ?_⟩
  · obtain ⟨po, hpo⟩ := hps i o ho
    have := key i o po ho hpo
    simp only [Bool.and_eq_true, List.all_eq_true] at this
    have := this.1.1 e (by simpa using he)
    simpa [hb] using this
  · obtain ⟨po, hpo⟩ := hps i o ho
    have := key i o po ho hpo
    simp only [Bool.and_eq_true, List.all_eq_true] at this
    have := this.1.2 j hj
    rw [List.any_eq_true] at this
    obtain ⟨e, he, hb⟩ := this
    simp only [Bool.and_eq_true, Bool.or_eq_true, beq_iff_eq, List.contains_iff_mem] at hb
    exact ⟨e, by simpa using he, hb.1, hb.2⟩
  · have ho : ops[i]? = some ops[i] := Array.getElem?_eq_getElem hi
    have := key i _ po ho hpo
    simp only [Bool.and_eq_true, List.all_eq_true] at this
    have := this.2 j (by simpa using hj)
    rw [hq] at this
    simp only [Bool.or_eq_true, List.contains_iff_mem] at this
    exact this.resolve_left hn

section
variable {G : Env} {ops : Array Oper} {ps : List POp} {s : Nat → St} {pre : List (List Nat)}

theorem SO_next (hlen : ps.length = ops.size) (hp : PreOk ops ps pre) (hs : ∀ (i : Nat) po, ps[i]? = some po → Lst G po (s i) (s (i + 1))) (hsh : ∀ (i : Nat) po, ps[i]? = some po → shapeOk po = true)
    {L L' : Nat → Bool} {i : Nat} {po : POp} (hi : ps[i]? = some po) (hLi : L i = false) (hL' : ∀ j, L' j = (L j || j == i))
    (hcl : ∀ m j, m < ops.size → L m = true → j ∈ pre.getD m [] → L j = true) (hpre : ∀ j ∈ pre.getD i [], L j = true) : Lst G po (SO ps s L ops.size) (SO ps s L' ops.size) := by
  have hin : i < ops.size := by rw [← hlen]; exact (List.getElem?_eq_some_iff.1 hi).1
  -- an earlier one that is not listed, and a later one that is, have nothing to do with i
  have lo : ∀ (j : Nat) q, ps[j]? = some q → j < i → L j = false → indep q po = true := fun j q hq hj hn =>
    hp.ind i j po q hin hj hi hq fun hm => by rw [hpre j hm] at hn; cases hn
  have hi' : ∀ (j : Nat) q, ps[j]? = some q → i < j → j < ops.size → L j = true → indep po q = true := fun j q hq hj hjn hl =>
    hp.ind j i q po hjn hj hq hi fun hm => by rw [hcl j i hjn hl hm] at hLi; cases hLi
  have e1 : s i = SO ps s (fun j => decide (j < i)) ops.size := by
    rw [SO_skip ops.size (Nat.le_of_lt hin) fun j h1 h2 => by simp; omega]
    exact (SO_lt hs hsh i (by omega) fun j hj => by simpa using hj).symm
  have e2 : s (i + 1) = SO ps s (fun j => decide (j ≤ i)) ops.size := by
    rw [SO_skip (i := i + 1) ops.size hin fun j h1 h2 => by simp; omega]
    exact (SO_lt hs hsh (i + 1) (by omega) fun j hj => by simp; omega).symm
  have ag : Agree po (s i) (SO ps s L ops.size) := by
    rw [e1]
    refine ⟨fun n hn => SO_sl _ fun j q hj hq hd => ?_, fun t ht => SO_tk _ fun j q hj hq hd => ?_⟩
    · rcases Nat.lt_trichotomy j i with h | h | h
      · cases hl : L j with
        | true => simpa using h
        | false => exact absurd hn ((indep_spec (lo j q hq h hl)).1 n hd).1
      · subst h; rw [hLi]; simp
      · cases hl : L j with
        | false => simp; omega
        | true => exact absurd hn ((indep_spec (hi' j q hq h hj hl)).2.1 n hd)
    · rcases Nat.lt_trichotomy j i with h | h | h
      · cases hl : L j with
        | true => simpa using h
        | false => exact absurd ht ((indep_spec (lo j q hq h hl)).2.2.1 t hd)
      · subst h; rw [hLi]; simp
      · cases hl : L j with
        | false => simp; omega
        | true => exact absurd ht ((indep_spec (hi' j q hq h hj hl)).2.2.2.1 t hd)
  have hl := (hs i po hi).loc (hsh i po hi) ag
  have : (⟨fun n => if po.dst = some n then (s (i + 1)).sl n else (SO ps s L ops.size).sl n, fun t => if po.wf.contains t then (s (i + 1)).tk t else (SO ps s L ops.size).tk t⟩ : St) = SO ps s L' ops.size := by
    have hother : ∀ j, j ≠ i → L' j = L j := fun j hj => by rw [hL']; simp [hj]
    have hself : L' i = true := by rw [hL']; simp
    have hsl : ∀ n, (SO ps s L' ops.size).sl n = if po.dst = some n then (s (i + 1)).sl n else (SO ps s L ops.size).sl n := by
      intro n
      by_cases hd : po.dst = some n
      · rw [if_pos hd, e2]
        refine SO_sl _ fun j q hj hq hdq => ?_
        rcases Nat.lt_trichotomy j i with h | h | h
        · rw [hother j (by omega)]
          cases hl : L j with
          | true => simp; omega
          | false => exact absurd hd ((indep_spec (lo j q hq h hl)).1 n hdq).2
        · subst h; rw [hself]; simp
        · rw [hother j (by omega)]
          cases hl : L j with
          | false => simp; omega
          | true => exact absurd hdq ((indep_spec (hi' j q hq h hj hl)).1 n hd).2
      · rw [if_neg hd]
        refine SO_sl _ fun j q hj hq hdq => hother j ?_
        rintro rfl
        rw [hi] at hq; cases hq
        exact hd hdq
    have htk : ∀ t, (SO ps s L' ops.size).tk t = if po.wf.contains t then (s (i + 1)).tk t else (SO ps s L ops.size).tk t := by
      intro t
      by_cases hd : t ∈ po.wf
      · rw [if_pos (by simpa using hd), e2]
        refine SO_tk _ fun j q hj hq hdq => ?_
        rcases Nat.lt_trichotomy j i with h | h | h
        · rw [hother j (by omega)]
          cases hl : L j with
          | true => simp; omega
          | false => exact absurd hdq ((indep_spec (lo j q hq h hl)).2.2.2.2 t hd)
        · subst h; rw [hself]; simp
        · rw [hother j (by omega)]
          cases hl : L j with
          | false => simp; omega
          | true => exact absurd hd ((indep_spec (hi' j q hq h hj hl)).2.2.2.2 t hdq)
      · rw [if_neg (by simpa using hd)]
        refine SO_tk _ fun j q hj hq hdq => hother j ?_
        rintro rfl
        rw [hi] at hq; cases hq
        exact hd hdq
    cases hh : SO ps s L' ops.size with
    | mk sl tk =>
      rw [hh] at hsl htk
      congr 1
      · funext n; exact (hsl n).symm
      · funext t; exact (htk t).symm
  rw [← this]
  exact hl

theorem count_set {L L' : Nat → Bool} {i : Nat} (hLi : L i = false) (hL' : ∀ j, L' j = (L j || j == i)) : ∀ l : List Nat, l.Nodup → (i ∈ l → (l.countP (fun j => !L' j)) + 1 = l.countP (fun j => !L j)) ∧ (i ∉ l → l.countP (fun j => !L' j) = l.countP (fun j => !L j))
  | [], _ => ⟨fun h => (by cases h), fun _ => rfl⟩
  | a :: r, hn => by
    obtain ⟨h1, h2⟩ := List.nodup_cons.1 hn
    obtain ⟨i1, i2⟩ := count_set hLi hL' r h2
    refine ⟨fun h => ?_, fun h => ?_⟩
    · by_cases e : i = a
      · subst e
        have := i2 h1
        rw [List.countP_cons, List.countP_cons, this, hL', hLi]
        simp
      · have hm : i ∈ r := by simpa [e] using h
        have := i1 hm
        rw [List.countP_cons, List.countP_cons, hL' a]
        have hae : (a == i) = false := by simpa using fun x => e x.symm
        rw [hae, Bool.or_false]
        omega
    · have e : i ≠ a := by rintro rfl; exact h (by simp)
      have hm : i ∉ r := fun h' => h (by simp [h'])
      have := i2 hm
      have hae : (a == i) = false := by simpa using fun x => e x.symm
      rw [List.countP_cons, List.countP_cons, hL' a, hae, Bool.or_false, this]

theorem wpAny_chain {Q : Exit → Act → World → Prop} {n : Nat} (hc : chkOps G.P ops n ps = true) (hpc : chkPre ops ps pre = true) (hs : ∀ (i : Nat) po, ps[i]? = some po → Lst G po (s i) (s (i + 1))) :
    ∀ (fuel : Nat) (listed : Array Bool), listed.size = ops.size → (∀ m j, m < ops.size → listed.getD m false = true → j ∈ pre.getD m [] → listed.getD j false = true) →
      (List.range ops.size).countP (fun j => !listed.getD j false) ≤ fuel → ∀ (a : Act) (w : World) (C : Cells) (τ : Tau), Core G C τ (SO ps s (fun j => listed.getD j false) ops.size) a.tmps w → a.tmps.size = n →
      (∀ a' w' C' τ', Core G C' τ' (s ops.size) a'.tmps w' → a'.defers = a.defers → a'.tmps.size = a.tmps.size → Nxt τ (SO ps s (fun j => listed.getD j false) ops.size) C w τ' (s ops.size) C' w' → Q .normal a' w') →
      wpAny G.P .any ops Q fuel listed a w := by
  have hp := chkPre_spec hpc
  have hlen := (chkOps_spec hc).1
  have hall := (chkOps_spec hc).2
  have hsh : ∀ (i : Nat) po, ps[i]? = some po → shapeOk po = true := fun i po hpo => by
    obtain ⟨o, po', _, h2, h3⟩ := hall i (by rw [← hlen]; exact (List.getElem?_eq_some_iff.1 hpo).1)
    rw [hpo] at h2; cases h2
    simp only [chkOp, Bool.and_eq_true] at h3
    exact h3.1.1.2
  have ends : ∀ (listed : Array Bool), listed.size = ops.size → Region.ready .any ops listed = [] → ∀ j, j < ops.size → listed.getD j false = true := by
    intro listed hsz hr j
    induction j using Nat.strongRecOn with
    | _ j ih =>
      intro hj
      cases hl : listed.getD j false with
      | true => rfl
      | false =>
        have ho : ops[j]? = some ops[j] := Array.getElem?_eq_getElem hj
        have : j ∈ Region.ready .any ops listed := mem_ready.2 ⟨by
          have hjl : j < listed.size := by omega
          simp [hjl] at hl ⊢
          exact hl, _, ho, fun e he hb => ih e.on (hp.edge j _ e ho he hb) (by have h9 := hp.edge j _ e ho he hb; omega)⟩
        rw [hr] at this; cases this
  have fin : ∀ (listed : Array Bool), (∀ j, j < ops.size → listed.getD j false = true) → SO ps s (fun j => listed.getD j false) ops.size = s ops.size := fun listed h => SO_lt hs hsh _ (by omega) h
  intro fuel
  induction fuel with
  | zero =>
    intro listed hsz hcl hcount a w C τ h hn hQ
    have hzero : (List.range ops.size).countP (fun j => !listed.getD j false) = 0 := Nat.le_zero.1 hcount
    rw [List.countP_eq_zero] at hzero
    have hall' : ∀ j, j < ops.size → listed.getD j false = true := fun j hj => by
      have := hzero j (List.mem_range.2 hj)
      simpa using this
    refine ⟨?_, ?_⟩
    · cases hr : Region.ready .any ops listed with
      | nil => rfl
      | cons x r =>
        have hx : x ∈ Region.ready .any ops listed := by rw [hr]; simp
        obtain ⟨h0, o, ho, _⟩ := mem_ready.1 hx
        have hxl : x < ops.size := (Array.getElem?_eq_some_iff.1 ho).1
        have h1 := hall' x hxl
        have hjl : x < listed.size := by omega
        simp [hjl] at h0 h1
        rw [h0] at h1; cases h1
    · rw [fin listed hall'] at h hQ
      exact hQ a w C τ h rfl rfl (Nxt.refl ..)
  | succ fuel ih =>
    intro listed hsz hcl hcount a w C τ h hn hQ
    refine ⟨fun hr => ?_, fun i hi => ?_⟩
    · rw [fin listed (ends listed hsz hr)] at h hQ
      exact hQ a w C τ h rfl rfl (Nxt.refl ..)
    · obtain ⟨h0, o, ho, hed⟩ := mem_ready.1 hi
      have hin : i < ops.size := (Array.getElem?_eq_some_iff.1 ho).1
      obtain ⟨o', po, h1, h2, h3⟩ := hall i hin
      rw [ho] at h1; cases h1
      have hil : i < listed.size := by omega
      have hLi : listed.getD i false = false := by simp [hil] at h0 ⊢; exact h0
      have hL' : ∀ j, (listed.setIfInBounds i true).getD j false = (listed.getD j false || j == i) := by
        intro j
        by_cases e : i = j
        · subst e; simp [hil]
        · rw [getD_set_ne false e]
          have : (j == i) = false := by simpa using fun x => e x.symm
          rw [this, Bool.or_false]
      have hpre : ∀ j ∈ pre.getD i [], listed.getD j false = true := by
        intro j hj
        obtain ⟨e, he, hb, hor⟩ := hp.dir i o j ho hj
        have hon := hed e he hb
        rcases hor with rfl | hm
        · exact hon
        · exact hcl e.on j (by have := hp.edge i o e ho he hb; omega) hon hm
      have hnext : Lst G po (SO ps s (fun j => listed.getD j false) ops.size) (SO ps s (fun j => (listed.setIfInBounds i true).getD j false) ops.size) :=
        SO_next hlen hp hs hsh h2 hLi hL' hcl hpre
      refine opStep ho (by rw [hn]; exact h3) h hnext (fun a' w' C' τ' h' hd hsz' hN => ?_)
      refine ih _ (by simpa using hsz) (fun m j hm hl hj => ?_) ?_ a' w' C' τ' h' (by omega) (fun a2 w2 C2 τ2 h2 hd2 hs2 hN2 => hQ a2 w2 C2 τ2 h2 (hd2.trans hd) (hs2.trans hsz') (hN.trans hN2))
      · rw [hL'] at hl ⊢
        by_cases e : m = i
        · subst e; rw [hpre j hj]; rfl
        · have : (m == i) = false := by simpa using e
          rw [this, Bool.or_false] at hl
          rw [hcl m j hm hl hj]; rfl
      · have := (count_set (L := fun j => listed.getD j false) (L' := fun j => (listed.setIfInBounds i true).getD j false) hLi hL' (List.range ops.size) List.nodup_range).1 (List.mem_range.2 hin)
        omega
end
end Go.Absw

/- The abstract machine, its twenty-sixth part: a function's code, the walk through it, and what the walk shows. Conditions: the check. -/
namespace Go.Absw
open Go

/-- Steps of the walk that are no steps of the program: what is kept of the state; a row that nobody writes any more; a nil slice as a row; a row as data. -/
inductive Gh where
  | keep (sl tk : List Nat)
  | fz (t : Nat)
  | fzb (t : Nat)
  | own (s t : Nat) (e : TypeId) (sz : Nat)
  | ownc (t o u : Nat) (e : TypeId) (sz : Nat)
  | cv (s : Nat) (sh : List (Option Nat)) (foot : List Nat)

inductive PCode where
  | skip
  | region (ops : List POp) (pre : List (List Nat))
  | seq (a b : PCode)
  | cond (c : PArg) (a b : PCode)
  | block (id : Nat) (a : PCode)
  | loop (a : PCode)
  | exit (id : Nat)
  | ret
  | gh (g : Gh) (a : PCode)
  | scope (a : PCode)

inductive PX where
  | normal | exit (id : Nat) | ret
  deriving DecidableEq

def nst (σ : St) (t : Nat) : Nat := if t < 100 then min 1 (σ.tk t).st else 0
def kM (σ : St) (tk : List Nat) (t : Nat) : Option (Nat × Nat × Nat) := if tk.contains t then some (t, (σ.tk t).st, nst σ t) else none
def keepSt (σ : St) (sl tk : List Nat) : St := mkSt (sl.map fun n => (n, dn (kM σ tk) (σ.sl n))) (tk.map fun t => (t, ⟨nst σ t, dnC (kM σ tk) (σ.tk t).c⟩))

def ghSt (g : Gh) (σ : St) : Option St := match g with
  | .keep sl tk => some (keepSt σ sl tk)
  | .fz t => match (σ.tk t).c with
    | .row e sz _ _ xs => some (σ.setT t ⟨(σ.tk t).st, .row e sz xs.length xs.length xs⟩)
    | _ => some σ
  | .fzb t => match (σ.tk t).c with
    | .box ty false cs => some (σ.setT t ⟨(σ.tk t).st, .box ty true cs⟩)
    | _ => some σ
  | .own s t e sz => match σ.sl s with
    | .f .nils => some ((σ.setT t ⟨(σ.tk t).st + 1, .row e sz 0 0 []⟩).put (some s) (.ts t 0 0 ((σ.tk t).st + 1)))
    | _ => none
  | .ownc t o u e sz => match (σ.tk t).c with
    | .box ty false cs => match cs[o]? with
      | some (.f .nils) => if u = t then none else some ((σ.setT u ⟨(σ.tk u).st + 1, .row e sz 0 0 []⟩).setT t ⟨(σ.tk t).st, .box ty false (cs.set o (.ts u 0 0 ((σ.tk u).st + 1)))⟩)
      | _ => none
    | _ => none
  | .cv s sh foot => some (σ.put (some s) (frzV σ foot sh (σ.sl s)))

def PX.then (K : St → Prop) (Q : PX → St → Prop) : PX → St → Prop
  | .normal, σ => K σ
  | e, σ => Q e σ
def PX.inBlock (id : Nat) (Q : PX → St → Prop) : PX → St → Prop
  | .exit i, σ => if i = id then Q .normal σ else Q (.exit i) σ
  | e, σ => Q e σ

def pwp (G : Env) : PCode → (PX → St → Prop) → St → Prop
  | .skip, Q, σ => Q .normal σ
  | .region ops _, Q, σ => pOps G ops (Q .normal) σ
  | .seq a b, Q, σ => pwp G a (PX.then (pwp G b Q) Q) σ
  | .cond c a b, Q, σ => ∃ x, c.val G σ [] = .f (.bool x) ∧ (x = true → pwp G a Q σ) ∧ (x = false → pwp G b Q σ)
  | .block id a, Q, σ => pwp G a (PX.inBlock id Q) σ
  | .loop a, Q, σ => ∃ I : Nat → St → Prop, (∃ n, I n σ) ∧ ∀ n σ', I n σ' → pwp G a (PX.then (fun σ'' => ∃ m, m < n ∧ I m σ'') Q) σ'
  | .exit id, Q, σ => Q (.exit id) σ
  | .ret, Q, σ => Q .ret σ
  | .gh g a, Q, σ => ∃ σ', ghSt g σ = some σ' ∧ pwp G a Q σ'
  | .scope a, Q, σ => pwp G a Q σ

/-- The walk's text fits the program's; n temporaries, k parameters' tokens. -/
def chkC (P : Program) (n k : Nat) : Code → PCode → Bool
  | c, .gh (.keep sl tk) p => (List.range k).all tk.contains && decide (k ≤ 100) && chkC P n k c p
  | c, .gh (.own s t _ _) p => decide (s < n) && chkC P n k c p
  | c, .gh (.cv s _ _) p => decide (s < n) && chkC P n k c p
  | c, .gh _ p => chkC P n k c p
  | .skip, .skip => true
  | .label _, .skip => true
  | .scope c, .scope p => chkC P n k c p
  | .region _ ops draw, .region ps pre => chkOps P ops n ps && (!draw || (P.follows .mixedOrders && chkPre ops ps pre))
  | .seq a b, .seq p q => chkC P n k a p && chkC P n k b q
  | .cond c a b, .cond x p q => opdOk c x && chkC P n k a p && chkC P n k b q
  | .block i a, .block j p => i == j && chkC P n k a p
  | .loop a, .loop p => chkC P n k a p
  | .exit i, .exit j => i == j
  | .ret, .ret => true
  | _, _ => false

/-- What the walk stands on: the world and the tokens at the function's entry. -/
structure Base where
  C : Cells
  τ : Tau
  tk : Nat → Tok
  w : World
  n : Nat
  k : Nat

def OwnB (B : Base) (τ : Tau) (σ : St) : Prop := ∀ t k', (σ.tk t).c.live = true → τ t = some k' → ((B.tk t).c.live = true ∧ ∃ k, B.τ t = some k ∧ k.b = k'.b) ∨ B.w.heap.size ≤ k'.b
theorem OwnB.blks {B : Base} {τ : Tau} {σ : St} (h : OwnB B τ σ) (b : Nat) (hb : blks τ σ.tk b) : Go.Absw.blks B.τ B.tk b ∨ B.w.heap.size ≤ b := by
  obtain ⟨t, hl, k', hk', rfl⟩ := hb
  rcases h t k' hl hk' with ⟨h1, h2⟩ | h1
  · exact .inl ⟨t, h1, h2⟩
  · exact .inr h1

structure Good (G : Env) (B : Base) (σ : St) (a : Act) (w : World) : Prop where
  defers : a.defers = []
  size : a.tmps.size = B.n
  core : ∃ C τ, Core G C τ σ a.tmps w ∧ Stp (blks B.τ B.tk) B.C B.w C w ∧ OwnB B τ σ ∧ (∀ t, t < B.k → σ.S t = 0 → τ t = B.τ t)

section
variable {G : Env} {B : Base} {σ : St} {a : Act} {w : World}

theorem Core.drew {C : Cells} {τ : Tau} {tm : Array Value} (h : Core G C τ σ tm w) (d : Nat) : Core G C τ σ tm { w with drawn := d } :=
  ⟨fun n => (h.slots n).mono (w := w) (w' := { w with drawn := d }) (fun _ _ h => h) (fun _ _ _ => rfl) (fun _ => Nat.le_refl _) (fun _ _ => rfl),
   fun t => (h.toks t).mono (w := w) (w' := { w with drawn := d }) (fun _ _ h => h) (fun _ _ _ => rfl) (fun _ => Nat.le_refl _) (fun _ _ => rfl) rfl (fun _ _ => rfl) (fun _ _ _ h => h),
   h.dist, h.lt, h.glob.mono (w := w) (w' := { w with drawn := d }) (fun _ _ h => h) (fun _ _ _ => rfl)⟩

theorem Good.drew (h : Good G B σ a w) (d : Nat) : Good G B σ a { w with drawn := d } := by
  obtain ⟨h1, h2, C, τ, h3, h4, h5, h6⟩ := h
  exact ⟨h1, h2, C, τ, h3.drew d, ⟨h4.os, h4.tape, h4.output, h4.size, h4.blk, h4.sub, h4.new, h4.cell⟩, h5, h6⟩

theorem good_next {C C' : Cells} {τ τ' : Tau} {σ' : St} {a' : Act} {w' : World} (hd : a.defers = []) (hn : a.tmps.size = B.n) (hs : Stp (blks B.τ B.tk) B.C B.w C w) (ho : OwnB B τ σ)
    (hz : ∀ t, t < B.k → σ.S t = 0 → τ t = B.τ t) (h' : Core G C' τ' σ' a'.tmps w') (hd' : a'.defers = a.defers) (hn' : a'.tmps.size = a.tmps.size) (hN : Nxt τ σ C w τ' σ' C' w') : Good G B σ' a' w' := by
  refine ⟨hd'.trans hd, hn'.trans hn, C', τ', h', hs.trans hN.stp ho.blks, fun t k2 hl hk2 => ?_, fun t ht h0 => ?_⟩
  · rcases hN.own t k2 hl hk2 with ⟨g1, k1, g2, g3⟩ | g1
    · rcases ho t k1 g1 g2 with ⟨f1, k0, f2, f3⟩ | f1
      · exact .inl ⟨f1, k0, f2, f3.trans g3⟩
      · exact .inr (by omega)
    · exact .inr (Nat.le_trans hs.size g1)
  · have h1 := hN.le t
    exact (hN.same t (by omega)).trans (hz t ht (by omega))

theorem lkS_map (f : Nat → PV) : ∀ (l : List Nat) (n : Nat), lkS (l.map fun n => (n, f n)) n = if n ∈ l then f n else .dead
  | [], n => by simp [lkS]
  | a :: r, n => by
    simp only [List.map_cons, lkS]
    by_cases h : n = a
    · subst h; simp
    · rw [if_neg h, lkS_map f r n]; simp [h]
theorem lkK_map (f : Nat → Tok) : ∀ (l : List Nat) (n : Nat), lkK (l.map fun n => (n, f n)) n = if n ∈ l then f n else ⟨0, .gone⟩
  | [], n => by simp [lkK]
  | a :: r, n => by
    simp only [List.map_cons, lkK]
    by_cases h : n = a
    · subst h; simp
    · rw [if_neg h, lkK_map f r n]; simp [h]

theorem good_keep {sl tk : List Nat} (hk : ∀ t, t < B.k → t ∈ tk) (hk' : B.k ≤ 100) (h : Good G B σ a w) : Good G B (keepSt σ sl tk) a w := by
  obtain ⟨h1, h2, C, τ, h3, h4, h5, h6⟩ := h
  have etk : ∀ t, (keepSt σ sl tk).tk t = if t ∈ tk then ⟨nst σ t, dnC (kM σ tk) (σ.tk t).c⟩ else ⟨0, .gone⟩ := fun t => lkK_map _ tk t
  have esl : ∀ n, (keepSt σ sl tk).sl n = if n ∈ sl then dn (kM σ tk) (σ.sl n) else .dead := fun n => lkS_map _ sl n
  have hm : ∀ t n c d, kM σ tk t = some (n, c, d) → c = σ.S t ∧ (keepSt σ sl tk).S n = d ∧ τ n = τ t := by
    intro t n c d h
    unfold kM at h
    split at h
    · rename_i ht
      cases h
      refine ⟨rfl, ?_, rfl⟩
      simp only [St.S, etk]
      rw [if_pos (by simpa using ht)]
    · cases h
  refine ⟨h1, h2, C, τ, ⟨fun n => ?_, fun t => ?_, fun t t' k k' hl hl' hkk hkk' hb => ?_, h3.lt, h3.glob⟩, h4, fun t k' hl hk' => ?_, fun t ht h0 => ?_⟩
  · rw [esl]
    split
    · exact dn_RP hm (h3.slots n)
    · exact .dead _
  · rw [etk]
    split
    · exact dnC_TR hm rfl (h3.toks t)
    · trivial
  · rw [etk] at hl hl'
    split at hl
    case isFalse => cases hl
    split at hl'
    case isFalse => cases hl'
    rw [dnC_live] at hl hl'
    exact h3.dist t t' k k' hl hl' hkk hkk' hb
  · rw [etk] at hl
    split at hl
    case isFalse => cases hl
    rw [dnC_live] at hl
    exact h5 t k' hl hk'
  · simp only [St.S, etk] at h0
    rw [if_pos (hk t ht)] at h0
    refine h6 t ht ?_
    simp only [nst] at h0
    rw [if_pos (by omega)] at h0
    simp only [St.S]
    omega

theorem good_fz {t : Nat} {e : TypeId} {sz l u : Nat} {xs : List (List FV)} (hr : (σ.tk t).c = .row e sz l u xs) (h : Good G B σ a w) : Good G B (σ.setT t ⟨(σ.tk t).st, .row e sz xs.length xs.length xs⟩) a w := by
  obtain ⟨h1, h2, C, τ, h3, h4, h5, h6⟩ := h
  have hS : (σ.setT t ⟨(σ.tk t).st, .row e sz xs.length xs.length xs⟩).S = σ.S := by
    funext u'
    rw [setT_S]
    split
    · rename_i e; rw [e]; rfl
    · rfl
  have ht := h3.toks t
  rw [hr] at ht
  rcases ht with ⟨g1, g2⟩ | ⟨k, vs, fr, g1, g2, g3, g4, g5, g6, g7, g8, g9, g10, g11, g12, g13⟩
  · subst g2
    refine ⟨h1, h2, C, τ, ?_, h4, fun t' k' hl hk' => ?_, fun t' ht' h0 => h6 t' ht' (by rw [hS] at h0; exact h0)⟩
    · refine Core.step (A := [t]) h3 (Stp.refl _ _ _) (fun t' ht' => ?_) (fun t' => by rw [hS]; exact Nat.le_refl _) (fun _ _ => rfl) (fun t' ht' => ?_) (fun t' ht' hl k' hk' => ?_) h3.lt (fun n => ?_)
      · have : t' ≠ t := by simpa using ht'
        exact ⟨by rw [setT_tk, if_neg this], rfl⟩
      · have : t' = t := by simpa using ht'
        subst this
        rw [setT_tk, if_pos rfl]
        exact .inl ⟨g1, rfl⟩
      · have : t' = t := by simpa using ht'
        subst this
        rw [g1] at hk'; cases hk'
      · rw [hS]; exact h3.slots n
    · rw [setT_tk] at hl
      by_cases e : t' = t
      · subst e; rw [g1] at hk'; cases hk'
      · rw [if_neg e] at hl; exact h5 t' k' hl hk'
  · -- the new protected cells
    let C' : Cells := fun b o => C b o ∨ (b = k.b ∧ o < xs.length * sz)
    have hlive : (σ.tk t).c.live = true := by rw [hr]; rfl
    have hstp : Stp (blksOf τ σ.tk [t]) C w C' w := ⟨rfl, rfl, rfl, Nat.le_refl _, fun _ _ _ => rfl, fun b o h => .inl h, fun b o h => h.elim .inl fun h => .inr (.inl ⟨t, by simp, hlive, k, g1, h.1.symm⟩), fun _ _ _ => rfl⟩
    have hsub : ∀ b o, C b o → C' b o := fun b o h => .inl h
    have hmul : ∀ {x y : Nat}, x ≤ y → x * sz ≤ y * sz := fun h => Nat.mul_le_mul_right _ h
    refine ⟨h1, h2, C', τ, ?_, ?_, fun t' k' hl hk' => ?_, fun t' ht' h0 => h6 t' ht' (by rw [hS] at h0; exact h0)⟩
    · refine Core.step (A := [t]) h3 hstp (fun t' ht' => ?_) (fun t' => by rw [hS]; exact Nat.le_refl _) (fun _ _ => rfl) (fun t' ht' => ?_) (fun t' ht' hl k' hk' => ?_) (fun b o hb => ?_) (fun n => ?_)
      · have : t' ≠ t := by simpa using ht'
        exact ⟨by rw [setT_tk, if_neg this], rfl⟩
      · have : t' = t := by simpa using ht'
        subst this
        rw [setT_tk, if_pos rfl]
        refine .inr ⟨k, vs, fr, g1, g2, g3, g4, g5, g6, g7, g8, g9, fun i j c y hc hy => ?_, fun o ho => ?_, Nat.le_refl _, fun o ho => .inr ⟨rfl, ho⟩⟩
        · obtain ⟨v, hv, hrf⟩ := g10 i j c y hc hy
          exact ⟨v, hv, hrf.mono hsub (fun _ _ _ => rfl)⟩
        · rcases ho with ho | ho
          · exact Nat.lt_of_lt_of_le (g11 o ho) (hmul g12)
          · exact ho.2
      · have : t' = t := by simpa using ht'
        subst this
        exact .inl ⟨hlive, k', hk', rfl⟩
      · rcases hb with hb | ⟨rfl, _⟩
        · exact h3.lt b o hb
        · exact (Array.getElem?_eq_some_iff.1 g3).1
      · rw [hS]; exact (h3.slots n).mono hsub (fun _ _ _ => rfl) (fun _ => Nat.le_refl _) (fun _ _ => rfl)
    · refine h4.trans hstp (fun b hb => h5.blks b ?_)
      obtain ⟨t', _, hl, hk⟩ := hb
      exact ⟨t', hl, hk⟩
    · rw [setT_tk] at hl
      by_cases e : t' = t
      · subst e; exact h5 t' k' hlive hk'
      · rw [if_neg e] at hl; exact h5 t' k' hl hk'
end
end Go.Absw

/- The abstract machine, its twenty-seventh part: what the walk shows of the code. Conditions: the check. -/
namespace Go.Absw
open Go

section
variable {G : Env} {B : Base} {σ : St} {a : Act} {w : World}

theorem good_own {s t : Nat} {e : TypeId} {sz : Nat} (hs : σ.sl s = .f .nils) (hlt : s < B.n) (h : Good G B σ a w) :
    Good G B ((σ.setT t ⟨(σ.tk t).st + 1, .row e sz 0 0 []⟩).put (some s) (.ts t 0 0 ((σ.tk t).st + 1))) a w := by
  obtain ⟨h1, h2, C, τ, h3, h4, h5, h6⟩ := h
  let τ' : Tau := fun u => if u = t then none else τ u
  have hS : ∀ u, σ.S u ≤ (σ.setT t ⟨(σ.tk t).st + 1, .row e sz 0 0 []⟩).S u := by
    intro u; rw [setT_S]; split
    · subst_vars; simp [St.S]
    · exact Nat.le_refl _
  have hτ : ∀ u, (σ.setT t ⟨(σ.tk t).st + 1, .row e sz 0 0 []⟩).S u = σ.S u → τ' u = τ u := by
    intro u hu
    by_cases e : u = t
    · subst e; rw [setT_S, if_pos rfl] at hu; simp [St.S] at hu
    · simp only [τ', if_neg e]
  have hcur : (σ.setT t ⟨(σ.tk t).st + 1, .row e sz 0 0 []⟩).S t = (σ.tk t).st + 1 := by rw [setT_S, if_pos rfl]
  refine ⟨h1, h2, C, τ', ?_, h4, fun t' k' hl hk' => ?_, fun u hu h0 => ?_⟩
  · refine Core.step (A := [t]) h3 (Stp.refl _ _ _) (fun t' ht' => ?_) (fun t' => by rw [put_S]; exact hS t') (fun t' => by rw [put_S]; exact hτ t') (fun t' ht' => ?_) (fun t' ht' hl k' hk' => ?_) h3.lt (fun n => ?_)
    · have : t' ≠ t := by simpa using ht'
      exact ⟨by rw [put_tk, setT_tk, if_neg this], by simp only [τ', if_neg this]⟩
    · have : t' = t := by simpa using ht'
      subst this
      rw [put_tk, setT_tk, if_pos rfl]
      exact .inl ⟨by simp only [τ', if_pos], rfl⟩
    · have : t' = t := by simpa using ht'
      subst this
      simp only [τ', if_pos] at hk'; cases hk'
    · rw [put_S, put_sl]
      have hn := h3.slots n
      by_cases e : some s = some n
      · rw [if_pos e]
        cases e
        rw [hs] at hn
        generalize a.tmps.getD s undef = v at hn
        cases hn with
        | f v x hx =>
          cases hx
          exact .ts _ t 0 0 _ rfl (Nat.le_of_eq hcur.symm) (fun _ => .inl ⟨by simp only [τ', if_pos], rfl, rfl, rfl⟩)
      · rw [if_neg e]
        exact hn.mono (fun _ _ h => h) (fun _ _ _ => rfl) hS hτ
  · by_cases e : t' = t
    · subst e; simp only [τ', if_pos] at hk'; cases hk'
    · rw [put_tk, setT_tk, if_neg e] at hl
      simp only [τ', if_neg e] at hk'
      exact h5 t' k' hl hk'
  · rw [put_S] at h0
    have := hS u
    rw [hτ u (by omega)]
    exact h6 u hu (by omega)

theorem good_ownc {t o u : Nat} {e : TypeId} {sz : Nat} {ty : TypeId} {cs : List PV} (hb : (σ.tk t).c = .box ty false cs) (ho : cs[o]? = some (.f .nils)) (hne : u ≠ t) (h : Good G B σ a w) :
    Good G B ((σ.setT u ⟨(σ.tk u).st + 1, .row e sz 0 0 []⟩).setT t ⟨(σ.tk t).st, .box ty false (cs.set o (.ts u 0 0 ((σ.tk u).st + 1)))⟩) a w := by
  obtain ⟨h1, h2, C, τ, h3, h4, h5, h6⟩ := h
  let τ' : Tau := fun v => if v = u then none else τ v
  let σ' : St := (σ.setT u ⟨(σ.tk u).st + 1, .row e sz 0 0 []⟩).setT t ⟨(σ.tk t).st, .box ty false (cs.set o (.ts u 0 0 ((σ.tk u).st + 1)))⟩
  have hSu : σ'.S u = (σ.tk u).st + 1 := by
    show ((if u = t then _ else if u = u then _ else _ : Tok)).st = _
    rw [if_neg hne, if_pos rfl]
  have hSo : ∀ v, v ≠ u → σ'.S v = σ.S v := by
    intro v hv
    show ((if v = t then _ else if v = u then _ else _ : Tok)).st = _
    by_cases e1 : v = t
    · rw [if_pos e1, e1]; rfl
    · rw [if_neg e1, if_neg hv]; rfl
  have hS : ∀ v, σ.S v ≤ σ'.S v := by
    intro v
    by_cases e1 : v = u
    · subst e1; rw [hSu]; simp [St.S]
    · rw [hSo v e1]; exact Nat.le_refl _
  have hτ : ∀ v, σ'.S v = σ.S v → τ' v = τ v := by
    intro v hv
    by_cases e1 : v = u
    · subst e1; rw [hSu] at hv; simp [St.S] at hv
    · simp only [τ', if_neg e1]
  have htt : σ'.tk t = ⟨(σ.tk t).st, .box ty false (cs.set o (.ts u 0 0 ((σ.tk u).st + 1)))⟩ := by
    show (if t = t then _ else _ : Tok) = _
    rw [if_pos rfl]
  have hut : σ'.tk u = ⟨(σ.tk u).st + 1, .row e sz 0 0 []⟩ := by
    show (if u = t then _ else if u = u then _ else _ : Tok) = _
    rw [if_neg hne, if_pos rfl]
  have hot : ∀ v, v ≠ t → v ≠ u → σ'.tk v = σ.tk v := by
    intro v e1 e2
    show (if v = t then _ else if v = u then _ else _ : Tok) = _
    rw [if_neg e1, if_neg e2]
  have hbox := h3.toks t
  rw [hb] at hbox
  obtain ⟨k, vs, fr, g1, g2, g3, g4, g5, g6, g7, g8⟩ := hbox
  have htu : t ≠ u := fun e' => hne e'.symm
  have ht't : τ' t = τ t := by simp only [τ', if_neg htu]
  have hT : TR C σ'.S τ' w t (.box ty false (cs.set o (.ts u 0 0 ((σ.tk u).st + 1)))) := by
    refine ⟨k, vs, fr, ht't.trans g1, g2, g3, by rw [List.length_set]; exact g4, g5, fun i v x hv hx => ?_, g7, g8⟩
    rw [List.getElem?_set] at hx
    by_cases e1 : o = i
    · subst e1
      simp only [if_pos] at hx
      split at hx
      · cases hx
        have hh := g6 o v _ hv ho
        cases hh with
        | f v x hx' =>
          cases hx'
          exact .ts _ u 0 0 _ rfl (Nat.le_of_eq hSu.symm) (fun _ => .inl ⟨by simp only [τ', if_pos], rfl, rfl, rfl⟩)
      · cases hx
    · rw [if_neg e1] at hx
      exact (g6 i v x hv hx).mono (fun _ _ h => h) (fun _ _ _ => rfl) hS hτ
  refine ⟨h1, h2, C, τ', ?_, h4, fun v k' hl hk' => ?_, fun v hv h0 => ?_⟩
  · refine Core.step (A := [u, t]) h3 (Stp.refl _ _ _) (fun v hv => ?_) hS hτ (fun v hv => ?_) (fun v hv hl k' hk' => ?_) h3.lt (fun n => (h3.slots n).mono (fun _ _ h => h) (fun _ _ _ => rfl) hS hτ)
    · have e1 : v ≠ u ∧ v ≠ t := by simpa using hv
      exact ⟨hot v e1.2 e1.1, by simp only [τ', if_neg e1.1]⟩
    · rcases List.mem_cons.1 hv with e1 | e1
      · subst e1
        show TR C σ'.S τ' w v (σ'.tk v).c
        rw [hut]
        exact .inl ⟨by simp only [τ', if_pos], rfl⟩
      · have e2 : v = t := by simpa using e1
        subst e2
        show TR C σ'.S τ' w v (σ'.tk v).c
        rw [htt]; exact hT
    · rcases List.mem_cons.1 hv with e1 | e1
      · subst e1
        simp only [τ', if_pos] at hk'; cases hk'
      · have e2 : v = t := by simpa using e1
        subst e2
        rw [ht't] at hk'
        exact .inl ⟨by rw [hb]; rfl, k', hk', rfl⟩
  · by_cases e1 : v = u
    · subst e1; simp only [τ', if_pos] at hk'; cases hk'
    · simp only [τ', if_neg e1] at hk'
      by_cases e2 : v = t
      · subst e2; exact h5 v k' (by rw [hb]; rfl) hk'
      · have : (σ'.tk v).c.live = true := hl
        rw [hot v e2 e1] at this
        exact h5 v k' this hk'
  · have h0' : σ'.S v = 0 := h0
    have := hS v
    show τ' v = B.τ v
    rw [hτ v (by omega)]
    exact h6 v hv (by omega)

theorem good_fzb {t : Nat} {ty : TypeId} {cs : List PV} (hr : (σ.tk t).c = .box ty false cs) (h : Good G B σ a w) : Good G B (σ.setT t ⟨(σ.tk t).st, .box ty true cs⟩) a w := by
  obtain ⟨h1, h2, C, τ, h3, h4, h5, h6⟩ := h
  have hS : (σ.setT t ⟨(σ.tk t).st, .box ty true cs⟩).S = σ.S := by
    funext u'
    rw [setT_S]
    split
    · rename_i e; rw [e]; rfl
    · rfl
  have ht := h3.toks t
  rw [hr] at ht
  obtain ⟨k, vs, fr, g1, g2, g3, g4, g5, g6, g7, g8⟩ := ht
  have hlive : (σ.tk t).c.live = true := by rw [hr]; rfl
  let C' : Cells := fun b o => C b o ∨ (b = k.b ∧ o < vs.size)
  have hstp : Stp (blksOf τ σ.tk [t]) C w C' w := ⟨rfl, rfl, rfl, Nat.le_refl _, fun _ _ _ => rfl, fun b o h => .inl h, fun b o h => h.elim .inl fun h => .inr (.inl ⟨t, by simp, hlive, k, g1, h.1.symm⟩), fun _ _ _ => rfl⟩
  have hsub : ∀ b o, C b o → C' b o := fun b o h => .inl h
  refine ⟨h1, h2, C', τ, ?_, ?_, fun t' k' hl hk' => ?_, fun t' ht' h0 => h6 t' ht' (by rw [hS] at h0; exact h0)⟩
  · refine Core.step (A := [t]) h3 hstp (fun t' ht' => ?_) (fun t' => by rw [hS]; exact Nat.le_refl _) (fun _ _ => rfl) (fun t' ht' => ?_) (fun t' ht' hl k' hk' => ?_) (fun b o hb => ?_) (fun n => ?_)
    · have : t' ≠ t := by simpa using ht'
      exact ⟨by rw [setT_tk, if_neg this], rfl⟩
    · have : t' = t := by simpa using ht'
      subst this
      rw [setT_tk, if_pos rfl, hS]
      exact ⟨k, vs, fr, g1, g2, g3, g4, g5, fun i v x hv hx => (g6 i v x hv hx).mono hsub (fun _ _ _ => rfl) (fun _ => Nat.le_refl _) (fun _ _ => rfl), fun _ _ => rfl, fun _ o ho => .inr ⟨rfl, ho⟩⟩
    · have : t' = t := by simpa using ht'
      subst this
      exact .inl ⟨hlive, k', hk', rfl⟩
    · rcases hb with hb | ⟨rfl, _⟩
      · exact h3.lt b o hb
      · exact (Array.getElem?_eq_some_iff.1 g2).1
    · rw [hS]; exact (h3.slots n).mono hsub (fun _ _ _ => rfl) (fun _ => Nat.le_refl _) (fun _ _ => rfl)
  · refine h4.trans hstp (fun b hb => h5.blks b ?_)
    obtain ⟨t', _, hl, hk⟩ := hb
    exact ⟨t', hl, hk⟩
  · rw [setT_tk] at hl
    by_cases e : t' = t
    · subst e; exact h5 t' k' hlive hk'
    · rw [if_neg e] at hl; exact h5 t' k' hl hk'

theorem good_cv {s : Nat} {sh : List (Option Nat)} {foot : List Nat} (hlt : s < B.n) (h : Good G B σ a w) : Good G B (σ.put (some s) (frzV σ foot sh (σ.sl s))) a w := by
  obtain ⟨h1, h2, C, τ, h3, h4, h5, h6⟩ := h
  refine ⟨h1, h2, C, τ, ⟨fun n => ?_, fun t => ?_, ?_, h3.lt, h3.glob⟩, h4, fun t k' hl hk' => h5 t k' (by rw [put_tk] at hl; exact hl) hk', fun t ht h0 => h6 t ht (by rw [put_S] at h0; exact h0)⟩
  · rw [put_S, put_sl]
    split
    · rename_i e
      cases e
      exact frzV_RP h3 foot sh (h3.slots s)
    · exact h3.slots n
  · rw [put_S, put_tk]; exact h3.toks t
  · rw [put_tk]; exact h3.dist
end

section
variable {P : Program} {Q : Exit → Act → World → Prop}
/-- A loop by a numbered invariant. -/
theorem wp_loop_ix {c : Code} (I : Nat → Act → World → Prop) (round : ∀ n a w, I n a w → c.wp P (Exit.then (fun a' w' => ∃ m, m < n ∧ I m a' w') Q) a w) (n : Nat) (a : Act) (w : World) (h₀ : I n a w) :
    (Code.loop c).wp P Q a w := by
  intro b k cs
  have key : ∀ n a w, I n a w → ∃ e a' w', Q e a' w' ∧ Arrives P (lone (b.at a (.code c :: .inLoop c :: k)) cs w) b k cs e a' w' := by
    intro n
    induction n using Nat.strongRecOn with
    | _ n ih =>
      intro a w hI
      obtain ⟨e, a₁, w₁, hq, harr⟩ := round n a w hI b (.inLoop c :: k) cs
      cases e with
      | normal =>
        obtain ⟨m, hlt, hI₁⟩ := hq
        obtain ⟨e₂, a₂, w₂, hq₂, harr₂⟩ := ih m hlt a₁ w₁ hI₁
        exact ⟨e₂, a₂, w₂, hq₂, .of_steps (Steps.trans harr (.one step_inLoop)) harr₂⟩
      | exit id => exact ⟨_, a₁, w₁, hq, .pass (x := .inLoop c) rfl (fun _ _ => .inl (by simp)) harr⟩
      | goto l => exact ⟨_, a₁, w₁, hq, .pass (x := .inLoop c) rfl (fun _ _ => .inl (by simp)) harr⟩
      | ret => exact ⟨_, a₁, w₁, hq, .pass (x := .inLoop c) rfl (fun _ _ => .inl (by simp)) harr⟩
      | panic ch => exact ⟨_, a₁, w₁, hq, .pass (x := .inLoop c) rfl (fun _ _ => .inl (by simp)) harr⟩
      | outgrown => exact ⟨_, a₁, w₁, hq, .pass (x := .inLoop c) rfl (fun _ _ => .inl (by simp)) harr⟩
  obtain ⟨e, a', w', hq, harr⟩ := key n a w h₀
  exact ⟨e, a', w', hq, .of_steps (.one step_loop) harr⟩
end

def PX.toExit : PX → Exit
  | .normal => .normal
  | .exit i => .exit i
  | .ret => .ret

theorem opd_bool {G : Env} {C : Cells} {τ : Tau} {σ : St} {a : Act} {w : World} {c : Operand} {x : PArg} {b : Bool} (hc : opdOk c x = true) (h : Core G C τ σ a.tmps w) (hv : x.val G σ [] = .f (.bool b)) : a.eval c = .bool b := by
  have := opd_RP (G := G) h [] hc
  rw [hv] at this
  generalize a.eval c = v at this
  cases this with
  | f v x hx => cases hx; rfl

theorem pwp_sound {G : Env} {B : Base} : ∀ (pc : PCode) (code : Code), chkC G.P B.n B.k code pc = true → ∀ (Q : PX → St → Prop) (QQ : Exit → Act → World → Prop), (∀ e σ a w, Q e σ → Good G B σ a w → QQ e.toExit a w) →
    ∀ (σ : St) (a : Act) (w : World), pwp G pc Q σ → Good G B σ a w → code.wp G.P QQ a w := by
  intro pc
  induction pc with
  | skip =>
    intro code hc Q QQ hQ σ a w h hg
    have hn := hQ .normal σ a w h hg
    cases code with
    | skip => exact wp_skip hn
    | label l => exact wp_label hn
    | _ => simp [chkC] at hc
  | scope p ih =>
    intro code hc Q QQ hQ σ a w h hg
    cases code <;> simp [chkC] at hc
    rename_i x
    refine wp_scope_straight (ih x hc Q _ (fun e σ' a' w' hq hg' => ?_) σ a w h hg)
    have := hQ e σ' a' w' hq hg'
    cases e <;> exact this
  | exit id =>
    intro code hc Q QQ hQ σ a w h hg
    cases code <;> simp [chkC] at hc
    subst hc
    exact wp_exit (hQ (.exit _) σ a w h hg)
  | ret =>
    intro code hc Q QQ hQ σ a w h hg
    cases code <;> simp [chkC] at hc
    exact wp_ret (hQ .ret σ a w h hg)
  | seq p q ihp ihq =>
    intro code hc Q QQ hQ σ a w h hg
    cases code <;> simp [chkC] at hc
    rename_i x y
    refine wp_seq (ihp x hc.1 _ _ (fun e σ' a' w' hq hg' => ?_) σ a w h hg)
    cases e with
    | normal => exact ihq y hc.2 Q QQ hQ σ' a' w' hq hg'
    | exit id => exact hQ (.exit id) σ' a' w' hq hg'
    | ret => exact hQ .ret σ' a' w' hq hg'
  | cond c p q ihp ihq =>
    intro code hc Q QQ hQ σ a w h hg
    cases code <;> simp [chkC] at hc
    rename_i c' x y
    obtain ⟨b, hb, h1, h2⟩ := h
    obtain ⟨_, _, C, τ, hcore, _⟩ := hg.core |> fun hh => (⟨hg.defers, hg.size, hh⟩ : a.defers = [] ∧ a.tmps.size = B.n ∧ _)
    refine wp_cond_split (opd_bool hc.1.1 hcore hb) (fun e => ?_) (fun e => ?_)
    · exact ihp x hc.1.2 Q QQ hQ σ a w (h1 e) hg
    · exact ihq y hc.2 Q QQ hQ σ a w (h2 e) hg
  | block id p ih =>
    intro code hc Q QQ hQ σ a w h hg
    cases code <;> simp [chkC] at hc
    rename_i id' x
    obtain ⟨rfl, hc⟩ := hc
    refine wp_block (ih x hc _ _ (fun e σ' a' w' hq hg' => ?_) σ a w h hg)
    cases e with
    | normal => exact hQ .normal σ' a' w' hq hg'
    | exit i =>
      simp only [PX.inBlock] at hq
      simp only [PX.toExit, Exit.inBlock]
      split
      · rename_i e; rw [if_pos e] at hq; exact hQ .normal σ' a' w' hq hg'
      · rename_i e; rw [if_neg e] at hq; exact hQ (.exit i) σ' a' w' hq hg'
    | ret => exact hQ .ret σ' a' w' hq hg'
  | loop p ih =>
    intro code hc Q QQ hQ σ a w h hg
    cases code <;> simp [chkC] at hc
    rename_i x
    obtain ⟨I, ⟨n, hn⟩, hround⟩ := h
    refine wp_loop_ix (fun n a w => ∃ σ', I n σ' ∧ Good G B σ' a w) (fun n a' w' hI => ?_) n a w ⟨σ, hn, hg⟩
    obtain ⟨σ', hI, hg'⟩ := hI
    refine ih x hc _ _ (fun e σ2 a2 w2 hq hg2 => ?_) σ' a' w' (hround n σ' hI) hg'
    cases e with
    | normal => obtain ⟨m, hm, hI2⟩ := hq; exact ⟨m, hm, σ2, hI2, hg2⟩
    | exit i => exact hQ (.exit i) σ2 a2 w2 hq hg2
    | ret => exact hQ .ret σ2 a2 w2 hq hg2
  | gh g p ih =>
    intro code hc Q QQ hQ σ a w h hg
    obtain ⟨σ', h1, h2⟩ := h
    cases g with
    | keep sl tk =>
      simp only [chkC, Bool.and_eq_true, List.all_eq_true, List.mem_range, decide_eq_true_eq] at hc
      simp only [ghSt, Option.some.injEq] at h1
      subst h1
      exact ih code hc.2 Q QQ hQ _ a w h2 (good_keep (fun t ht => by simpa using hc.1.1 t ht) hc.1.2 hg)
    | fz t =>
      have hc' : chkC G.P B.n B.k code p = true := by cases code <;> simpa [chkC] using hc
      simp only [ghSt] at h1
      split at h1
      · rename_i e sz l u xs hr
        simp only [Option.some.injEq] at h1
        subst h1
        exact ih code hc' Q QQ hQ _ a w h2 (good_fz hr hg)
      · simp only [Option.some.injEq] at h1
        subst h1
        exact ih code hc' Q QQ hQ _ a w h2 hg
    | fzb t =>
      have hc' : chkC G.P B.n B.k code p = true := by cases code <;> simpa [chkC] using hc
      simp only [ghSt] at h1
      split at h1
      · rename_i ty cs hr
        simp only [Option.some.injEq] at h1
        subst h1
        exact ih code hc' Q QQ hQ _ a w h2 (good_fzb hr hg)
      · simp only [Option.some.injEq] at h1
        subst h1
        exact ih code hc' Q QQ hQ _ a w h2 hg
    | own s t e sz =>
      simp only [chkC, Bool.and_eq_true, decide_eq_true_eq] at hc
      simp only [ghSt] at h1
      split at h1
      case h_2 => cases h1
      rename_i hs
      simp only [Option.some.injEq] at h1
      subst h1
      exact ih code hc.2 Q QQ hQ _ a w h2 (good_own hs hc.1 hg)
    | ownc t o u e sz =>
      have hc' : chkC G.P B.n B.k code p = true := by cases code <;> simpa [chkC] using hc
      simp only [ghSt] at h1
      split at h1
      case h_2 => cases h1
      rename_i ty cs hb
      split at h1
      case h_2 => cases h1
      rename_i ho
      split at h1
      case isTrue => cases h1
      rename_i hne
      simp only [Option.some.injEq] at h1
      subst h1
      exact ih code hc' Q QQ hQ _ a w h2 (good_ownc hb ho hne hg)
    | cv s sh foot =>
      simp only [chkC, Bool.and_eq_true, decide_eq_true_eq] at hc
      simp only [ghSt, Option.some.injEq] at h1
      subst h1
      exact ih code hc.2 Q QQ hQ _ a w h2 (good_cv hc.1 hg)
  | region ps pre =>
    intro code hc Q QQ hQ σ a w h hg
    cases code <;> simp [chkC] at hc
    rename_i id ops draw
    obtain ⟨s, s0, hs, hq⟩ := pOps_chain ps σ h
    have hlen := (chkOps_spec hc.1).1
    rw [hlen] at hq
    have base : ∀ w, Good G B σ a w → ∃ C τ, Core G C τ σ a.tmps w ∧ (∀ a' w' C' τ', Core G C' τ' (s ops.size) a'.tmps w' → a'.defers = a.defers → a'.tmps.size = a.tmps.size → Nxt τ σ C w τ' (s ops.size) C' w' → QQ .normal a' w') := by
      intro w hg
      obtain ⟨h1, h2, C, τ, h3, h4, h5, h6⟩ := hg
      exact ⟨C, τ, h3, fun a' w' C' τ' hc' hd hn hN => hQ .normal _ a' w' hq (good_next h1 h2 h4 h5 h6 hc' hd hn hN)⟩
    cases draw with
    | false =>
      obtain ⟨C, τ, hcore, hfin⟩ := base w hg
      have := wpOps_chain (Q := QQ) hc.1 hs ops.size 0 (by omega) a w C τ (by rw [s0]; exact hcore) hg.size (by rw [s0]; exact hfin)
      simp only [Nat.add_zero, List.map_id'] at this
      exact wp_region this
    | true =>
      simp at hc
      obtain ⟨C, τ, hcore, hfin⟩ := base _ (hg.drew (w.drawn + 1))
      have hz : SO ps s (fun j => (Array.replicate ops.size false).getD j false) ops.size = σ := by
        rw [SO_skip (i := 0) ops.size (Nat.zero_le _) fun j _ hj => by simp [hj]]
        exact s0
      refine wp_region_any hc.2.1 (wpAny_chain hc.1 hc.2.2 hs ops.size _ (by simp) (fun m j hm hl hj => by simp [hm] at hl) ?_ a _ C τ (by rw [hz]; exact hcore) hg.size (by rw [hz]; exact hfin))
      exact Nat.le_trans List.countP_le_length (by simp)
end Go.Absw

/- The abstract machine, its twenty-eighth part: a function's body shows its contract. Conditions: the check. -/
namespace Go.Absw
open Go

/-- A result: a temporary, or a variable in memory of one cell or of more. -/
inductive RArg where
  | s (n : Nat) (sh : List (Option Nat)) (foot : List Nat)
  | c1 (n : Nat) (sh : List (Option Nat)) (foot : List Nat)
  | cn (n m : Nat) (sh : List (Option Nat)) (foot : List Nat)
def ptrFoot : PV → List Nat
  | .ptr t _ _ _ => [t]
  | _ => []
def RArg.val (σ : St) : RArg → Option PV
  | .s n sh foot => some (frzV σ foot sh (σ.sl n))
  | .c1 n sh foot => (semR σ (ptrFoot (σ.sl n)) .ld1 [σ.sl n]).map (frzV σ foot sh)
  | .cn n m sh foot => (semR σ (ptrFoot (σ.sl n)) (.ldn m) [σ.sl n]).map (frzV σ foot sh)
def rvals (σ : St) : List RArg → Option (List PV)
  | [] => some []
  | r :: q => (r.val σ).bind fun x => (rvals σ q).map (x :: ·)
def resPV : List PV → PV
  | [x] => x
  | xs => .tup xs
def oM (σ : St) (k : Nat) (N : List Nat) (t : Nat) : Option (Nat × Nat × Nat) :=
  if t < k then some (t, (σ.tk t).st, (σ.tk t).st) else (pos N t).map fun j => (k + j, (σ.tk t).st, 0)
def outSt (σ : St) (k : Nat) (N : List Nat) (rs : List RArg) : Option Out :=
  (rvals σ rs).map fun xs => ⟨dn (oM σ k N) (resPV xs), (List.range k).map fun t => ⟨(σ.tk t).st, dnC (oM σ k N) (σ.tk t).c⟩, N.map fun t => ⟨0, dnC (oM σ k N) (σ.tk t).c⟩⟩
def resOk (P : Program) : List ResultVar → List RArg → Bool
  | [], [] => true
  | .tmp t :: r, .s n _ _ :: q => t == n && resOk P r q
  | .cell a t :: r, .c1 n _ _ :: q => a == n && sizeIs P t 1 && aggIs P t false && resOk P r q
  | .cell a t :: r, .cn n m _ _ :: q => a == n && sizeIs P t m && aggIs P t true && resOk P r q
  | _, _ => false

section
variable {G : Env} {C : Cells} {τ : Tau} {σ : St} {tm : Array Value} {w : World} {P : Program}

theorem loadAt_asAddr {t : TypeId} {v u : Value} (h : (Instr.loadAt t v).run P w = .ok u w) : (do loadVar t (← asAddr v) : Sem Value).run P w = .ok u w := by
  cases v with
  | pointer a =>
    cases a with
    | some a => exact h
    | none => simp [Instr.loadAt, Instr.sureAddr] at h
  | _ => simp [Instr.loadAt, Instr.sureAddr] at h

def resOf (tm : Array Value) (r : ResultVar) : Sem Value := match r with
  | .tmp t => pure (tm.getD t undef)
  | .cell a t => do loadVar t (← asAddr (tm.getD a undef))

theorem res_run (h : Core G C τ σ tm w) : ∀ (rv : List ResultVar) (rs : List RArg) (xs : List PV), resOk G.P rv rs = true → rvals σ rs = some xs →
    ∃ vs : List Value, (rv.mapM (resOf tm)).run G.P w = .ok vs w ∧ vs.length = xs.length ∧ ∀ (i : Nat) v x, vs[i]? = some v → xs[i]? = some x → RP C σ.S τ w v x := by
  intro rv
  induction rv with
  | nil =>
    intro rs xs ho hx
    cases rs with
    | nil => simp [rvals] at hx; subst hx; exact ⟨[], by simp, rfl, fun i v x hv => by simp at hv⟩
    | cons a q => simp [resOk] at ho
  | cons r rv ih =>
    intro rs xs ho hx
    cases rs with
    | nil => cases r <;> simp [resOk] at ho
    | cons a q =>
      simp only [rvals] at hx
      obtain ⟨x, hx1, hx⟩ := Option.bind_eq_some_iff.1 hx
      obtain ⟨ys, hys, rfl⟩ := Option.map_eq_some_iff.1 hx
      have key : resOk G.P rv q = true ∧ ∃ v, (resOf tm r).run G.P w = .ok v w ∧ RP C σ.S τ w v x := by
        cases r with
        | tmp t =>
          cases a with
          | s n sh foot =>
            simp only [resOk, Bool.and_eq_true, beq_iff_eq] at ho
            obtain ⟨rfl, ho⟩ := ho
            simp only [RArg.val, Option.some.injEq] at hx1
            subst hx1
            exact ⟨ho, _, by simp [resOf], frzV_RP h foot sh (h.slots t)⟩
          | c1 n sh foot => simp [resOk] at ho
          | cn n m sh foot => simp [resOk] at ho
        | cell b t =>
          cases a with
          | s n sh foot => simp [resOk] at ho
          | c1 n sh foot =>
            simp only [resOk, Bool.and_eq_true, beq_iff_eq] at ho
            obtain ⟨⟨⟨rfl, h1⟩, h2⟩, ho⟩ := ho
            simp only [RArg.val] at hx1
            obtain ⟨y, hy, rfl⟩ := Option.map_eq_some_iff.1 hx1
            obtain ⟨u, e1, e2⟩ := ld1_sound h h1 h2 (h.slots b) hy
            exact ⟨ho, u, loadAt_asAddr e1, frzV_RP h foot sh e2⟩
          | cn n m sh foot =>
            simp only [resOk, Bool.and_eq_true, beq_iff_eq] at ho
            obtain ⟨⟨⟨rfl, h1⟩, h2⟩, ho⟩ := ho
            simp only [RArg.val] at hx1
            obtain ⟨y, hy, rfl⟩ := Option.map_eq_some_iff.1 hx1
            obtain ⟨u, e1, e2⟩ := ldn_sound h h1 h2 (h.slots b) hy
            exact ⟨ho, u, loadAt_asAddr e1, frzV_RP h foot sh e2⟩
      obtain ⟨ho', v, hv, hrp⟩ := key
      obtain ⟨vs, hvs, hlen, hr⟩ := ih q ys ho' hys
      refine ⟨v :: vs, ?_, by simp [hlen], fun i u z hu hz => ?_⟩
      · rw [List.mapM_cons]
        simp [hv, hvs]
      · cases i with
        | zero => simp at hu hz; subst hu; subst hz; exact hrp
        | succ i => exact hr i u z (by simpa using hu) (by simpa using hz)

theorem results_run (h : Core G C τ σ tm w) {fn : Func} {rs : List RArg} {xs : List PV} (ho : resOk G.P fn.results.toList rs = true) (hx : rvals σ rs = some xs) :
    ∃ v, (results fn tm).run G.P w = .ok v w ∧ RP C σ.S τ w v (resPV xs) := by
  obtain ⟨vs, h1, h2, h3⟩ := res_run h _ _ _ ho hx
  have hm : (fn.results.mapM (resOf tm)).run G.P w = .ok vs.toArray w := by
    rw [Array.mapM_eq_mapM_toList]
    simp [h1]
  have hres : (results fn tm).run G.P w = .ok (if h : vs.toArray.size = 1 then vs.toArray[0] else .tuple vs.toArray) w := by
    have : results fn tm = (do let vs ← fn.results.mapM (resOf tm); pure (if h : vs.size = 1 then vs[0] else .tuple vs)) := rfl
    rw [this]
    simp [hm]
  refine ⟨_, hres, ?_⟩
  have fin : ∀ (vs : List Value) (xs : List PV), vs.length = xs.length → (∀ (i : Nat) v x, vs[i]? = some v → xs[i]? = some x → RP C σ.S τ w v x) →
      RP C σ.S τ w (if h : vs.toArray.size = 1 then vs.toArray[0] else .tuple vs.toArray) (resPV xs) := by
    intro vs xs h2 h3
    match vs, xs, h2, h3 with
    | [v], [x], _, h3 => exact h3 0 v x rfl rfl
    | [], [], _, _ => exact .tup _ _ rfl (fun i v x hv => by simp at hv)
    | v :: v' :: vr, x :: x' :: xr, hl, h3 =>
      have : ¬ (v :: v' :: vr).toArray.size = 1 := by simp
      rw [dif_neg this]
      exact .tup _ _ (by simpa using hl) (fun i u z hu hz => h3 i u z (by simpa using hu) hz)
  exact fin vs xs h2 h3
end

def entry (i : Inp) : St := ⟨fun n => i.args.getD n .dead, ctk i.toks⟩
def retQ (k : Nat) (N : List Nat) (rs : List RArg) (Q : Out → Prop) : PX → St → Prop
  | .normal, σ => ∃ o, outSt σ k N rs = some o ∧ Q o
  | .ret, σ => ∃ o, outSt σ k N rs = some o ∧ Q o
  | .exit _, _ => False

def chkF (P : Program) (f : FuncId) (k : Nat) (N : List Nat) (na : Nat) (pc : PCode) (rs : List RArg) : Bool := okF P f && match P.funcs[f]? with
  | some fn => (match fn.body with
    | some c => chkC P fn.ntmps k c pc
    | none => false) && resOk P fn.results.toList rs && decide (na ≤ fn.ntmps) && decide N.Nodup && N.all fun t => decide (k ≤ t)
  | none => false

theorem ct_of_body {G : Env} {f : FuncId} {i : Inp} {N : List Nat} {pc : PCode} {rs : List RArg} (hc : chkF G.P f i.toks.length N i.args.length pc rs = true) {o : Out}
    (h : pwp G pc (retQ i.toks.length N rs (· = o)) (entry i)) : CT G f i o := by
  simp only [chkF, Bool.and_eq_true] at hc
  obtain ⟨hok, hc⟩ := hc
  split at hc
  case h_2 => cases hc
  rename_i fn hfn
  simp only [Bool.and_eq_true, decide_eq_true_eq, List.all_eq_true] at hc
  obtain ⟨⟨⟨⟨hc, hres⟩, hna⟩, hnd⟩, hge⟩ := hc
  split at hc
  case h_2 => cases hc
  rename_i c hbody
  refine ⟨hok, fun w C τ vs hvs hargs htoks hdist hlt hglob => ?_⟩
  refine calls_of_wp hfn hbody ?_
  have hsz : (vs ++ Array.replicate (fn.ntmps - vs.size) undef).size = fn.ntmps := by simp; omega
  let B : Base := ⟨C, τ, ctk i.toks, w, fn.ntmps, i.toks.length⟩
  have hS0 : (entry i).S = fun _ => 0 := rfl
  have hgood : Good G B (entry i) { tmps := vs ++ Array.replicate (fn.ntmps - vs.size) undef, defers := [] } w := by
    refine ⟨rfl, hsz, C, τ, ⟨fun n => ?_, fun t => by rw [hS0]; exact htoks t, hdist, hlt, hglob⟩, Stp.refl _ _ _, fun t k' hl hk' => .inl ⟨hl, k', hk', rfl⟩, fun t _ _ => rfl⟩
    rw [hS0]
    simp only [entry]
    by_cases hn : n < i.args.length
    · have e1 : i.args.getD n .dead = i.args[n] := by simp [hn]
      rw [e1]
      have hnv : n < vs.size := by omega
      have e2 : (vs ++ Array.replicate (fn.ntmps - vs.size) undef).getD n undef = vs[n] := by
        rw [Array.getD_eq_getD_getElem?, Array.getElem?_append_left hnv]; simp [hnv]
      rw [e2]
      exact hargs n _ _ (by simp [hnv]) (by simp [hn])
    · have e1 : i.args.getD n .dead = .dead := by simp [List.getElem?_eq_none (Nat.le_of_not_lt hn)]
      rw [e1]; exact .dead _
  refine pwp_sound pc c hc _ _ (fun e σ a w' hq hg => ?_) _ _ w h hgood
  have main : (∃ x, outSt σ i.toks.length N rs = some x ∧ x = o) → bodyPost G.P fn (fun e w' => ∃ v C' τ', e = .returned v ∧ RP C' (fun t => (otk o t).st) τ' w' v o.res ∧ (∀ t, TR C' (fun t => (otk o t).st) τ' w' t (otk o t).c) ∧
      (∀ t t' k k', (otk o t).c.live = true → (otk o t').c.live = true → τ' t = some k → τ' t' = some k' → k.b = k'.b → t = t') ∧
      (∀ t, t < i.toks.length → (otk o t).st = 0 → τ' t = τ t) ∧
      (∀ t, (otk o t).c.live = true → ∀ k', τ' t = some k' → ((ctk i.toks t).c.live = true ∧ ∃ k, τ t = some k ∧ k.b = k'.b) ∨ w.heap.size ≤ k'.b) ∧
      Stp (blks τ (ctk i.toks)) C w C' w' ∧ (∀ b o, C' b o → b < w'.heap.size)) .ret a w' := by
    rintro ⟨x, hx, rfl⟩
    obtain ⟨g1, g2, C', τ', g3, g4, g5, g6⟩ := hg
    obtain ⟨xs, hxs, rfl⟩ := Option.map_eq_some_iff.1 hx
    obtain ⟨v, hv, hrv⟩ := results_run g3 hres hxs
    refine ⟨g1, v, hv, ?_⟩
    generalize hk : i.toks.length = k at *
    -- the output's names
    let src : Nat → Option Nat := fun n => if n < k then some n else N[n - k]?
    let τ2 : Tau := fun n => (src n).bind τ'
    let out : Out := ⟨dn (oM σ k N) (resPV xs), (List.range k).map fun t => ⟨(σ.tk t).st, dnC (oM σ k N) (σ.tk t).c⟩, N.map fun t => ⟨0, dnC (oM σ k N) (σ.tk t).c⟩⟩
    have hotk : ∀ n, (∃ t, src n = some t ∧ otk out n = ⟨if n < k then (σ.tk t).st else 0, dnC (oM σ k N) (σ.tk t).c⟩) ∨ (src n = none ∧ otk out n = ⟨0, .gone⟩) := by
      intro n
      simp only [otk, out, src, List.getD_eq_getElem?_getD]
      by_cases hn : n < k
      · left
        refine ⟨n, by simp [hn], ?_⟩
        rw [List.getElem?_append_left (by simpa using hn)]
        simp [hn]
      · rw [List.getElem?_append_right (by simpa using hn)]
        simp only [List.length_map, List.length_range, List.getElem?_map, if_neg hn]
        cases N[n - k]? with
        | none => right; exact ⟨rfl, rfl⟩
        | some t => left; exact ⟨t, rfl, rfl⟩
    have hτ2 : ∀ {n t}, src n = some t → τ2 n = τ' t := by intro n t h; simp only [τ2, h, Option.bind_some]
    have hinj : ∀ {n n' t}, src n = some t → src n' = some t → n = n' := by
      intro n n' t h h'
      simp only [src] at h h'
      split at h
      · rename_i h1
        cases h
        split at h'
        · cases h'; rfl
        · have := hge _ (List.mem_of_getElem? h')
          omega
      · rename_i h1
        split at h'
        · cases h'
          have := hge _ (List.mem_of_getElem? h)
          omega
        · rename_i h2
          have e1 := pos_of_get hnd h
          have e2 := pos_of_get hnd h'
          rw [e1] at e2
          have := Option.some.inj e2
          omega
    have hm : ∀ t n c d, oM σ k N t = some (n, c, d) → c = σ.S t ∧ (fun t => (otk out t).st) n = d ∧ τ2 n = τ' t := by
      intro t n c d h
      simp only [oM] at h
      have fin : ∀ m, src m = some t → (if m < k then (σ.tk t).st else 0) = d → (otk out m).st = d ∧ τ2 m = τ' t := by
        intro m h1 h2
        rcases hotk m with ⟨t', e1, e2⟩ | ⟨e1, e2⟩
        · rw [h1] at e1; cases e1
          exact ⟨by rw [e2]; exact h2, hτ2 h1⟩
        · rw [h1] at e1; cases e1
      split at h
      · rename_i hlt
        simp only [Option.some.injEq, Prod.mk.injEq] at h
        obtain ⟨rfl, rfl, rfl⟩ := h
        exact ⟨rfl, fin t (by simp only [src, if_pos hlt]) (by rw [if_pos hlt])⟩
      · rename_i hlt
        obtain ⟨j, hj, h⟩ := Option.map_eq_some_iff.1 h
        simp only [Prod.mk.injEq] at h
        obtain ⟨rfl, rfl, rfl⟩ := h
        have hkj : ¬ k + j < k := by omega
        have hkk : k + j - k = j := by omega
        exact ⟨rfl, fin (k + j) (by simp only [src, if_neg hkj, hkk]; exact pos_some hj) (by rw [if_neg hkj])⟩
    refine ⟨v, C', τ2, rfl, dn_RP hm hrv, fun n => ?_, fun n n' b b' hl hl' hb hb' he => ?_, fun n hn h0 => ?_, fun n hl b hb => ?_, g4, g3.lt⟩
    · rcases hotk n with ⟨t, e1, e2⟩ | ⟨e1, e2⟩
      · show TR C' _ τ2 w' n (otk out n).c
        rw [e2]
        exact dnC_TR hm (hτ2 e1) (g3.toks t)
      · show TR C' _ τ2 w' n (otk out n).c
        rw [e2]; trivial
    · have hl1 : (otk out n).c.live = true := hl
      have hl2 : (otk out n').c.live = true := hl'
      rcases hotk n with ⟨t, e1, e2⟩ | ⟨e1, e2⟩
      · rcases hotk n' with ⟨t', e1', e2'⟩ | ⟨e1', e2'⟩
        · rw [e2, dnC_live] at hl1
          rw [e2', dnC_live] at hl2
          have := g3.dist t t' b b' hl1 hl2 (hτ2 e1 ▸ hb) (hτ2 e1' ▸ hb') he
          subst this
          exact hinj e1 e1'
        · rw [e2'] at hl2; cases hl2
      · rw [e2] at hl1; cases hl1
    · have e1 : src n = some n := by simp [src, hn]
      rw [hτ2 e1]
      refine g6 n (by show n < i.toks.length; omega) ?_
      rcases hotk n with ⟨t, e1', e2⟩ | ⟨e1', e2⟩
      · rw [e1] at e1'; cases e1'
        have h0' : (otk out n).st = 0 := h0
        rw [e2] at h0'
        simp only [if_pos hn] at h0'
        exact h0'
      · rw [e1] at e1'; cases e1'
    · have hl1 : (otk out n).c.live = true := hl
      rcases hotk n with ⟨t, e1, e2⟩ | ⟨e1, e2⟩
      · rw [e2, dnC_live] at hl1
        rw [hτ2 e1] at hb
        rcases g5 t b hl1 hb with ⟨f1, f2⟩ | f1
        · left
          have : n = t := by
            simp only [src] at e1
            split at e1
            · cases e1; rfl
            · rename_i hnk
              have hge' := hge t (List.mem_of_getElem? e1)
              have hnone : ctk i.toks t = ⟨0, .gone⟩ := by
                simp only [ctk]
                rw [List.getD_eq_getElem?_getD, List.getElem?_eq_none (by omega)]; rfl
              have f1' : (ctk i.toks t).c.live = true := f1
              rw [hnone] at f1'; cases f1'
          subst this
          exact ⟨f1, f2⟩
        · exact .inr f1
      · rw [e2] at hl1; cases hl1
  cases e with
  | normal => exact main hq
  | ret => exact main hq
  | exit id => exact hq.elim
end Go.Absw

/- The abstract machine, its twenty-ninth part: rules by which the walk is taken step by step. Conditions: none. -/
namespace Go.Absw
open Go

theorem w64 {n : Int} (h : -9223372036854775808 ≤ n ∧ n ≤ 9223372036854775807) : IntKind.i64.wrap n = n := by
  rw [IntKind.wrap_i64]; omega

/-- The next state, if there is one. -/
def lOpt (o : Option St) (K : St → Prop) : Prop := ∃ σ', o = some σ' ∧ K σ'
@[simp] theorem lOpt_some (σ : St) (K : St → Prop) : lOpt (some σ) K = K σ := by simp [lOpt]
@[simp] theorem lOpt_none (K : St → Prop) : lOpt none K = False := by simp [lOpt]
/-- By the guard's value. -/
def gcase (v : PV) (b : Bool) (K : St → Prop) (po : POp) (G : Env) (σ : St) : Prop := match v with
  | .f (.bool x) => if x = b then pStep G po K σ else K (σ.put po.dst (.tup []))
  | .tup [] => K (σ.put po.dst (.tup []))
  | _ => False
section
variable (K : St → Prop) (po : POp) (G : Env) (σ : St)
@[simp] theorem gcase_t : gcase (.f (.bool true)) true K po G σ = pStep G po K σ := rfl
@[simp] theorem gcase_f : gcase (.f (.bool false)) true K po G σ = K (σ.put po.dst (.tup [])) := rfl
@[simp] theorem gcase_t' : gcase (.f (.bool true)) false K po G σ = K (σ.put po.dst (.tup [])) := rfl
@[simp] theorem gcase_f' : gcase (.f (.bool false)) false K po G σ = pStep G po K σ := rfl
@[simp] theorem gcase_n (b : Bool) : gcase (.tup []) b K po G σ = K (σ.put po.dst (.tup [])) := rfl
end

/-- A call. -/
def pCall (G : Env) (k : CK) (A N : List Nat) (dst : Option Nat) (vs : List PV) (σ : St) (K : St → Prop) : Prop :=
  ∃ f as out σ', callee k vs = some (f, as) ∧ CT G f (callInp σ A as) out ∧ stepCall σ A N dst out = some σ' ∧ K σ'

section
variable {G : Env} {Q : St → Prop} {σ : St} {d : Option Nat} {ft : List Nat} {nid : Nat} {as : List PArg} {r : List POp}

@[simp] theorem pOps_nil : pOps G [] Q σ = Q σ := rfl
theorem pStep_det {po : POp} (h : ∀ k A N, po.k ≠ .call k A N) : pStep G po Q σ = lOpt (lstep G po σ) Q := by
  obtain ⟨d, g, ft, nid, k, as⟩ := po
  cases k with
  | call k A N => exact absurd rfl (h k A N)
  | _ => rfl
@[simp] theorem pStep_r {g : Option (Nat × Bool)} {k : RK} : pStep G ⟨d, g, ft, nid, .r k, as⟩ Q σ = lOpt ((semR σ ft k (as.map (·.val G σ ft))).map (σ.put d)) Q := rfl
@[simp] theorem pStep_a {g : Option (Nat × Bool)} {k : AK} : pStep G ⟨d, g, ft, nid, .a k, as⟩ Q σ =
    lOpt ((semA nid ((σ.tk nid).st + 1) k (as.map (·.val G σ ft))).map fun x => (σ.setT nid ⟨(σ.tk nid).st + 1, x.2⟩).put d x.1) Q := rfl
@[simp] theorem pStep_st {g : Option (Nat × Bool)} {n : Nat} : pStep G ⟨d, g, ft, nid, .st n, as⟩ Q σ = lOpt (stepW σ ft n (as.map (·.val G σ ft))) Q := rfl
@[simp] theorem pStep_app {g : Option (Nat × Bool)} {e sz b : Nat} : pStep G ⟨d, g, ft, nid, .app e sz b, as⟩ Q σ =
    lOpt ((semApp σ ft nid e sz b (as.map (·.val G σ ft))).map fun x => (σ.setT x.1 ⟨(σ.tk x.1).st + 1, x.2.1⟩).put d x.2.2) Q := rfl
@[simp] theorem pStep_az {g : Option (Nat × Bool)} {k : AK} : pStep G ⟨d, g, ft, nid, .az k, as⟩ Q σ =
    lOpt ((semA nid ((σ.tk nid).st + 1) k (as.map (·.val G σ ft))).bind (azp σ nid d)) Q := rfl
@[simp] theorem pStep_appz {g : Option (Nat × Bool)} {e sz b : Nat} : pStep G ⟨d, g, ft, nid, .appz e sz b, as⟩ Q σ =
    lOpt ((semApp σ ft nid e sz b (as.map (·.val G σ ft))).bind (apz σ d)) Q := rfl
@[simp] theorem pStep_call {g : Option (Nat × Bool)} {k : CK} {A N : List Nat} : pStep G ⟨d, g, ft, nid, .call k A N, as⟩ Q σ = pCall G k A N d (as.map (·.val G σ ft)) σ Q := rfl
@[simp] theorem pOps_n {k : PK} : pOps G (⟨d, none, ft, nid, k, as⟩ :: r) Q σ = pStep G ⟨d, none, ft, nid, k, as⟩ (pOps G r Q) σ := by
  apply propext
  simp [pOps, gval]
@[simp] theorem pOps_g {k : PK} {s : Nat} {b : Bool} : pOps G (⟨d, some (s, b), ft, nid, k, as⟩ :: r) Q σ =
    gcase (σ.sl s) b (pOps G r Q) ⟨d, some (s, b), ft, nid, k, as⟩ G σ := by
  apply propext
  simp only [pOps, gval, gcase]
  generalize σ.sl s = v
  cases v with
  | f y =>
    cases y with
    | bool x => cases x <;> cases b <;> simp
    | _ => simp
  | tup l => cases l <;> simp
  | _ => simp
theorem pCall_of {k : CK} {A N : List Nat} {vs : List PV} {K : St → Prop} {f : FuncId} {as : List PV} {i : Inp} {out : Out} {σ' : St} (hf : callee k vs = some (f, as)) (hc : CT G f i out) (hi : callInp σ A as = i)
    (hs : stepCall σ A N d out = some σ') (hK : K σ') : pCall G k A N d vs σ K := ⟨f, as, out, σ', hf, hi ▸ hc, hs, hK⟩

/-- A function without tokens. -/
theorem pCall_pure {k : CK} {vs : List PV} {K : St → Prop} {f : FuncId} {as : List PV} {x : PV} (hc : CT G f ⟨as, []⟩ ⟨x, [], []⟩) (hf : callee k vs = some (f, as)) (hd : dnL (fun _ => none) as = as)
    (hu : up (fun _ => none) x = x) (hK : K (σ.put d x)) : pCall G k [] [] d vs σ K := by
  refine ⟨f, as, ⟨x, [], []⟩, σ.put d x, hf, ?_, ?_, hK⟩
  · have : callInp σ [] as = ⟨as, []⟩ := by simp only [callInp, List.map_nil]; congr 1
    rw [this]; exact hc
  · have e1 : (⟨σ.sl, newT σ [] [] []⟩ : St) = σ := by
      cases σ; congr 1
    have e2 : mUp σ [] [] = fun _ => none := by funext t; simp [mUp]
    simp only [stepCall, List.length_nil, and_self, if_true, List.append_nil, e1, e2, hu]
end

section
variable {G : Env} {Q : PX → St → Prop} {σ : St}
@[simp] theorem pwp_scope {a : PCode} : pwp G (.scope a) Q σ = pwp G a Q σ := rfl
@[simp] theorem pwp_skip : pwp G .skip Q σ = Q .normal σ := rfl
@[simp] theorem pwp_region {ops : List POp} {pre : List (List Nat)} : pwp G (.region ops pre) Q σ = pOps G ops (Q .normal) σ := rfl
@[simp] theorem pwp_seq {a b : PCode} : pwp G (.seq a b) Q σ = pwp G a (PX.then (pwp G b Q) Q) σ := rfl
@[simp] theorem pwp_block {i : Nat} {a : PCode} : pwp G (.block i a) Q σ = pwp G a (PX.inBlock i Q) σ := rfl
@[simp] theorem pwp_exit {i : Nat} : pwp G (.exit i) Q σ = Q (.exit i) σ := rfl
@[simp] theorem pwp_ret : pwp G .ret Q σ = Q .ret σ := rfl
@[simp] theorem pwp_gh {g : Gh} {a : PCode} : pwp G (.gh g a) Q σ = lOpt (ghSt g σ) (pwp G a Q) := rfl
@[simp] theorem then_n {K : St → Prop} : PX.then K Q .normal σ = K σ := rfl
@[simp] theorem then_e {K : St → Prop} {i : Nat} : PX.then K Q (.exit i) σ = Q (.exit i) σ := rfl
@[simp] theorem then_r {K : St → Prop} : PX.then K Q .ret σ = Q .ret σ := rfl
@[simp] theorem then_nf {K : St → Prop} : PX.then K Q .normal = K := rfl
@[simp] theorem then_ef {K : St → Prop} {i : Nat} : PX.then K Q (.exit i) = Q (.exit i) := rfl
@[simp] theorem then_rf {K : St → Prop} : PX.then K Q .ret = Q .ret := rfl
@[simp] theorem blk_nf {i : Nat} : PX.inBlock i Q .normal = Q .normal := rfl
@[simp] theorem blk_rf {i : Nat} : PX.inBlock i Q .ret = Q .ret := rfl
@[simp] theorem blk_n {i : Nat} : PX.inBlock i Q .normal σ = Q .normal σ := rfl
@[simp] theorem blk_e {i j : Nat} : PX.inBlock i Q (.exit j) σ = if j = i then Q .normal σ else Q (.exit j) σ := rfl
@[simp] theorem blk_r {i : Nat} : PX.inBlock i Q .ret σ = Q .ret σ := rfl

@[simp] theorem then_then {K K' : St → Prop} : PX.then K (PX.then K' Q) = PX.then K Q := by funext e σ; cases e <;> rfl

/-- By the condition's value. -/
def ccase (v : PV) (K1 K0 : St → Prop) (σ : St) : Prop := match v with
  | .f (.bool x) => (x = true → K1 σ) ∧ (x = false → K0 σ)
  | _ => False
@[simp] theorem ccase_t (K1 K0 : St → Prop) : ccase (.f (.bool true)) K1 K0 σ = K1 σ := by simp [ccase]
@[simp] theorem ccase_f (K1 K0 : St → Prop) : ccase (.f (.bool false)) K1 K0 σ = K0 σ := by simp [ccase]
theorem ccase_i {x : Bool} {K1 K0 : St → Prop} (h1 : x = true → K1 σ) (h0 : x = false → K0 σ) : ccase (.f (.bool x)) K1 K0 σ := ⟨h1, h0⟩
@[simp] theorem pwp_cond {c : PArg} {a b : PCode} : pwp G (.cond c a b) Q σ = ccase (c.val G σ []) (pwp G a Q) (pwp G b Q) σ := by
  apply propext
  simp only [pwp, ccase]
  constructor
  · rintro ⟨x, hx, h⟩; rw [hx]; exact h
  · intro h
    split at h
    · rename_i x hx; exact ⟨x, hx, h⟩
    · exact h.elim

/-- A loop whose state is kept at its head. -/
theorem pwp_loop {α : Type} {sl tk : List Nat} {body : PCode} (S : α → St) (R : α → Prop) (μ : α → Nat) (a : α) (h0 : R a) (h1 : keepSt σ sl tk = S a)
    (hs : ∀ a, R a → pwp G body (PX.then (fun σ' => ∃ b, R b ∧ μ b < μ a ∧ keepSt σ' sl tk = S b) Q) (S a)) : pwp G (.loop (.gh (.keep sl tk) body)) Q σ := by
  refine ⟨fun n σ => ∃ a, R a ∧ μ a = n ∧ keepSt σ sl tk = S a, ⟨μ a, a, h0, rfl, h1⟩, fun n σ' hI => ?_⟩
  obtain ⟨a, ha, rfl, hk⟩ := hI
  refine ⟨_, rfl, ?_⟩
  rw [hk]
  have e : (fun σ'' => ∃ m, m < μ a ∧ ∃ b, R b ∧ μ b = m ∧ keepSt σ'' sl tk = S b) = (fun σ' => ∃ b, R b ∧ μ b < μ a ∧ keepSt σ' sl tk = S b) := by
    funext σ''
    apply propext
    constructor
    · rintro ⟨m, hm, b, hb, rfl, h⟩; exact ⟨b, hb, hm, h⟩
    · rintro ⟨b, hb, hm, h⟩; exact ⟨_, hm, b, hb, rfl, h⟩
  rw [e]
  exact hs a ha

/-- What holds behind is weakened. -/
theorem lOpt_mono {o : Option St} {K K' : St → Prop} (h : lOpt o K) (hk : ∀ σ, K σ → K' σ) : lOpt o K' := let ⟨σ, h1, h2⟩ := h; ⟨σ, h1, hk _ h2⟩
theorem pStep_mono {po : POp} {K K' : St → Prop} (h : pStep G po K σ) (hk : ∀ σ, K σ → K' σ) : pStep G po K' σ := by
  unfold pStep at *
  split at h
  · obtain ⟨f, as, out, σ', h1, h2, h3, h4⟩ := h; exact ⟨f, as, out, σ', h1, h2, h3, hk _ h4⟩
  · obtain ⟨σ', h1, h2⟩ := h; exact ⟨σ', h1, hk _ h2⟩
theorem pOps_mono : ∀ {ops : List POp} {σ : St} {K K' : St → Prop}, pOps G ops K σ → (∀ σ, K σ → K' σ) → pOps G ops K' σ
  | [], _, _, _, h, hk => hk _ h
  | po :: r, _, _, _, h, hk => by
    obtain ⟨g, hg, h0, h1⟩ := h
    exact ⟨g, hg, fun e => pOps_mono (h0 e) hk, fun e => pStep_mono (h1 e) fun _ hh => pOps_mono hh hk⟩
theorem pwp_mono : ∀ {c : PCode} {Q Q' : PX → St → Prop} {σ : St}, pwp G c Q σ → (∀ e σ, Q e σ → Q' e σ) → pwp G c Q' σ := by
  intro c
  induction c with
  | skip => exact fun h hq => hq _ _ h
  | exit i => exact fun h hq => hq _ _ h
  | ret => exact fun h hq => hq _ _ h
  | region ops pre => exact fun h hq => pOps_mono h fun σ hh => hq _ _ hh
  | seq a b iha ihb =>
    intro Q Q' σ h hq
    refine iha h fun e σ hh => ?_
    cases e with
    | normal => exact ihb hh hq
    | exit i => exact hq _ _ hh
    | ret => exact hq _ _ hh
  | cond x a b iha ihb =>
    intro Q Q' σ h hq
    obtain ⟨v, hv, h1, h0⟩ := h
    exact ⟨v, hv, fun e => iha (h1 e) hq, fun e => ihb (h0 e) hq⟩
  | block i a ih =>
    intro Q Q' σ h hq
    refine ih h fun e σ hh => ?_
    cases e with
    | normal => exact hq _ _ hh
    | exit j =>
      simp only [PX.inBlock] at hh ⊢
      split
      · rename_i e; rw [if_pos e] at hh; exact hq _ _ hh
      · rename_i e; rw [if_neg e] at hh; exact hq _ _ hh
    | ret => exact hq _ _ hh
  | loop a ih =>
    intro Q Q' σ h hq
    obtain ⟨I, h0, hs⟩ := h
    refine ⟨I, h0, fun n σ' hI => ih (hs n σ' hI) fun e σ hh => ?_⟩
    cases e with
    | normal => exact hh
    | exit i => exact hq _ _ hh
    | ret => exact hq _ _ hh
  | gh g a ih =>
    intro Q Q' σ h hq
    obtain ⟨σ', h1, h2⟩ := h
    exact ⟨σ', h1, ih h2 hq⟩
  | scope a ih => exact fun h hq => ih h hq
/-- The way is cut in two. -/
theorem pwp_cut {c : PCode} {K : PX → St → Prop} (h : pwp G c K σ) (hq : ∀ e σ, K e σ → Q e σ) : pwp G c Q σ := pwp_mono h hq
end

@[simp] theorem mkSt_sl (a : List (Nat × PV)) (b : List (Nat × Tok)) (n : Nat) : (mkSt a b).sl n = lkS a n := rfl
@[simp] theorem mkSt_tk (a : List (Nat × PV)) (b : List (Nat × Tok)) (n : Nat) : (mkSt a b).tk n = lkK b n := rfl
@[simp] theorem mkSt_put (a : List (Nat × PV)) (b : List (Nat × Tok)) (d : Nat) (p : PV) : (mkSt a b).put (some d) p = mkSt ((d, p) :: a) b := rfl
@[simp] theorem put_none (σ : St) (p : PV) : σ.put none p = σ := rfl
@[simp] theorem mkSt_setT (a : List (Nat × PV)) (b : List (Nat × Tok)) (t : Nat) (k : Tok) : (mkSt a b).setT t k = mkSt a ((t, k) :: b) := rfl
def numb {α : Type} : Nat → List α → List (Nat × α)
  | _, [] => []
  | n, x :: r => (n, x) :: numb (n + 1) r
theorem numb_lkS : ∀ (xs : List PV) (k n : Nat), lkS (numb k xs) (k + n) = xs.getD n .dead
  | [], k, n => by simp [numb, lkS]
  | x :: r, k, 0 => by simp [numb, lkS]
  | x :: r, k, n + 1 => by
    have := numb_lkS r (k + 1) n
    have e : ¬ k + (n + 1) = k := by omega
    simp only [numb, lkS, if_neg e]
    rw [show k + (n + 1) = k + 1 + n by omega, this]; simp
theorem numb_lkK : ∀ (xs : List TC) (k n : Nat), lkK (numb k (xs.map fun c => ⟨0, c⟩)) (k + n) = ⟨0, xs.getD n .gone⟩
  | [], k, n => by simp [numb, lkK]
  | x :: r, k, 0 => by simp [numb, lkK]
  | x :: r, k, n + 1 => by
    have := numb_lkK r (k + 1) n
    have e : ¬ k + (n + 1) = k := by omega
    simp only [List.map_cons, numb, lkK, if_neg e]
    rw [show k + (n + 1) = k + 1 + n by omega, this]; simp
theorem entry_mk (i : Inp) : entry i = mkSt (numb 0 i.args) (numb 0 (i.toks.map fun c => ⟨0, c⟩)) := by
  unfold entry mkSt
  congr 1
  · funext n; have := numb_lkS i.args 0 n; rw [Nat.zero_add] at this; exact this.symm
  · funext n; have := numb_lkK i.toks 0 n; rw [Nat.zero_add] at this; exact this.symm
@[simp] theorem lkS_nil (n : Nat) : lkS [] n = .dead := rfl
@[simp] theorem lkS_cons (m n : Nat) (v : PV) (r : List (Nat × PV)) : lkS ((m, v) :: r) n = if n = m then v else lkS r n := rfl
@[simp] theorem lkK_nil (n : Nat) : lkK [] n = ⟨0, .gone⟩ := rfl
@[simp] theorem lkK_cons (m n : Nat) (v : Tok) (r : List (Nat × Tok)) : lkK ((m, v) :: r) n = if n = m then v else lkK r n := rfl

/-! ### a call that has tokens -/
theorem lkK_upd (f : Nat → Tok) (b : List (Nat × Tok)) : ∀ (l : List Nat) (n : Nat), lkK (l.map (fun u => (u, f u)) ++ b) n = if n ∈ l then f n else lkK b n
  | [], n => by simp
  | a :: r, n => by
    simp only [List.map_cons, List.cons_append, lkK]
    by_cases h : n = a
    · subst h; simp
    · rw [if_neg h, lkK_upd f b r n]; simp [h]
theorem stepCall_mk (a : List (Nat × PV)) (b : List (Nat × Tok)) (A N : List Nat) (dst : Option Nat) (out : Out) (h : out.toks.length = A.length ∧ out.news.length = N.length) :
    stepCall (mkSt a b) A N dst out = some ((mkSt a ((A ++ N).map (fun u => (u, newT (mkSt a b) A N (out.toks ++ out.news) u)) ++ b)).put dst (up (mUp (mkSt a b) A N) out.res)) := by
  unfold stepCall
  rw [if_pos h]
  congr 2
  unfold mkSt
  congr 1
  funext u
  rw [lkK_upd]
  split
  · rfl
  · rename_i hu; exact newT_other hu
/-- A call with tokens. -/
theorem pCall_tok {G : Env} {k : CK} {vs : List PV} {K : St → Prop} {f : FuncId} {as : List PV} {i : Inp} {out : Out} {A N : List Nat} {d : Option Nat} {a : List (Nat × PV)} {b : List (Nat × Tok)} (hc : CT G f i out) (hf : callee k vs = some (f, as))
    (hi : callInp (mkSt a b) A as = i) (hl : out.toks.length = A.length ∧ out.news.length = N.length)
    (hK : K ((mkSt a ((A ++ N).map (fun u => (u, newT (mkSt a b) A N (out.toks ++ out.news) u)) ++ b)).put d (up (mUp (mkSt a b) A N) out.res))) : pCall G k A N d vs (mkSt a b) K :=
  ⟨f, as, out, _, hf, hi ▸ hc, stepCall_mk a b A N d out hl, hK⟩

/-! ### what the operations that read alone come to -/
section
variable {G : Env} {σ : St} {ft : List Nat}
@[simp] theorem val_s (n : Nat) : PArg.val G σ ft (.s n) = σ.sl n := rfl
@[simp] theorem val_z (n : Nat) (sh : List (Option Nat)) : PArg.val G σ ft (.z n sh) = frzV σ ft sh (σ.sl n) := rfl
@[simp] theorem val_c (x : FV) : PArg.val G σ ft (.c x) = .f x := rfl
@[simp] theorem val_g (n : Nat) : PArg.val G σ ft (.g n) = .fp (G.glob n) 0 := rfl
@[simp] theorem val_fn (f : FuncId) : PArg.val G σ ft (.fn f) = .f (.fn (.func f)) := rfl
@[simp] theorem sR_mv (x : PV) : semR σ ft .mv [x] = some x := rfl
@[simp] theorem sR_pick (c : Bool) (a b : PV) : semR σ ft .pick [.f (.bool c), a, b] = some (if c = true then a else b) := rfl
@[simp] theorem sR_build (z : List FV) (ps : List (Nat × Nat)) (as : List PV) : semR σ ft (.build z ps) as = (fillP (z.map .f) ps as).map .ag := rfl
@[simp] theorem sR_ld1_fp (c : List FV) (o : Nat) : semR σ ft .ld1 [.fp c o] = (c[o]?).map .f := rfl
@[simp] theorem sR_ldn_fp (n : Nat) (c : List FV) (o : Nat) : semR σ ft (.ldn n) [.fp c o] = getN (c.map .f) o n := rfl
def ld1T (c : TC) (i o : Nat) : Option PV := match c with
  | .box _ _ cs => if i = 0 then cs[o]? else none
  | .row _ _ _ _ xs => ((xs[i]?).bind (·[o]?)).map .f
  | .gone => none
def ldnT (n : Nat) (c : TC) (i o : Nat) : Option PV := match c with
  | .box _ _ cs => if i = 0 then getN cs o n else none
  | .row _ _ _ _ xs => (xs[i]?).bind fun c => getN (c.map .f) o n
  | .gone => none
@[simp] theorem ld1T_box (ty : TypeId) (fz : Bool) (cs : List PV) (o : Nat) : ld1T (.box ty fz cs) 0 o = cs[o]? := rfl
@[simp] theorem ld1T_row (e : TypeId) (sz l u : Nat) (xs : List (List FV)) (i o : Nat) : ld1T (.row e sz l u xs) i o = ((xs[i]?).bind (·[o]?)).map .f := rfl
@[simp] theorem ldnT_box (n : Nat) (ty : TypeId) (fz : Bool) (cs : List PV) (o : Nat) : ldnT n (.box ty fz cs) 0 o = getN cs o n := rfl
@[simp] theorem ldnT_row (n : Nat) (e : TypeId) (sz l u : Nat) (xs : List (List FV)) (i o : Nat) : ldnT n (.row e sz l u xs) i o = (xs[i]?).bind fun c => getN (c.map .f) o n := rfl
@[simp] theorem sR_ld1_ptr (t i o s : Nat) : semR σ ft .ld1 [.ptr t i o s] = ld1T (look σ ft t s) i o := by simp only [semR]; cases look σ ft t s <;> rfl
@[simp] theorem sR_ldn_ptr (n t i o s : Nat) : semR σ ft (.ldn n) [.ptr t i o s] = ldnT n (look σ ft t s) i o := by simp only [semR]; cases look σ ft t s <;> rfl
@[simp] theorem sR_bin (op : BinOp) (a b : FV) : semR σ ft (.bin op) [.f a, .f b] = (binF op a b).map .f := rfl
@[simp] theorem sR_beq (neg a b : Bool) : semR σ ft (.beq neg) [.f (.bool a), .f (.bool b)] = some (.f (.bool (if neg = true then decide (a ≠ b) else decide (a = b)))) := rfl
@[simp] theorem sR_ieq_nil (neg : Bool) : semR σ ft (.ieq neg) [.f .nili, .f .nili] = some (.f (.bool !neg)) := rfl
@[simp] theorem sR_ieq_err (neg : Bool) : semR σ ft (.ieq neg) [.f .err, .f .nili] = some (.f (.bool neg)) := rfl
@[simp] theorem sR_un (op : UnOp) (a : FV) : semR σ ft (.un op) [.f a] = (unF op a).map .f := rfl
@[simp] theorem sR_cvi (k k' : IntKind) (n : Int) : semR σ ft (.cvi k) [.f (.int k' n)] = some (.f (.int k (k.wrap n))) := rfl
@[simp] theorem sR_s2s (s : List UInt8) : semR σ ft .s2s [.f (.str s)] = some (.f (.str s)) := rfl
@[simp] theorem sR_mki_f (t : TypeId) (x : FV) : semR σ ft (.mki t) [.f x] = some (.f (.ifs t x)) := rfl
@[simp] theorem sR_mkf_nil (fn : Fn) (nf : Nat) : semR σ ft (.mkf fn nf) [] = some (.f (.fn fn)) := rfl
@[simp] theorem sR_mkf (fn : Fn) (nf : Nat) (a : PV) (r : List PV) : semR σ ft (.mkf fn nf) (a :: r) = some (.fn fn ((a :: r).take nf) ((a :: r).drop nf)) := rfl
@[simp] theorem sR_fad_fp (off : Nat) (c : List FV) (o : Nat) : semR σ ft (.fad off) [.fp c o] = some (.fp c (o + off)) := rfl
@[simp] theorem sR_fad_ptr (off t i o s : Nat) : semR σ ft (.fad off) [.ptr t i o s] = if cur σ ft t s = true then some (.ptr t i (o + off) s) else none := rfl
@[simp] theorem sR_ixs_sl (sz sz' : Nat) (xs : List (List FV)) (k : IntKind) (i : Int) : semR σ ft (.ixs sz) [.f (.sl sz' xs), .f (.int k i)] = if sz = sz' then (nth xs i).map fun c => .fp c 0 else none := rfl
def ixsT (c : TC) (sz t off len s : Nat) (i : Int) : Option PV := match c with
  | .row _ sz' _ _ _ => if sz = sz' ∧ 0 ≤ i ∧ i < len then some (.ptr t (off + i.toNat) 0 s) else none
  | _ => none
@[simp] theorem ixsT_row (e : TypeId) (sz' l u : Nat) (xs : List (List FV)) (sz t off len s : Nat) (i : Int) : ixsT (.row e sz' l u xs) sz t off len s i = if sz = sz' ∧ 0 ≤ i ∧ i < len then some (.ptr t (off + i.toNat) 0 s) else none := rfl
@[simp] theorem sR_ixs_ts (sz t off len s : Nat) (k : IntKind) (i : Int) : semR σ ft (.ixs sz) [.ts t off len s, .f (.int k i)] = ixsT (look σ ft t s) sz t off len s i := by simp only [semR]; cases look σ ft t s <;> rfl
@[simp] theorem sR_ixa_ptr (n sz t i o s : Nat) (k : IntKind) (j : Int) : semR σ ft (.ixa n sz) [.ptr t i o s, .f (.int k j)] = if cur σ ft t s = true ∧ 0 ≤ j ∧ j < n then some (.ptr t i (o + j.toNat * sz) s) else none := rfl
@[simp] theorem sR_ixa_fp (n sz : Nat) (c : List FV) (o : Nat) (k : IntKind) (j : Int) : semR σ ft (.ixa n sz) [.fp c o, .f (.int k j)] = if 0 ≤ j ∧ j < n then some (.fp c (o + j.toNat * sz)) else none := rfl
@[simp] theorem sR_fld1 (off : Nat) (xs : List PV) : semR σ ft (.fld1 off) [.ag xs] = xs[off]? := rfl
@[simp] theorem sR_fldn (off n : Nat) (xs : List PV) : semR σ ft (.fldn off n) [.ag xs] = getN xs off n := rfl
@[simp] theorem sR_ixv1 (n : Nat) (xs : List PV) (k : IntKind) (j : Int) : semR σ ft (.ixv1 n) [.ag xs, .f (.int k j)] = if 0 ≤ j ∧ j < n then xs[j.toNat]? else none := rfl
@[simp] theorem sR_ixvn (n sz : Nat) (xs : List PV) (k : IntKind) (j : Int) : semR σ ft (.ixvn n sz) [.ag xs, .f (.int k j)] = if 0 ≤ j ∧ j < n then getN xs (j.toNat * sz) sz else none := rfl
@[simp] theorem sR_ixc (s : List UInt8) (k : IntKind) (i : Int) : semR σ ft .ixc [.f (.str s), .f (.int k i)] = (nth s i).map fun b => .f (.int .u8 b.toNat) := rfl
@[simp] theorem sR_ext (i : Nat) (xs : List PV) : semR σ ft (.ext i) [.tup xs] = xs[i]? := rfl
@[simp] theorem sR_len_sl (sz : Nat) (xs : List (List FV)) : semR σ ft .len [.f (.sl sz xs)] = some (.f (.int .i64 xs.length)) := rfl
@[simp] theorem sR_len_nils : semR σ ft .len [.f .nils] = some (.f (.int .i64 0)) := rfl
@[simp] theorem sR_len_ts (t off len s : Nat) : semR σ ft .len [.ts t off len s] = if cur σ ft t s = true then some (.f (.int .i64 len)) else none := rfl
@[simp] theorem sR_lens (s : List UInt8) : semR σ ft .lens [.f (.str s)] = some (.f (.int .i64 s.length)) := rfl
@[simp] theorem sR_lenc (n : Nat) (x : PV) : semR σ ft (.lenc n) [x] = some (.f (.int .i64 n)) := rfl
@[simp] theorem sR_max (k k' : IntKind) (a b : Int) : semR σ ft .max [.f (.int k a), .f (.int k' b)] = some (.f (.int k (if b > a then b else a))) := rfl
@[simp] theorem sR_min (k k' : IntKind) (a b : Int) : semR σ ft .min [.f (.int k a), .f (.int k' b)] = some (.f (.int k (if b < a then b else a))) := rfl
@[simp] theorem sR_nck_ptr (t i o s : Nat) : semR σ ft .nck [.ptr t i o s] = if cur σ ft t s = true then some (.ptr t i o s) else none := rfl
@[simp] theorem sR_nck_fp (c : List FV) (o : Nat) : semR σ ft .nck [.fp c o] = some (.fp c o) := rfl
@[simp] theorem sR_nck_fn (f : FuncId) : semR σ ft .nck [.f (.fn (.func f))] = some (.f (.fn (.func f))) := rfl
@[simp] theorem sR_nck_cl (f : FuncId) (a b : List PV) : semR σ ft .nck [.fn (.func f) a b] = some (.fn (.func f) a b) := rfl
@[simp] theorem frzV_nil (p : PV) : frzV σ ft [] p = p := rfl
@[simp] theorem frzV_sl (s : Option Nat) (sz : Nat) (xs : List (List FV)) : frzV σ ft [s] (.f (.sl sz xs)) = .f (.sl sz xs) := by cases s <;> rfl
def frzT (c : TC) (sz t off len s : Nat) : PV := match c with
  | .row _ sz' l _ xs => if sz' = sz ∧ off + len ≤ l ∧ off + len ≤ xs.length then .f (.sl sz ((xs.drop off).take len)) else .ts t off len s
  | _ => .ts t off len s
@[simp] theorem frzT_row (e : TypeId) (sz' l u : Nat) (xs : List (List FV)) (sz t off len s : Nat) : frzT (.row e sz' l u xs) sz t off len s = if sz' = sz ∧ off + len ≤ l ∧ off + len ≤ xs.length then .f (.sl sz ((xs.drop off).take len)) else .ts t off len s := rfl
@[simp] theorem frzC_none (p : PV) : frzC σ ft none p = p := by cases p <;> rfl
@[simp] theorem frzC_ts (sz t off len s : Nat) : frzC σ ft (some sz) (.ts t off len s) = frzT (look σ ft t s) sz t off len s := by simp only [frzC]; cases look σ ft t s <;> rfl
@[simp] theorem frzC_sl (sz sz' : Nat) (xs : List (List FV)) : frzC σ ft (some sz) (.f (.sl sz' xs)) = .f (.sl sz' xs) := rfl
@[simp] theorem frzC_nils (sz : Nat) : frzC σ ft (some sz) (.f .nils) = .f (.sl sz []) := rfl
@[simp] theorem frzV_ts (sz t off len s : Nat) : frzV σ ft [some sz] (.ts t off len s) = frzT (look σ ft t s) sz t off len s := by rw [← frzC_ts]; rfl
@[simp] theorem frzV_ag (s : Option Nat) (r : List (Option Nat)) (xs : List PV) : frzV σ ft (s :: r) (.ag xs) = .ag (frzL σ ft (s :: r) xs) := rfl
@[simp] theorem frzL_cons (s : Option Nat) (r : List (Option Nat)) (p : PV) (q : List PV) : frzL σ ft (s :: r) (p :: q) = frzC σ ft s p :: frzL σ ft r q := rfl
@[simp] theorem frzL_nil (q : List PV) : frzL σ ft [] q = q := by cases q <;> rfl
@[simp] theorem frzV_nils (sz : Nat) : frzV σ ft [some sz] (.f .nils) = .f (.sl sz []) := rfl
end
/-! ### what the operations that write come to -/
section
variable {σ : St} {ft : List Nat}
@[simp] theorem sA_alloc (id s : Nat) (ty : TypeId) (z : List FV) : semA id s (.alloc ty z) [] = some (.ptr id 0 0 s, .box ty false (z.map .f)) := rfl
@[simp] theorem sA_box (id s : Nat) (ty : TypeId) (n : Nat) (v : PV) : semA id s (.box ty n) [v] = v.cells.bind fun cs => if cs.length = n then some (.ptr id 0 0 s, .box ty false cs) else none := by
  simp only [semA]; cases v.cells <;> rfl
@[simp] theorem sA_bsl (id s : Nat) (e : TypeId) (sz n : Nat) (z : List FV) (ps : List (Nat × Nat)) (as : List PV) : semA id s (.bsl e sz n z ps) as =
    (fillP ((List.replicate n z).flatten.map .f) ps as).bind fun cs => (fvs? cs).bind fun ys => if ys.length = n * sz then some (.ts id 0 n s, .row e sz 0 0 (chunk sz n ys)) else none := by
  simp only [semA]
  cases fillP ((List.replicate n z).flatten.map .f) ps as with
  | none => rfl
  | some cs => cases h : fvs? cs <;> simp [h]
@[simp] theorem sA_s2b (id s : Nat) (e : TypeId) (t : List UInt8) : semA id s (.s2b e) [.f (.str t)] = if t.length ≤ i64max then some (.ts id 0 t.length s, .row e 1 0 0 (ofBytes t)) else none := rfl
@[simp] theorem sA_mks (id s : Nat) (e : TypeId) (sz bytes : Nat) (z : List FV) (k k' : IntKind) (n m : Int) : semA id s (.mks e sz bytes z) [.f (.int k n), .f (.int k' m)] =
    if n = m ∧ 0 ≤ n ∧ n * bytes ≤ 140737488355328 ∧ n ≤ i64max then some (.ts id 0 n.toNat s, .row e sz 0 0 (List.replicate n.toNat z)) else none := rfl
def semWT (c : TC) (i o : Nat) (xs : List PV) : Option TC := match c with
  | .box ty false cs => if i = 0 ∧ o + xs.length ≤ cs.length then some (.box ty false (splice cs o xs)) else none
  | .row e sz l u ys => match fvs? xs, ys[i]? with
    | some zs, some c => if u ≤ i ∧ o + zs.length ≤ c.length then some (.row e sz l u (ys.set i (splice c o zs))) else none
    | _, _ => none
  | _ => none
@[simp] theorem semWT_box (ty : TypeId) (cs : List PV) (i o : Nat) (xs : List PV) : semWT (.box ty false cs) i o xs = if i = 0 ∧ o + xs.length ≤ cs.length then some (.box ty false (splice cs o xs)) else none := rfl
@[simp] theorem semWT_row (e : TypeId) (sz l u : Nat) (ys : List (List FV)) (i o : Nat) (xs : List PV) : semWT (.row e sz l u ys) i o xs = (fvs? xs).bind fun zs => (ys[i]?).bind fun c =>
    if u ≤ i ∧ o + zs.length ≤ c.length then some (.row e sz l u (ys.set i (splice c o zs))) else none := by
  simp only [semWT]; cases fvs? xs <;> cases ys[i]? <;> rfl
@[simp] theorem sW (n t i o s : Nat) (v : PV) : stepW σ ft n [.ptr t i o s, v] = v.cells.bind fun xs => if xs.length = n then (semWT (look σ ft t s) i o xs).map fun c => σ.setT t ⟨(σ.tk t).st, c⟩ else none := by
  simp only [stepW, semW]
  cases v.cells with
  | none => rfl
  | some xs =>
    simp only [Option.bind_some]
    cases look σ ft t s with
    | gone => rfl
    | box ty fz cs => cases fz <;> rfl
    | row e sz l u ys => rfl
def appT (c : TC) (e sz bytes n t st : Nat) (ys : List (List FV)) : Option (Nat × TC × PV) := match c with
  | .row e' sz' _ u xs => if e = e' ∧ sz = sz' ∧ n ≤ xs.length ∧ u ≤ n ∧ (n + ys.length) * bytes ≤ 140737488355328 ∧ n + ys.length ≤ i64max then
      some (t, .row e sz 0 u (xs.take n ++ ys), .ts t 0 (n + ys.length) (st + 1)) else none
  | _ => none
@[simp] theorem appT_row (e' sz' l u : Nat) (xs : List (List FV)) (e sz bytes n t st : Nat) (ys : List (List FV)) : appT (.row e' sz' l u xs) e sz bytes n t st ys =
    if e = e' ∧ sz = sz' ∧ n ≤ xs.length ∧ u ≤ n ∧ (n + ys.length) * bytes ≤ 140737488355328 ∧ n + ys.length ≤ i64max then
      some (t, .row e sz 0 u (xs.take n ++ ys), .ts t 0 (n + ys.length) (st + 1)) else none := rfl
@[simp] theorem sApp_ts (nid e sz bytes t n s : Nat) (x : PV) : semApp σ ft nid e sz bytes [.ts t 0 n s, x] = (srcOf σ ft sz x).bind fun ys => appT (look σ ft t s) e sz bytes n t (σ.tk t).st ys := by
  simp only [semApp]
  cases look σ ft t s with
  | gone => cases srcOf σ ft sz x <;> rfl
  | box ty fz cs => cases srcOf σ ft sz x <;> rfl
  | row e' sz' l u xs => cases srcOf σ ft sz x <;> rfl
@[simp] theorem sApp_nils (nid e sz bytes : Nat) (x : PV) : semApp σ ft nid e sz bytes [.f .nils, x] = (srcOf σ ft sz x).bind fun ys =>
    if ys.length * bytes ≤ 140737488355328 ∧ ys.length ≤ i64max then some (nid, .row e sz 0 0 ys, .ts nid 0 ys.length ((σ.tk nid).st + 1)) else none := by
  simp only [semApp]; cases srcOf σ ft sz x <;> rfl
@[simp] theorem azp_row {σ : St} (d nid n s : Nat) (e : TypeId) (sz u : Nat) (xs : List (List FV)) : azp σ nid (some d) (.ts nid 0 n s, .row e sz 0 u xs) = if n = xs.length ∧ s = (σ.tk nid).st + 1 then some ((σ.setT nid ⟨(σ.tk nid).st + 1, .gone⟩).put (some d) (.f (.sl sz xs))) else none := by
  simp [azp]
@[simp] theorem apz_row {σ : St} (d t : Nat) (e : TypeId) (sz l u : Nat) (xs : List (List FV)) (p : PV) : apz σ (some d) (t, .row e sz l u xs, p) = some ((σ.setT t ⟨(σ.tk t).st + 1, .gone⟩).put (some d) (.f (.sl sz xs))) := rfl
def srcT' (c : TC) (sz off len : Nat) : Option (List (List FV)) := match c with
  | .row _ sz' _ _ xs => if sz = sz' ∧ off + len ≤ xs.length then some ((xs.drop off).take len) else none
  | _ => none
@[simp] theorem srcT'_row (e sz' l u : Nat) (xs : List (List FV)) (sz off len : Nat) : srcT' (.row e sz' l u xs) sz off len = if sz = sz' ∧ off + len ≤ xs.length then some ((xs.drop off).take len) else none := rfl
@[simp] theorem srcv_ts (sz t off len s : Nat) : srcOf σ ft sz (.ts t off len s) = srcT' (look σ ft t s) sz off len := by simp only [srcOf]; cases look σ ft t s <;> rfl
@[simp] theorem srcv_sl (sz sz' : Nat) (xs : List (List FV)) : srcOf σ ft sz (.f (.sl sz' xs)) = if sz = sz' then some xs else none := rfl
@[simp] theorem srcv_nils (sz : Nat) : srcOf σ ft sz (.f .nils) = some [] := rfl
@[simp] theorem srcv_str (sz : Nat) (s : List UInt8) : srcOf σ ft sz (.f (.str s)) = if sz = 1 then some (ofBytes s) else none := rfl
def slcT (c : TC) (sz t off len s : Nat) (l h : Option Int) : Option PV := match c with
  | .row _ sz' _ _ _ => if sz = sz' then (bnds len l h).map fun ab => .ts t (off + ab.1) (ab.2 - ab.1) s else none
  | _ => none
@[simp] theorem slcT_row (e sz' l' u : Nat) (xs : List (List FV)) (sz t off len s : Nat) (l h : Option Int) : slcT (.row e sz' l' u xs) sz t off len s l h = if sz = sz' then (bnds len l h).map fun ab => .ts t (off + ab.1) (ab.2 - ab.1) s else none := rfl
@[simp] theorem sR_slc_ts (sz : Nat) (lo hi : Bool) (t off len s : Nat) (r : List PV) : semR σ ft (.slc sz lo hi) (.ts t off len s :: r) = (loHi lo hi r).bind fun lh => slcT (look σ ft t s) sz t off len s lh.1 lh.2 := by
  simp only [semR]; cases loHi lo hi r <;> cases look σ ft t s <;> rfl
@[simp] theorem sR_slc_sl (sz sz' : Nat) (lo hi : Bool) (xs : List (List FV)) (r : List PV) : semR σ ft (.slc sz lo hi) (.f (.sl sz' xs) :: r) = (loHi lo hi r).bind fun lh =>
    if sz = sz' then (bnds xs.length lh.1 lh.2).map fun ab => .f (.sl sz ((xs.drop ab.1).take (ab.2 - ab.1))) else none := by
  simp only [semR]; cases loHi lo hi r <;> rfl
def slaT (c : TC) (n sz i o : Nat) : Option PV := match c with
  | .box _ true cs => if i = 0 ∧ 0 < n ∧ o + n * sz ≤ cs.length then (fvs? ((cs.drop o).take (n * sz))).map fun ys => .f (.sl sz (chunk sz n ys)) else none
  | _ => none
@[simp] theorem slaT_box (ty : TypeId) (cs : List PV) (n sz i o : Nat) : slaT (.box ty true cs) n sz i o = if i = 0 ∧ 0 < n ∧ o + n * sz ≤ cs.length then (fvs? ((cs.drop o).take (n * sz))).map fun ys => .f (.sl sz (chunk sz n ys)) else none := rfl
@[simp] theorem sR_sla (n sz t i o s : Nat) : semR σ ft (.sla n sz) [.ptr t i o s] = slaT (look σ ft t s) n sz i o := by
  simp only [semR]
  cases look σ ft t s with
  | box ty fz cs => cases fz <;> rfl
  | _ => rfl
@[simp] theorem sR_sls (lo hi : Bool) (s : List UInt8) (r : List PV) : semR σ ft (.sls lo hi) (.f (.str s) :: r) = (loHi lo hi r).bind fun lh => (bnds s.length lh.1 lh.2).map fun ab => .f (.str ((s.drop ab.1).take (ab.2 - ab.1))) := by
  simp only [semR]; cases loHi lo hi r <;> rfl
@[simp] theorem sR_b2s_sl (sz : Nat) (xs : List (List FV)) : semR σ ft .b2s [.f (.sl sz xs)] = (bytesOf xs).map fun s => .f (.str s) := rfl
end
attribute [simp] fillP splice chunk
@[simp] theorem dnL_map_f (m : Nat → Option (Nat × Nat × Nat)) : ∀ l : List FV, dnL m (l.map .f) = l.map .f
  | [] => rfl
  | x :: r => by simp only [List.map_cons, dnL, dn, dnL_map_f m r]
@[simp] theorem upL_map_f (m : Nat → Option (Nat × Nat)) : ∀ l : List FV, upL m (l.map .f) = l.map .f
  | [] => rfl
  | x :: r => by simp only [List.map_cons, upL, up, upL_map_f m r]
@[simp] theorem dnL_map_g {α : Type} (m : Nat → Option (Nat × Nat × Nat)) (g : α → FV) : ∀ l : List α, dnL m (l.map fun n => .f (g n)) = l.map fun n => .f (g n)
  | [] => rfl
  | x :: r => by simp only [List.map_cons, dnL, dn, dnL_map_g m g r]
@[simp] theorem upL_map_g {α : Type} (m : Nat → Option (Nat × Nat)) (g : α → FV) : ∀ l : List α, upL m (l.map fun n => .f (g n)) = l.map fun n => .f (g n)
  | [] => rfl
  | x :: r => by simp only [List.map_cons, upL, up, upL_map_g m g r]
@[simp] theorem dnL_map_c {α : Type} (m : Nat → Option (Nat × Nat × Nat)) (g : α → FV) (l : List α) : dnL m (l.map (PV.f ∘ g)) = l.map (PV.f ∘ g) := dnL_map_g m g l
@[simp] theorem upL_map_c {α : Type} (m : Nat → Option (Nat × Nat)) (g : α → FV) (l : List α) : upL m (l.map (PV.f ∘ g)) = l.map (PV.f ∘ g) := upL_map_g m g l
attribute [simp] up upL
attribute [simp] numb look cur ghSt kM nst PV.one PV.cells fvs? loHi intOf? callee dn dnL dnC
end Go.Absw
